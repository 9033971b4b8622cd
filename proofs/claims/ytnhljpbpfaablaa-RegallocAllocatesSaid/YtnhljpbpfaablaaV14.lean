/- Value semantics, part 14: entries renamed (what is dead is dropped from among them). Conditions: none. -/
import Derived.Test.YtnhljpbpfaablaaV13
set_option linter.unusedSimpArgs false
set_option linter.unusedVariables false
namespace Go.Proofs.Ytnhljpbpfaablaa.VS
open Go Go.RowKit

/-- The new slot, the old one. -/
inductive SRen (σ : Nat → Nat) : Slot → Slot → Prop
  | undef (s : Slot) : SRen σ .undef s
  | nil : SRen σ .nil .nil
  | r (x : RV) : SRen σ (.r x) (.r x)
  | tup (xs : List RV) : SRen σ (.tup xs) (.tup xs)
  | fp (cs : List FV) : SRen σ (.fp cs) (.fp cs)
  | box (p o : Nat) : SRen σ (.box p o) (.box (σ p) o)
  | own (p n : Nat) : SRen σ (.own p n) (.own (σ p) n)
  | clo (f : FuncId) (ps : List Nat) : SRen σ (.clo f ps) (.clo f (ps.map σ))
inductive ERen (σ : Nat → Nat) : Ent → Ent → Prop
  | gone (e : Ent) : ERen σ .gone e
  | box (ty : TypeId) {cs cs' : List Slot} (h : All2 (SRen σ) cs' cs) : ERen σ (.box ty cs') (.box ty cs)
  | row (e : TypeId) (sz : Nat) (xs : List (List FV)) : ERen σ (.row e sz xs) (.row e sz xs)
  | fro (xs : List (List FV)) : ERen σ (.fro xs) (.fro xs)
def Slot.refs : Slot → List Nat
  | .box p _ => [p]
  | .own p _ => [p]
  | .op p _ _ => [p]
  | .opb p _ _ _ => [p]
  | .clo _ ps => ps
  | .bsl p _ _ => [p]
  | _ => []
def Ent.isGone : Ent → Bool
  | .gone => true
  | _ => false
def Slot.fine (O : List Ent) (s : Slot) : Bool := s.refs.all fun p => !(O.getD p .gone).isGone
def Ent.fine (O : List Ent) : Ent → Bool
  | .box _ cs => cs.all (Slot.fine O)
  | _ => true
theorem Slot.fine.ne {O : List Ent} {s : Slot} (h : s.fine O = true) : ∀ p ∈ s.refs, O.getD p .gone ≠ .gone := by
  intro p hp he
  have := List.all_eq_true.1 h p hp
  rw [he] at this
  cases this
theorem SRen.rep {σ : Nat → Nat} {w : World} {ok ok' : Nat → Prop} {ents ents' : Nat → Ent} {ρ : Nat → Value} (hk : Keeps w w ok ok') (hE : ∀ p, ERen σ (ents' p) (ents (σ p))) {s' s : Slot} {v : Value} (h : SRen σ s' s)
    (hlive : ∀ p ∈ s'.refs, ents' p ≠ .gone) (hr : SlotRep w ok ents ρ s v) : SlotRep w ok' ents' (fun p => ρ (σ p)) s' v := by
  have hbox : ∀ p ty cs, ents' p ≠ .gone → ents (σ p) = .box ty cs → ∃ cs', ents' p = .box ty cs' := by
    intro p ty cs hg he
    have h := hE p
    rw [he] at h
    generalize hx : ents' p = x at h hg
    cases h with
    | gone => exact absurd rfl hg
    | box ty h => exact ⟨_, rfl⟩
  cases h with
  | undef => trivial
  | nil => exact hr
  | r x => exact RV.rep.mono hk hr
  | tup xs => obtain ⟨vs, e, h⟩ := hr; exact ⟨vs, e, h.imp fun _ _ => RV.rep.mono hk⟩
  | fp cs => obtain ⟨ad, vs, e, h, hc⟩ := hr; exact ⟨ad, vs, e, h.imp fun _ _ => FRep.mono hk, fun i u hu => ⟨(hk _ (hc i u hu).1 (by have := World.block_lt_of_cell? w _ (hc i u hu).2; rwa [add_block] at this)).2, (hc i u hu).2⟩⟩
  | box p o =>
    obtain ⟨ty, cs, g, h1, h2, h3⟩ := hr
    obtain ⟨cs', h4⟩ := hbox p ty cs (hlive p (.head _)) h1
    exact ⟨ty, cs', g, h4, h2, h3⟩
  | own p n =>
    obtain ⟨l, h1, h2, h3⟩ := hr
    have hg := hlive p (.head _)
    have h := hE p
    refine ⟨l, ?_, h2, h3⟩
    generalize ents (σ p) = y at h h1
    generalize ents' p = x at h hg
    cases h with
    | gone => exact absurd rfl hg
    | box ty h => cases h1
    | row => exact h1
    | fro => exact h1
  | clo f ps =>
    obtain ⟨us, e, hA⟩ := hr
    refine ⟨us, e, .of_get (by have := hA.length; simpa using this) (fun i p u hp hu => ?_)⟩
    obtain ⟨u', hu', ty, cs, g, h1, h2, h3⟩ := hA.get i (σ p) (by simp [hp])
    rw [hu] at hu'
    cases hu'
    obtain ⟨cs', h4⟩ := hbox p ty cs (hlive p (List.mem_of_getElem? hp)) h1
    exact ⟨ty, cs', g, h4, h2, h3⟩
/-- Of a list of slots by their temporaries: each is an old one, renamed. -/
inductive KeptR (σ : Nat → Nat) (E : List (Nat × Slot)) : List (Nat × Slot) → Prop
  | nil : KeptR σ E []
  | cons {t : Nat} {s s' : Slot} {l : List (Nat × Slot)} (h : Look E t s) (hr : SRen σ s' s) (k : KeptR σ E l) : KeptR σ E ((t, s') :: l)
theorem KeptR.ok {σ : Nat → Nat} {E E' : List (Nat × Slot)} (h : KeptR σ E E') : ∀ t, SRen σ (look E' t) (look E t) := by
  induction h with
  | nil => intro t; exact .undef _
  | cons h hr _ ih =>
    intro t
    rename_i t' s s' l _
    simp only [look]
    by_cases e : t' = t
    · subst e
      simp only [Nat.beq_refl, cond_true, h.eq]
      exact hr
    · have hb : Nat.beq t' t = false := by rw [← Bool.not_eq_true, Nat.beq_eq]; exact e
      rw [hb, cond_false]; exact ih t
inductive ERens (σ : Nat → Nat) (O : List Ent) : Nat → List Ent → Prop
  | nil (k : Nat) : ERens σ O k []
  | cons {k : Nat} {e : Ent} {l : List Ent} (h : ERen σ e (O.getD (σ k) .gone)) (t : ERens σ O (k + 1) l) : ERens σ O k (e :: l)
theorem ERens.ok {σ : Nat → Nat} {O : List Ent} {k : Nat} {l : List Ent} (h : ERens σ O k l) : ∀ p, ERen σ (l.getD p .gone) (O.getD (σ (k + p)) .gone) := by
  induction h with
  | nil => intro p; simp; exact .gone _
  | cons h _ ih =>
    intro p
    cases p with
    | zero => exact h
    | succ p =>
      have := ih p
      rw [Nat.add_assoc, Nat.add_comm 1 p] at this
      exact this
theorem look_fine {O : List Ent} {E : List (Nat × Slot)} (h : (E.all fun x => x.2.fine O) = true) (t : Nat) : (look E t).fine O = true := by
  rcases look_mem (E := E) (t := t) with h1 | ⟨x, hx, h1⟩
  · rw [h1]; rfl
  · rw [← h1]; exact List.all_eq_true.1 h x hx
theorem weak_ren {N : Nat} {S S' : St} (m : List Nat) (hk : KeptR (fun p => m.getD p 0) S.env S'.env) (he : ERens (fun p => m.getD p 0) S.ents 0 S'.ents) (hf : (S'.env.all fun x => x.2.fine S'.ents) = true) (hfe : S'.ents.all (Ent.fine S'.ents) = true) (hn : m.length = S'.ents.length) (hd : m.Nodup) : Weak N S S' := by
  intro w0 ok0 a w hr
  obtain ⟨ρ, hR⟩ := hr
  have hE : ∀ p, ERen (fun p => m.getD p 0) (S'.o p) (S.o (m.getD p 0)) := fun p => by have := he.ok p; rwa [Nat.zero_add] at this
  have hlive : ∀ p, (S'.o p).live → (S.o (m.getD p 0)).live ∧ p < m.length := by
    intro p hp
    refine ⟨?_, ?_⟩
    · have h := hE p
      generalize S'.o p = x at h hp
      generalize S.o (m.getD p 0) = y at h
      cases h with
      | gone => exact hp.elim
      | box => trivial
      | row => trivial
      | fro => exact hp.elim
    · rcases Nat.lt_or_ge p S'.ents.length with h | h
      · rw [hn]; exact h
      · have : S'.o p = .gone := by show S'.ents.getD p .gone = .gone; rw [List.getD_eq_getElem?_getD, List.getElem?_eq_none h]; rfl
        rw [this] at hp; exact hp.elim
  have hok : Keeps w w (okS w0 ok0 S.o ρ) (okS w0 ok0 S'.o (fun p => ρ (m.getD p 0))) := fun k hk0 _ => ⟨rfl, hk0.1, fun p hp => hk0.2 _ (hlive p hp).1⟩
  refine ⟨fun p => ρ (m.getD p 0), hR.size, hR.defers, hR.below, fun p q g hp hq hgp hgq => ?_, fun p => ?_, fun t => ?_⟩
  · obtain ⟨h1, h2⟩ := hlive p hp
    obtain ⟨h3, h4⟩ := hlive q hq
    have h5 := hR.inj _ _ g h1 h3 hgp hgq
    rw [List.getD_eq_getElem?_getD, List.getD_eq_getElem?_getD, List.getElem?_eq_getElem h2, List.getElem?_eq_getElem h4] at h5
    have hpw := List.pairwise_iff_getElem.1 hd
    rcases Nat.lt_trichotomy p q with hlt | heq | hgt
    · exact absurd h5 (hpw p q h2 h4 hlt)
    · exact heq
    · exact absurd h5.symm (hpw q p h4 h2 hgt)
  · have h := hE p
    have hq := hR.ent (m.getD p 0)
    have hfp : (S'.o p).fine S'.ents = true := by
      rcases Nat.lt_or_ge p S'.ents.length with hlt | hge
      · refine List.all_eq_true.1 hfe _ ?_
        show S'.ents.getD p .gone ∈ S'.ents
        rw [List.getD_eq_getElem?_getD, List.getElem?_eq_getElem hlt]
        exact List.getElem_mem hlt
      · have : S'.o p = .gone := by show S'.ents.getD p .gone = .gone; rw [List.getD_eq_getElem?_getD, List.getElem?_eq_none hge]; rfl
        rw [this]; rfl
    generalize hx : S'.o p = x at h hfp
    generalize hy : S.o (m.getD p 0) = y at h hq
    cases h with
    | gone => trivial
    | fro => exact FRep.mono hok hq
    | row => obtain ⟨vs, h3, h4, h5⟩ := hq; exact ⟨vs, h3, h4.imp fun _ _ h => h.imp fun _ _ => FRep.mono hok, h5⟩
    | box ty hA =>
      obtain ⟨g, vs, h3, h4, h5, h6, h7⟩ := hq
      refine ⟨g, vs, h3, h4, h5, .of_get (by rw [hA.length, h6.length]) (fun i s v hs hv => ?_), h7⟩
      obtain ⟨s0, hs0, hsr⟩ := hA.get i s hs
      obtain ⟨v', hv', hrep⟩ := h6.get i s0 hs0
      rw [hv] at hv'
      cases hv'
      exact hsr.rep hok hE (Slot.fine.ne (List.all_eq_true.1 hfp s (List.mem_of_getElem? hs))) hrep
  · exact (hk.ok t).rep hok hE (Slot.fine.ne (look_fine hf t)) (hR.slot t)
/-- To an invariant, entries renamed: 'm' gives each new entry's old place. -/
theorem wr {N : Nat} {E E' : List (Nat × Slot)} {O O' : List Ent} {M : St → Prop} (m : List Nat) (h : M ⟨E', O'⟩) (hk : KeptR (fun p => m.getD p 0) E E') (he : ERens (fun p => m.getD p 0) O 0 O') (hf : (E'.all fun x => x.2.fine O') = true := by exact rfl) (hfe : O'.all (Ent.fine O') = true := by exact rfl) (hn : m.length = O'.length := by exact rfl) (hd : m.Nodup := by decide) : Wk N ⟨E, O⟩ M :=
  ⟨_, weak_ren (S := ⟨E, O⟩) (S' := ⟨E', O'⟩) m hk he hf hfe hn hd, h⟩
theorem wr2 {N : Nat} {E E' : List (Nat × Slot)} {O O' O'' : List Ent} {M : St → Prop} (m : List Nat) (h : M ⟨E', O'⟩) (he : ERens (fun p => m.getD p 0) O 0 O'') (hO : O'' = O') (hk : KeptR (fun p => m.getD p 0) E E') (hf : (E'.all fun x => x.2.fine O'') = true := by exact rfl) (hfe : O''.all (Ent.fine O'') = true := by exact rfl) (hn : m.length = O''.length := by exact rfl) (hd : m.Nodup := by decide) : Wk N ⟨E, O⟩ M := by
  subst hO; exact wr m h hk he hf hfe hn hd
section
variable {P : Program} {ops : Array Oper} {N : Nat} {fin : St → List Rec → Prop} {l : List Oper} {E : List (Nat × Slot)} {O : List Ent} {rs : List Rec} {d : Nat} {ty : TypeId} {pos : String} {after : Array Edge} {g : Option (Nat × Bool)}
/-- A call whose arguments may be rows that are turned no more. -/
theorem clF (qs : List Nat) {c : Operand} {args : Array Operand} {at_ : Array TypeId} {f : FuncId} [IsFn P f] {xs : List RV} {o : Out} (hF : Fn P f xs o) (k : Runs P ops N fin l ⟨(d, o.slot) :: E, O⟩ (⟨o.slot, none, qs⟩ :: rs)) (hc : Opd E c (.r (.v (.fn f))) := by first | exact Opd.int _ _ | exact Opd.bool _ | exact Opd.nil | exact Opd.fn _ | exact Opd.str _ | (apply Opd.tmp; ((repeat apply Look.there rfl); exact Look.here))) (ha : Args E O qs args.toList xs := by ((repeat (apply Args.cons (by first | exact Opd.int _ _ | exact Opd.bool _ | exact Opd.nil | exact Opd.fn _ | exact Opd.str _ | (apply Opd.tmp; ((repeat apply Look.there rfl); exact Look.here))) (by first | exact fun _ _ => IsD.f (IsF.v _) | exact fun _ _ => IsD.agg _ | exact fun _ _ => IsD.f IsF.nil | exact fun _ h => IsD.f (IsF.fro ((h _ (by simp)).trans rfl) (by first | assumption | exact rfl | (simp; done) | (simp; omega) | omega))))); exact Args.nil)) (hd : d < N := by decide) (hw : W ops E g := by first | exact W.none | (apply wof rfl; ((repeat apply Look.there rfl); exact Look.here); first | assumption | exact rfl)) :
    Runs P ops N fin (⟨some d, .call { callee := .value c, args := args, argTypes := at_ }, ty, pos, after, g⟩ :: l) ⟨E, O⟩ rs := rCall (touch := qs) hc ha hF (fun d' h => by cases h; exact hd) hw k
end
end Go.Proofs.Ytnhljpbpfaablaa.VS
