/- Value semantics, part 24: functions that read the caller's variables and rows. Conditions: none. -/
import Derived.Test.YtnhljpbpfaablaaV23
set_option linter.unusedSimpArgs false
set_option linter.unusedVariables false
namespace Go.Proofs.Ytnhljpbpfaablaa.VS
open Go Go.RowKit

/-- What is handed back is a number, a truth value or nothing. -/
def Out.plain : Out → Bool
  | .none => true
  | .one (.v (.i _ _)) => true
  | .one (.v (.b _)) => true
  | _ => false
theorem Out.plain.rep {w w' : World} {ok ok' : Nat → Prop} {o : Out} (hp : o.plain = true) {v : Value} (h : o.rep w ok v) : o.rep w' ok' v := by
  cases o with
  | none => exact h
  | one x =>
    cases x with
    | v y =>
      cases y with
      | i k n =>
        have h : FRep w ok (.i k n) v := h
        cases h
        exact FRep.i k n
      | b n =>
        have h : FRep w ok (.b n) v := h
        cases h
        exact FRep.b n
      | _ => cases hp
    | agg cs => cases hp
  | many xs => cases hp
/-- Called with these slots (data; pointers to what may be read) it hands back this; what was in memory is as it was. -/
def FnR (P : Program) (f : FuncId) (ss : List Slot) (out : Out) : Prop :=
  ∀ (w : World) (ok : Nat → Prop) (vs : List Value), All2 (SlotRep w ok (fun _ => .gone) (fun _ => Go.undef)) ss vs →
    Calls P f vs.toArray w fun e w' => ∃ v, e = .returned v ∧ Below w.heap.size w w' ∧ out.rep w' (fun k => k < w.heap.size → ok k) v
theorem fnR_of {P : Program} {f : FuncId} {fn : Func} {N : Nat} {c : Code} {ss : List Slot} {out : Out} (hf : P.funcs[f]? = some fn) (hN : fn.ntmps = N)
    (h : AWP P N c (fun e S => (e = .normal ∨ e = .ret) ∧ ∃ xs, All2 (ResIs P S) fn.results.toList xs ∧ outOf xs = out) ⟨slotEnv 0 ss, []⟩) (hb : fn.body = some c := by exact rfl) (hn : ss.length ≤ N := by exact Nat.le_of_ble_eq_true rfl) : FnR P f ss out := by
  subst hN
  intro w ok vs hargs
  have hlen := hargs.length
  refine calls_of_wp hf hb (wp_mono (h w ok _ w ⟨fun _ => Go.undef, ?_⟩) fun e a' w' hq => ?_)
  · refine ⟨by simp; omega, rfl, Below.refl _ _, fun p q g hp => hp.elim, fun p => trivial, fun t => ?_⟩
    show SlotRep _ _ _ _ (look (slotEnv 0 ss) t) _
    rw [look_slotEnv, if_pos (Nat.zero_le _), Nat.sub_zero]
    rw [List.getD_eq_getElem?_getD]
    cases hx : ss[t]? with
    | none => trivial
    | some x =>
      obtain ⟨v, hv, hr⟩ := hargs.get t x hx
      have : (vs.toArray ++ Array.replicate (fn.ntmps - vs.toArray.size) Go.undef).getD t Go.undef = v := by
        have hlt : t < vs.length := (List.getElem?_eq_some_iff.1 hv).1
        rw [Array.getD_eq_getD_getElem?, Array.getElem?_append_left (by simpa using hlt)]
        simp [hv]
      rw [this]
      exact hr.step (fun p => .same rfl rfl) (fun k hk hlt => ⟨rfl, fun _ => hk, fun p hp => hp.elim⟩)
  · obtain ⟨S, ⟨he, xs, hres, hout⟩, ρ, hR⟩ := hq
    obtain ⟨v, hrun, hrep⟩ := results_run hR hres
    rw [hout] at hrep
    rcases he with rfl | rfl
    · exact ⟨hR.defers, v, hrun, v, rfl, hR.below, hrep⟩
    · exact ⟨hR.defers, v, hrun, v, rfl, hR.below, hrep⟩

/-! ### What the caller hands over -/
inductive IsT (ents : Nat → Ent) (touch : List Nat) : Slot → FV → Prop
  | f {s : Slot} {x : FV} (h : IsF ents s x) : IsT ents touch s x
  | row {p n e sz : Nat} {xs : List (List FV)} (h : ents p = .row e sz xs) (hn : n = xs.length) (hp : p ∈ touch) : IsT ents touch (.own p n) (.sl xs)
def okT (ok : Nat → Prop) (ρ : Nat → Value) (touch : List Nat) (k : Nat) : Prop := ok k ∨ ∃ p ∈ touch, blk (ρ p) = some k
theorem keepsT {w : World} {ok : Nat → Prop} {ρ : Nat → Value} {touch : List Nat} : Keeps w w ok (okT ok ρ touch) := fun k hk _ => ⟨rfl, .inl hk⟩
theorem IsT.rep {w : World} {ok : Nat → Prop} {ents : Nat → Ent} {ρ : Nat → Value} {touch : List Nat} {base : Nat} {s : Slot} {x : FV} {v : Value} (h : IsT ents touch s x) (hs : SlotRep w ok ents ρ s v) (hE : ∀ p, EntRep w ok ents ρ base p (ents p)) : FRep w (okT ok ρ touch) x v := by
  cases h with
  | f h => exact FRep.mono keepsT (h.rep hs hE)
  | row he hn hp =>
    rename_i p n e sz xs
    obtain ⟨l, hl, _, hv⟩ := hs
    have hE := hE p
    rw [he] at hE hl
    have hl : some xs.length = some l := hl
    cases hl
    rw [hv hn]
    obtain ⟨vs, ho, hA, hsz, h0⟩ := hE
    exact rep_of_row ho (hA.imp fun _ _ h => h.imp fun _ _ => FRep.mono keepsT) hsz h0 (fun g hg => .inr ⟨p, hp, hg⟩) (row_le ho)
theorem fp_of_box {w : World} {ok : Nat → Prop} {ents : Nat → Ent} {ρ : Nat → Value} {touch : List Nat} {base p g : Nat} {ty : TypeId} {cs : List Slot} {fs : List FV} (he : ents p = .box ty cs) (hm : p ∈ touch) (hA : All2 (IsT ents touch) cs fs) (hE : ∀ p, EntRep w ok ents ρ base p (ents p)) (hg : ρ p = .pointer (some ⟨g, 0, none⟩)) :
    SlotRep w (okT ok ρ touch) (fun _ => .gone) (fun _ => Go.undef) (.fp fs) (.pointer (some ⟨g, 0, none⟩)) := by
  have hp := hE p
  rw [he] at hp
  obtain ⟨g', vs, h1, _, h3, h4, _⟩ := hp
  rw [hg] at h1
  cases h1
  refine ⟨⟨g, 0, none⟩, vs, rfl, .of_get (by rw [← hA.length, h4.length]) (fun i x u hx hu => ?_), fun i u hu => ⟨.inr ⟨p, hm, by rw [hg]; rfl⟩, by rw [add_lit, cell_of_row w g i _ _ _ h3]; simpa using hu⟩⟩
  obtain ⟨s, hs, hst⟩ := hA.get' i x hx
  obtain ⟨u', hu', hr⟩ := h4.get i s hs
  rw [hu] at hu'
  cases hu'
  exact hst.rep hr hE
inductive ArgR (E : List (Nat × Slot)) (O : List Ent) (touch : List Nat) : List Operand → List Slot → Prop
  | nil : ArgR E O touch [] []
  | d {x : Operand} {s : Slot} {y : RV} {l : List Operand} {r : List Slot} (hx : Opd E x s) (hs : ∀ ents', (∀ p ∈ touch, ents' p = O.getD p .gone) → IsD ents' s y) (h : ArgR E O touch l r) : ArgR E O touch (x :: l) (.r y :: r)
  | b {x : Operand} {p : Nat} {ty : TypeId} {cs : List Slot} {fs : List FV} {l : List Operand} {r : List Slot} (hx : Opd E x (.box p 0)) (hp : O.getD p .gone = .box ty cs) (hm : p ∈ touch) (hA : ∀ ents' : Nat → Ent, (∀ p ∈ touch, ents' p = O.getD p .gone) → All2 (IsT ents' touch) cs fs) (h : ArgR E O touch l r) : ArgR E O touch (x :: l) (.fp fs :: r)
theorem ArgR.rep {E : List (Nat × Slot)} {O : List Ent} {touch : List Nat} {l : List Operand} {r : List Slot} (h : ArgR E O touch l r) {w : World} {ok : Nat → Prop} {ents' : Nat → Ent} {ρ : Nat → Value} {a : Act} {base : Nat}
    (hr : ∀ x ∈ l, SlotRep w ok ents' ρ (ev (look E) x) (a.eval x)) (ht : ∀ p ∈ touch, ents' p = O.getD p .gone) (hE : ∀ p, EntRep w ok ents' ρ base p (ents' p)) : All2 (SlotRep w (okT ok ρ touch) (fun _ => .gone) (fun _ => Go.undef)) r (l.map a.eval) := by
  induction h with
  | nil => exact .nil
  | d hx hs _ ih =>
    refine .cons ?_ (ih (fun p hp => hr p (.tail _ hp)))
    have h1 := hr _ (.head _)
    rw [hx.eq] at h1
    exact RV.rep.mono keepsT ((hs ents' ht).rep h1 hE)
  | b hx hp hm hA _ ih =>
    refine .cons ?_ (ih (fun p hp => hr p (.tail _ hp)))
    have h1 := hr _ (.head _)
    rw [hx.eq] at h1
    obtain ⟨ty', cs', g, _, hg, hv⟩ := h1
    rw [hv]
    exact fp_of_box ((ht _ hm).trans hp) hm (hA ents' ht) hE hg
inductive CapR (O : List Ent) (touch : List Nat) : List Nat → List (List FV) → Prop
  | nil : CapR O touch [] []
  | cons {p : Nat} {ty : TypeId} {cs : List Slot} {fs : List FV} {l : List Nat} {r : List (List FV)} (hp : O.getD p .gone = .box ty cs) (hm : p ∈ touch) (hA : ∀ ents' : Nat → Ent, (∀ p ∈ touch, ents' p = O.getD p .gone) → All2 (IsT ents' touch) cs fs) (h : CapR O touch l r) : CapR O touch (p :: l) (fs :: r)
theorem CapR.rep {O : List Ent} {touch : List Nat} {ps : List Nat} {fss : List (List FV)} (h : CapR O touch ps fss) {w : World} {ok : Nat → Prop} {ents' : Nat → Ent} {ρ : Nat → Value} {base : Nat} {us : List Value} (hu : All2 (BoxRep ents' ρ) ps us)
    (ht : ∀ p ∈ touch, ents' p = O.getD p .gone) (hE : ∀ p, EntRep w ok ents' ρ base p (ents' p)) : All2 (SlotRep w (okT ok ρ touch) (fun _ => .gone) (fun _ => Go.undef)) (fss.map Slot.fp) us := by
  induction h generalizing us with
  | nil => cases hu; exact .nil
  | cons hp hm hA _ ih =>
    cases hu with
    | cons hu1 hu2 =>
      refine .cons ?_ (ih hu2)
      obtain ⟨ty', cs', g, _, hg, hv⟩ := hu1
      rw [hv]
      exact fp_of_box ((ht _ hm).trans hp) hm (hA ents' ht) hE hg
section
variable {P : Program} {ops : Array Oper} {N : Nat} {fin : St → List Rec → Prop} {l : List Oper} {E : List (Nat × Slot)} {O : List Ent} {rs : List Rec} {ty : TypeId} {pos : String} {after : Array Edge} {g : Option (Nat × Bool)}
theorem rCallR {d : Nat} {c : Operand} {args : Array Operand} {at_ : Array TypeId} {f : FuncId} [IsFn P f] {ss : List Slot} {out : Out} {touch : List Nat} (hc : Opd E c (.r (.v (.fn f)))) (ha : ArgR E O touch args.toList ss) (hF : FnR P f ss out) (hpl : out.plain = true)
    (hd : d < N) (hw : W ops E g) (k : Runs P ops N fin l ⟨(d, out.slot) :: E, O⟩ (⟨out.slot, none, touch⟩ :: rs)) :
    Runs P ops N fin (⟨some d, .call { callee := .value c, args := args, argTypes := at_ }, ty, pos, after, g⟩ :: l) ⟨E, O⟩ rs := by
  refine Runs.op (o := ⟨some d, .call { callee := .value c, args := args, argTypes := at_ }, ty, pos, after, g⟩) (r := ⟨out.slot, none, touch⟩) ?_ hw.wants trivial k
  intro w0 ok0 ρ env' ents' a w hev ht hR K Q hK
  have hr : ∀ x ∈ (Op.call { callee := .value c, args := args, argTypes := at_ }).operands, SlotRep w (okS w0 ok0 ents' ρ) ents' ρ (ev (look E) x) (a.eval x) := fun x hx => by
    rw [show ev (look E) x = _ from (hev x hx).symm]; exact hR.ev x
  have h1 := hr c (by simp [Op.operands, Call.operands]); rw [hc.eq] at h1
  have hv : a.eval c = .func (.func f) #[] #[] := by
    generalize a.eval c = v at h1
    have h1 : FRep _ _ (.fn f) v := h1
    cases h1
    rfl
  have hrep := ha.rep (a := a) (fun x hx => hr x (by simp only [Op.operands, Call.operands]; exact Array.mem_append.2 (.inr (Array.mem_toList_iff.1 hx)))) ht hR.ent
  unfold Oper.wp
  have hrun : (execOp a.eval ⟨some d, .call { callee := .value c, args := args, argTypes := at_ }, ty, pos, after, g⟩).run P w = .ok (.enter f (args.map a.eval)) w := by
    simp [execOp, resolve, hv, Deferred.ofValue, invoke, run_enter]
  rw [hrun]
  have hargs : (args.map a.eval) = (args.toList.map a.eval).toArray := by
    rw [← Array.toList_map, Array.toArray_toList]
  rw [hargs]
  refine (hF w _ _ hrep).mono fun e w' h => ?_
  obtain ⟨v, rfl, hb, ho⟩ := h
  exact hK _ _ ⟨ρ, (hR.later hb).put (some d) (fun d' h => by cases h; exact hd) (Out.rep.slot (Out.plain.rep hpl ho))⟩
theorem rCloR {d : Nat} {c : Operand} {args : Array Operand} {at_ : Array TypeId} {f : FuncId} [IsFn P f] {ps : List Nat} {ss : List Slot} {fss : List (List FV)} {out : Out} {touch : List Nat} (hc : Opd E c (.clo f ps)) (ha : ArgR E O touch args.toList ss) (hcap : CapR O touch ps fss) (hF : FnR P f (ss ++ fss.map Slot.fp) out) (hpl : out.plain = true)
    (hd : d < N) (hw : W ops E g) (k : Runs P ops N fin l ⟨(d, out.slot) :: E, O⟩ (⟨out.slot, none, touch⟩ :: rs)) :
    Runs P ops N fin (⟨some d, .call { callee := .value c, args := args, argTypes := at_ }, ty, pos, after, g⟩ :: l) ⟨E, O⟩ rs := by
  refine Runs.op (o := ⟨some d, .call { callee := .value c, args := args, argTypes := at_ }, ty, pos, after, g⟩) (r := ⟨out.slot, none, touch⟩) ?_ hw.wants trivial k
  intro w0 ok0 ρ env' ents' a w hev ht hR K Q hK
  have hr : ∀ x ∈ (Op.call { callee := .value c, args := args, argTypes := at_ }).operands, SlotRep w (okS w0 ok0 ents' ρ) ents' ρ (ev (look E) x) (a.eval x) := fun x hx => by
    rw [show ev (look E) x = _ from (hev x hx).symm]; exact hR.ev x
  have h1 := hr c (by simp [Op.operands, Call.operands]); rw [hc.eq] at h1
  obtain ⟨us, hv, hus⟩ := h1
  have hrep := ha.rep (a := a) (fun x hx => hr x (by simp only [Op.operands, Call.operands]; exact Array.mem_append.2 (.inr (Array.mem_toList_iff.1 hx)))) ht hR.ent
  have hrep2 := hrep.append (hcap.rep hus ht hR.ent)
  unfold Oper.wp
  have hrun : (execOp a.eval ⟨some d, .call { callee := .value c, args := args, argTypes := at_ }, ty, pos, after, g⟩).run P w = .ok (.enter f (args.map a.eval ++ us.toArray)) w := by
    simp [execOp, resolve, hv, Deferred.ofValue, invoke, run_enter]
  rw [hrun]
  have hargs : args.map a.eval ++ us.toArray = (args.toList.map a.eval ++ us).toArray := by
    rw [← Array.toList_map]; simp
  rw [hargs]
  refine (hF w _ _ hrep2).mono fun e w' h => ?_
  obtain ⟨v, rfl, hb, ho⟩ := h
  exact hK _ _ ⟨ρ, (hR.later hb).put (some d) (fun d' h => by cases h; exact hd) (Out.rep.slot (Out.plain.rep hpl ho))⟩
/-- A call that reads variables and rows (their entries: 'touch'). -/
theorem clR (touch : List Nat) {d : Nat} {c : Operand} {args : Array Operand} {at_ : Array TypeId} {f : FuncId} [IsFn P f] {ss : List Slot} {out : Out} (hF : FnR P f ss out) (k : Runs P ops N fin l ⟨(d, out.slot) :: E, O⟩ (⟨out.slot, none, touch⟩ :: rs))
    (hc : Opd E c (.r (.v (.fn f))) := by first | exact Opd.int _ _ | exact Opd.bool _ | exact Opd.nil | exact Opd.fn _ | exact Opd.str _ | (apply Opd.tmp; ((repeat apply Look.there rfl); exact Look.here))) (ha : ArgR E O touch args.toList ss := by ((repeat (first | apply ArgR.d (by first | exact Opd.int _ _ | exact Opd.bool _ | exact Opd.nil | exact Opd.fn _ | exact Opd.str _ | (apply Opd.tmp; ((repeat apply Look.there rfl); exact Look.here))) (by first | exact fun _ _ => IsD.f (IsF.v _) | exact fun _ _ => IsD.agg _ | exact fun _ _ => IsD.f IsF.nil | exact fun _ h => IsD.f (IsF.fro ((h _ (by simp)).trans rfl) (by first | assumption | exact rfl | (simp; done) | (simp; omega) | omega))) | apply ArgR.b (by first | exact Opd.int _ _ | exact Opd.bool _ | exact Opd.nil | exact Opd.fn _ | exact Opd.str _ | (apply Opd.tmp; ((repeat apply Look.there rfl); exact Look.here))) (by exact rfl) (by simp) (by intro ents' h; ((repeat (apply All2.cons (by first | exact IsT.f (IsF.v _) | exact IsT.f IsF.nil | exact IsT.row ((h _ (by simp)).trans rfl) (by first | assumption | exact rfl | (simp; done) | (simp; omega) | omega) (by simp) | exact IsT.f (IsF.fro ((h _ (by simp)).trans rfl) (by first | assumption | exact rfl | (simp; done) | (simp; omega) | omega))))); exact All2.nil)))); exact ArgR.nil)) (hpl : out.plain = true := by exact rfl) (hd : d < N := by decide) (hw : W ops E g := by first | exact W.none | (apply wof rfl; ((repeat apply Look.there rfl); exact Look.here); first | assumption | exact rfl)) :
    Runs P ops N fin (⟨some d, .call { callee := .value c, args := args, argTypes := at_ }, ty, pos, after, g⟩ :: l) ⟨E, O⟩ rs := rCallR hc ha hF hpl hd hw k
theorem ccR (touch : List Nat) {d : Nat} {c : Operand} {args : Array Operand} {at_ : Array TypeId} {f : FuncId} [IsFn P f] {ps : List Nat} {ss : List Slot} {fss : List (List FV)} {out : Out} (hF : FnR P f (ss ++ fss.map Slot.fp) out) (k : Runs P ops N fin l ⟨(d, out.slot) :: E, O⟩ (⟨out.slot, none, touch⟩ :: rs))
    (hc : Opd E c (.clo f ps) := by first | exact Opd.int _ _ | exact Opd.bool _ | exact Opd.nil | exact Opd.fn _ | exact Opd.str _ | (apply Opd.tmp; ((repeat apply Look.there rfl); exact Look.here))) (ha : ArgR E O touch args.toList ss := by ((repeat (first | apply ArgR.d (by first | exact Opd.int _ _ | exact Opd.bool _ | exact Opd.nil | exact Opd.fn _ | exact Opd.str _ | (apply Opd.tmp; ((repeat apply Look.there rfl); exact Look.here))) (by first | exact fun _ _ => IsD.f (IsF.v _) | exact fun _ _ => IsD.agg _ | exact fun _ _ => IsD.f IsF.nil | exact fun _ h => IsD.f (IsF.fro ((h _ (by simp)).trans rfl) (by first | assumption | exact rfl | (simp; done) | (simp; omega) | omega))) | apply ArgR.b (by first | exact Opd.int _ _ | exact Opd.bool _ | exact Opd.nil | exact Opd.fn _ | exact Opd.str _ | (apply Opd.tmp; ((repeat apply Look.there rfl); exact Look.here))) (by exact rfl) (by simp) (by intro ents' h; ((repeat (apply All2.cons (by first | exact IsT.f (IsF.v _) | exact IsT.f IsF.nil | exact IsT.row ((h _ (by simp)).trans rfl) (by first | assumption | exact rfl | (simp; done) | (simp; omega) | omega) (by simp) | exact IsT.f (IsF.fro ((h _ (by simp)).trans rfl) (by first | assumption | exact rfl | (simp; done) | (simp; omega) | omega))))); exact All2.nil)))); exact ArgR.nil)) (hcap : CapR O touch ps fss := by ((repeat apply CapR.cons (by exact rfl) (by simp) (by intro ents' h; ((repeat (apply All2.cons (by first | exact IsT.f (IsF.v _) | exact IsT.f IsF.nil | exact IsT.row ((h _ (by simp)).trans rfl) (by first | assumption | exact rfl | (simp; done) | (simp; omega) | omega) (by simp) | exact IsT.f (IsF.fro ((h _ (by simp)).trans rfl) (by first | assumption | exact rfl | (simp; done) | (simp; omega) | omega))))); exact All2.nil))); exact CapR.nil)) (hpl : out.plain = true := by exact rfl) (hd : d < N := by decide) (hw : W ops E g := by first | exact W.none | (apply wof rfl; ((repeat apply Look.there rfl); exact Look.here); first | assumption | exact rfl)) :
    Runs P ops N fin (⟨some d, .call { callee := .value c, args := args, argTypes := at_ }, ty, pos, after, g⟩ :: l) ⟨E, O⟩ rs := rCloR hc ha hcap hF hpl hd hw k
end
end Go.Proofs.Ytnhljpbpfaablaa.VS
