/- Value semantics, part 12: a nil slice in a variable's cell that is to be appended to. Conditions: none. -/
import Derived.Test.YtnhljpbpfaablaaV11
set_option linter.unusedSimpArgs false
set_option linter.unusedVariables false
namespace Go.Proofs.Ytnhljpbpfaablaa.VS
open Go Go.RowKit

theorem st_set {S : St} {p : Nat} {e : Ent} {O' : List Ent} {E : List (Nat × Slot)} (hO : SetAt S.ents p e O') : (⟨E, O'⟩ : St).o = upd S.o p e := by
  have := step_o S none ⟨.undef, some (p, e), []⟩ hO.eq.1
  rw [← hO.eq.2]
  exact this
theorem weak_new {S : St} (p e sz : Nat) (h0 : 0 < sz) {O' : List Ent} (hp : S.o p = .gone) (hO : SetAt S.ents p (.row e sz []) O') {w0 : World} {ok0 : Nat → Prop} {a : Act} {w : World} {ρ : Nat → Value} {N : Nat} (hR : RelR N w0 ok0 ρ S.e S.o a w) :
    RelR N w0 ok0 (upd ρ p (.slice none 0 0)) S.e (upd S.o p (.row e sz [])) a w :=
  hR.fresh p hp (.row e sz []) (.slice none 0 0) (Below.refl _ _) (fun g _ h => by cases h) (fun hk => ⟨[], by rw [upd_same]; exact World.ownsRow_nil _ _ _ _, .nil, fun x hx => (by cases hx), h0⟩)
/-- A cell that holds nil. -/
inductive NilC : Slot → Prop
  | nil : NilC .nil
  | z : NilC (.r (.v .zz))
theorem NilC.eq {s : Slot} (h : NilC s) {w : World} {ok : Nat → Prop} {ents : Nat → Ent} {ρ : Nat → Value} {v : Value} (hr : SlotRep w ok ents ρ s v) : v = .slice none 0 0 := by
  cases h with
  | nil => exact hr
  | z => have hr : FRep w ok .zz v := hr; cases hr; rfl
theorem weak_adoptB {N : Nat} {S : St} (p q e sz i ty : Nat) (h0 : 0 < sz) {O1 O' : List Ent} {cs cs' : List Slot} {s : Slot} (hb : S.o q = .box ty cs) (hi : cs[i]? = some s) (hsn : NilC s) (hp : S.o p = .gone) (hO : SetAt S.ents p (.row e sz []) O1) (hc : PutAt cs i (.own p 0) cs') (hO' : SetAt O1 q (.box ty cs') O') : Weak N S ⟨S.env, O'⟩ := by
  intro w0 ok0 a w hr
  obtain ⟨ρ, hR⟩ := hr
  have h1 := weak_new p e sz h0 hp hO hR
  have e1 : (⟨S.env, O1⟩ : St).o = upd S.o p (.row e sz []) := st_set hO
  have e2 : (⟨S.env, O'⟩ : St).o = upd (upd S.o p (.row e sz [])) q (.box ty cs') := by rw [← e1]; exact st_set (S := ⟨S.env, O1⟩) hO'
  have hqp : q ≠ p := fun h => by subst h; rw [hb] at hp; cases hp
  refine ⟨upd ρ p (.slice none 0 0), ?_⟩
  show RelR N w0 ok0 _ S.e (⟨S.env, O'⟩ : St).o a w
  rw [e2]
  have hbq : upd S.o p (.row e sz []) q = .box ty cs := by rw [upd_ne _ _ _ _ hqp]; exact hb
  refine h1.move (ρ' := upd ρ p (.slice none 0 0)) q h1.below (fun _ _ _ => rfl) (fun r hr => ⟨upd_ne _ _ _ _ hr, rfl⟩) ⟨fun ty' cs0 hx => ?_, fun l hl => ?_⟩ (fun g h2 h3 => .inl ⟨by rw [hbq]; trivial, h3⟩) (fun hcc hk => ?_)
  · rw [hbq] at hx; cases hx
    exact ⟨⟨cs', upd_same _ _ _⟩, rfl⟩
  · rw [hbq] at hl; cases hl
  · rw [upd_same]
    have hE := h1.ent q
    rw [hbq] at hE
    obtain ⟨g, vs, h3, h4, h5, h6, h7⟩ := hE
    refine ⟨g, vs, h3, h4, h5, .of_get (by rw [hc.eq.2, List.length_set]; exact h6.length) (fun j s v hs hv => ?_), h7⟩
    rw [hc.eq.2] at hs
    by_cases hij : j = i
    · subst hij
      rw [List.getElem?_set_self hc.eq.1] at hs
      cases hs
      obtain ⟨v', hv', hr⟩ := h6.get j _ hi
      rw [hv] at hv'
      cases hv'
      have hr : v = .slice none 0 0 := hsn.eq hr
      exact ⟨0, by rw [upd_ne _ _ _ _ (Ne.symm hqp), upd_same]; rfl, Nat.le_refl _, fun _ => by rw [upd_same]; exact hr⟩
    · rw [List.getElem?_set_ne (by omega)] at hs
      obtain ⟨v', hv', hr⟩ := h6.get j s hs
      rw [hv] at hv'
      cases hv'
      exact hr.step hcc hk
/-- The same, its side conditions by themselves. -/
theorem adB {P : Program} {N : Nat} {c : Code} {Q : Exit → St → Prop} {E : List (Nat × Slot)} {O : List Ent} (p q e sz i ty : Nat) {O1 O' : List Ent} {cs cs' : List Slot} {s : Slot} (h : AWP P N c Q ⟨E, O'⟩) (h0 : 0 < sz := by decide) (hb : O.getD q .gone = .box ty cs := by exact rfl) (hi : cs[i]? = some s := by exact rfl) (hsn : NilC s := by first | exact NilC.nil | exact NilC.z) (hp : O.getD p .gone = .gone := by exact rfl)
    (hO : SetAt O p (.row e sz []) O1 := by ((repeat apply SetAt.there); exact SetAt.new)) (hc : PutAt cs i (.own p 0) cs' := by ((repeat apply PutAt.there); exact PutAt.here)) (hO' : SetAt O1 q (.box ty cs') O' := by ((repeat apply SetAt.there); exact SetAt.here)) : AWP P N c Q ⟨E, O⟩ :=
  awp_weak (weak_adoptB (S := ⟨E, O⟩) p q e sz i ty h0 hb hi hsn hp hO hc hO') h
theorem adN {P : Program} {N : Nat} {c : Code} {Q : Exit → St → Prop} {E : List (Nat × Slot)} {O : List Ent} (p t e sz : Nat) {O' : List Ent} (h : AWP P N c Q ⟨(t, .own p 0) :: E, O'⟩) (h0 : 0 < sz := by decide) (hl : Look E t .nil := by ((repeat apply Look.there rfl); exact Look.here)) (hp : O.getD p .gone = .gone := by exact rfl)
    (hO : SetAt O p (.row e sz []) O' := by ((repeat apply SetAt.there); exact SetAt.new)) : AWP P N c Q ⟨E, O⟩ :=
  awp_weak (weak_adopt (S := ⟨E, O⟩) e sz h0 hl hp hO) h
theorem fz {P : Program} {N : Nat} {c : Code} {Q : Exit → St → Prop} {E : List (Nat × Slot)} {O : List Ent} (p : Nat) {e sz : Nat} {xs : List (List FV)} {O' : List Ent} (h : AWP P N c Q ⟨E, O'⟩) (hp : O.getD p .gone = .row e sz xs := by exact rfl)
    (hO : SetAt O p (.fro xs) O' := by ((repeat apply SetAt.there); exact SetAt.here)) : AWP P N c Q ⟨E, O⟩ :=
  awp_weak (weak_freeze (S := ⟨E, O⟩) hp hO) h
section
variable {P : Program} {ops : Array Oper} {N : Nat} {fin : St → List Rec → Prop} {l : List Oper} {E : List (Nat × Slot)} {O : List Ent} {rs : List Rec} {d : Nat} {ty : TypeId} {pos : String} {after : Array Edge} {g : Option (Nat × Bool)}
/-- A variable is loaded, rows that it holds are turned no more. -/
theorem lAbF (p : Nat) (qs : List Nat) {x : Operand} {t n : Nat} [Agg P t n] {o ty' : Nat} {cs : List Slot} {fs : List FV} (k : Runs P ops N fin l ⟨(d, .r (.agg fs)) :: E, O⟩ (⟨.r (.agg fs), none, p :: qs⟩ :: rs)) (hx : Opd E x (.box p o) := by first | exact Opd.int _ _ | exact Opd.bool _ | exact Opd.nil | exact Opd.fn _ | exact Opd.str _ | (apply Opd.tmp; ((repeat apply Look.there rfl); exact Look.here))) (hp : O.getD p .gone = .box ty' cs := by exact rfl) (hn : n ≤ (cs.drop o).length := by exact Nat.le_of_ble_eq_true rfl)
    (hf : ∀ ents', (∀ q ∈ p :: qs, ents' q = O.getD q .gone) → All2 (IsF ents') ((cs.drop o).take n) fs := by exact fun _ h => by ((repeat (apply All2.cons; first | exact IsF.v _ | exact IsF.nil | exact IsF.fro ((h _ (by simp)).trans rfl) (by first | exact rfl | simp))); exact All2.nil))
    (hd : d < N := by decide) (hw : W ops E g := by first | exact W.none | (apply wof rfl; ((repeat apply Look.there rfl); exact Look.here); first | assumption | exact rfl)) : Runs P ops N fin (⟨some d, .load t x, ty, pos, after, g⟩ :: l) ⟨E, O⟩ rs := rLAb (touch := p :: qs) hx hp hn (by simp) hf hd hw k
/-- A slice literal, a row of the call's own. -/
theorem rBsO {t e sz b len : Nat} [Sli P t e sz b] {zs : List Slot} [Zero P e zs] {parts : Array (Nat × Operand)} {pd : List (Nat × RV)} {xs : List (List FV)} {touch : List Nat} {p : Nat} {O' : List Ent} (hp0 : O.getD p .gone = .gone) (hp : Parts E O touch parts.toList pd) (hr : rowsOf 0 pd = some xs) (hl : xs.length = len) (hs : ∀ x ∈ xs, x.length = sz) (hz : zs.length = sz) (h24 : len * sz ≤ 16777216) (hO : SetAt O p (.row e sz xs) O') (hd : d < N) (hw : W ops E g)
    (k : Runs P ops N fin l ⟨(d, .own p len) :: E, O'⟩ (⟨.own p len, some (p, .row e sz xs), p :: touch⟩ :: rs)) : Runs P ops N fin (⟨some d, .buildSlice t len parts, ty, pos, after, g⟩ :: l) ⟨E, O⟩ rs := by
  refine rEff (s := .own p len) (touch := touch) hO (fun d' h => by cases h; exact hd) hw (fun w0 ok0 ρ env' ents' a w hr0 ht hR => ?_) k
  have he := (ht p (by simp)).trans hp0
  obtain ⟨i, h1, h2, h3, h4, h0⟩ := Sli.spec (P := P) t e sz b
  obtain ⟨i', z, vs, h5, h6, h7, h8⟩ := Zero.h (P := P) (t := e) (zs := zs)
  rw [h2] at h5
  cases h5
  have hrep := hp.rep (a := a) (fun q hq => hr0 q.2 (by simp only [Op.operands]; simpa using ⟨q.1, by simpa using hq⟩)) (fun q hq => ht q (by simp [hq])) hR.ent
  obtain ⟨hxs, hidx⟩ := rowsOf_get hr
  have hpl : pd.length = len := by rw [← hl, hxs, List.length_map]
  obtain ⟨out, ho, vss, hA, hout⟩ := fill_rows (sz := sz) _ pd 0 ((Array.range (len * sz)).map fun m => (if len * sz = 0 then #[] else z.cells)[m % (if len * sz = 0 then #[] else z.cells).size]!) [] hrep (fun j q hj => hidx j q hj) (fun q hq => hs _ (by rw [hxs]; exact List.mem_map.2 ⟨q, hq, rfl⟩)) (by simp) (by simp [hpl])
  rw [← hxs] at hA
  simp only [List.nil_append] at hout
  have hrun : (execOp a.eval ⟨some d, .buildSlice t len parts, ty, pos, after, g⟩).run P w = .ok (.value (.slice (some ⟨w.heap.size, 0, none⟩) len len)) (w.alloc (.cells out e)) := by
    have hpm : (parts.map fun (i, x) => (i, a.eval x)).toList = parts.toList.map fun p => (p.1, a.eval p.2) := by simp
    simp only [execOp, Instr.buildSlice, Sem.run_bind, run_underlying h1, Result.andThen_ok, sizeOf, typeInfo, run_program, h2, h3, Sem.run_pure]
    rw [if_neg (show ¬ len * sz > 2 ^ 24 by omega)]
    simp only [hpm]
    by_cases hlz : len * sz = 0
    · have e0 : ∀ f : Nat → Value, (Array.range 0).map f = #[] := fun f => by simp
      simp only [hlz, if_true, e0] at ho
      simp only [hlz, if_true, Sem.run_pure, Result.andThen_ok, e0, ho]
      simp [newRow, newObj, Sem.run]
    · simp only [hlz, if_false] at ho ⊢
      simp [zeroValue, typeInfo, h2, h6, ho, newRow, newObj, Sem.run]
  have hb : Below w.heap.size w (w.alloc (.cells out e)) := (Below.refl _ _).alloc (Nat.le_refl _) _
  have hos : out.size = len * sz := by
    have := congrArg List.length hout
    rw [Array.length_toList, flat_len (hA.lens hs), ← hA.length, hl] at this
    exact this
  have hown : (w.alloc (.cells out e)).ownsRow w0.heap.size e sz (.slice (some ⟨w.heap.size, 0, none⟩) len len) xs.length vss.flatten := by
    rw [hl, ← hout]
    exact World.ownsRow_lit w out len hR.below.size (by
      simp only [maxLen]
      have : len ≤ len * sz := Nat.le_mul_of_pos_right _ h0
      omega) hos
  refine ⟨.value (.slice (some ⟨w.heap.size, 0, none⟩) len len), _, _, .slice (some ⟨w.heap.size, 0, none⟩) len len, hrun, .inl rfl, ?_, ?_⟩
  · refine hR.fresh p he _ _ hb (fun g' _ hg => ?_) (fun hk => ?_)
    · cases hg; exact Nat.le_refl _
    · exact ⟨vss, by rw [upd_same]; exact hown, hA.imp fun _ _ h => h.imp fun _ _ => FRep.mono hk, hs, h0⟩
  · exact ⟨len, by rw [upd_same]; exact congrArg some hl, Nat.le_refl _, fun _ => by rw [upd_same]⟩
theorem bsO (p : Nat) {t e sz b len : Nat} [Sli P t e sz b] {zs : List Slot} [Zero P e zs] {parts : Array (Nat × Operand)} {pd : List (Nat × RV)} {xs : List (List FV)} {O' : List Ent} (k : Runs P ops N fin l ⟨(d, .own p len) :: E, O'⟩ (⟨.own p len, some (p, .row e sz xs), [p]⟩ :: rs))
    (hp : Parts E O [] parts.toList pd := by ((repeat (apply Parts.cons (by first | exact Opd.int _ _ | exact Opd.bool _ | exact Opd.nil | exact Opd.fn _ | exact Opd.str _ | (apply Opd.tmp; ((repeat apply Look.there rfl); exact Look.here))) (by first | exact fun _ _ => IsD.f (IsF.v _) | exact fun _ _ => IsD.agg _ | exact fun _ _ => IsD.f IsF.nil))); exact Parts.nil)) (hr : rowsOf 0 pd = some xs := by exact rfl) (hl : xs.length = len := by exact rfl) (hs : ∀ x ∈ xs, x.length = sz := by first | (intro x hx; simp at hx; done) | (intro x hx; simp at hx; subst hx; rfl) | (intro x hx; simp only [List.mem_cons, List.not_mem_nil, or_false] at hx; rcases hx with rfl | rfl <;> rfl) | decide) (hz : zs.length = sz := by exact rfl) (h24 : len * sz ≤ 16777216 := by decide)
    (hO : SetAt O p (.row e sz xs) O' := by ((repeat apply SetAt.there); exact SetAt.new)) (hp0 : O.getD p .gone = .gone := by exact rfl) (hd : d < N := by decide) (hw : W ops E g := by first | exact W.none | (apply wof rfl; ((repeat apply Look.there rfl); exact Look.here); first | assumption | exact rfl)) : Runs P ops N fin (⟨some d, .buildSlice t len parts, ty, pos, after, g⟩ :: l) ⟨E, O⟩ rs := rBsO (touch := []) hp0 hp hr hl hs hz h24 hO hd hw k
end
/-! ### Slices compared with nil -/
/-- What is known of a slice: nil or not. -/
inductive IsN : Slot → Bool → Prop
  | nil : IsN .nil true
  | z : IsN (.r (.v .zz)) true
  | nn (xs : List (List FV)) : IsN (.r (.v (.nn xs))) false
  | c (x : List FV) (xs : List (List FV)) : IsN (.r (.v (.sl (x :: xs)))) false
theorem IsN.eq {s : Slot} {b : Bool} (h : IsN s b) {w : World} {ok : Nat → Prop} {ents : Nat → Ent} {ρ : Nat → Value} {v : Value} (hr : SlotRep w ok ents ρ s v) : ∃ A n c, v = .slice A n c ∧ A.isNone = b := by
  cases h with
  | nil => exact ⟨none, 0, 0, hr, rfl⟩
  | z => have hr : FRep w ok .zz v := hr; cases hr; exact ⟨_, _, _, rfl, rfl⟩
  | nn xs => have hr : FRep w ok (.nn xs) v := hr; cases hr; exact ⟨_, _, _, rfl, rfl⟩
  | c x xs =>
    have hr : FRep w ok (.sl (x :: xs)) v := hr
    cases hr with
    | sl _ A n c sz vs hn hc hm hsz hA hv hz =>
      obtain ⟨ad, rfl, _⟩ := hA (by rw [hn]; simp)
      exact ⟨_, _, _, rfl, rfl⟩
section
variable {P : Program} {ops : Array Oper} {N : Nat} {fin : St → List Rec → Prop} {l : List Oper} {E : List (Nat × Slot)} {O : List Ent} {rs : List Rec} {d : Nat} {ty : TypeId} {pos : String} {after : Array Edge} {g : Option (Nat × Bool)}
theorem run_eq_nil {w : World} {t e sz b : Nat} [Sli P t e sz b] (A : Option Addr) (n c : Nat) : (Op.equal t (.slice A n c) (.slice none 0 0)).run P w = .ok A.isNone w := by
  obtain ⟨i, ht, _⟩ := Sli.spec (P := P) t e sz b
  show (Op.equalIn (9999 + 1) t _ _).run P w = _
  generalize 9999 = dd
  cases A <;> simp [Op.equalIn, run_underlying ht]
theorem nq {x : Operand} {s : Slot} {t t' e sz b : Nat} [Sli P t e sz b] {z : Bool} (k : Runs P ops N fin l ⟨(d, .r (.v (.b z))) :: E, O⟩ (⟨.r (.v (.b z)), none, []⟩ :: rs)) (hx : Opd E x s := by first | exact Opd.int _ _ | exact Opd.bool _ | exact Opd.nil | exact Opd.fn _ | exact Opd.str _ | (apply Opd.tmp; ((repeat apply Look.there rfl); exact Look.here))) (hz : IsN s z := by first | exact .nil | exact .z | exact .nn _ | exact .c _ _) (hd : d < N := by decide) (hw : W ops E g := by first | exact W.none | (apply wof rfl; ((repeat apply Look.there rfl); exact Look.here); first | assumption | exact rfl)) :
    Runs P ops N fin (⟨some d, .binOp .eql t x (.const (.slice none 0 0)) t', ty, pos, after, g⟩ :: l) ⟨E, O⟩ rs :=
  rPure hd hw (fun w ok ρ ents' a hr _ _ => by
    have h1 := hr x (by simp [Op.operands]); rw [hx.eq] at h1
    obtain ⟨A, n, c, hv, hA⟩ := hz.eq h1
    refine ⟨.bool z, ?_, FRep.b _⟩
    have e0 : a.eval (.const (.slice none 0 0)) = .slice none 0 0 := rfl
    simp only [execOp, hv, e0, eqGuard_at_slice, Sem.run_bind, Sem.run_pure, Result.andThen_ok, binOp, run_eq_nil (P := P) (t := t), hA]) k
theorem nqn {x : Operand} {s : Slot} {t t' e sz b : Nat} [Sli P t e sz b] {z : Bool} (k : Runs P ops N fin l ⟨(d, .r (.v (.b (!z)))) :: E, O⟩ (⟨.r (.v (.b (!z))), none, []⟩ :: rs)) (hx : Opd E x s := by first | exact Opd.int _ _ | exact Opd.bool _ | exact Opd.nil | exact Opd.fn _ | exact Opd.str _ | (apply Opd.tmp; ((repeat apply Look.there rfl); exact Look.here))) (hz : IsN s z := by first | exact .nil | exact .z | exact .nn _ | exact .c _ _) (hd : d < N := by decide) (hw : W ops E g := by first | exact W.none | (apply wof rfl; ((repeat apply Look.there rfl); exact Look.here); first | assumption | exact rfl)) :
    Runs P ops N fin (⟨some d, .binOp .neq t x (.const (.slice none 0 0)) t', ty, pos, after, g⟩ :: l) ⟨E, O⟩ rs :=
  rPure hd hw (fun w ok ρ ents' a hr _ _ => by
    have h1 := hr x (by simp [Op.operands]); rw [hx.eq] at h1
    obtain ⟨A, n, c, hv, hA⟩ := hz.eq h1
    refine ⟨.bool (!z), ?_, FRep.b _⟩
    have e0 : a.eval (.const (.slice none 0 0)) = .slice none 0 0 := rfl
    simp only [execOp, hv, e0, eqGuard_at_slice, Sem.run_bind, Sem.run_pure, Result.andThen_ok, binOp, run_eq_nil (P := P) (t := t), hA]) k
end
/-- Both cases: the slice is nil, or it is not. -/
theorem nilC {P : Program} {N : Nat} {c : Code} {Q : Exit → St → Prop} {E : List (Nat × Slot)} {O : List Ent} (t : Nat) {xs : List (List FV)} (k1 : xs = [] → AWP P N c Q ⟨(t, .nil) :: E, O⟩) (k2 : AWP P N c Q ⟨(t, .r (.v (.nn xs))) :: E, O⟩) (h : Look E t (.r (.v (.sl xs))) := by ((repeat apply Look.there rfl); exact Look.here)) : AWP P N c Q ⟨E, O⟩ := by
  intro w0 ok0 a w hr
  obtain ⟨ρ, hR⟩ := hr
  have h1 : FRep w (okS w0 ok0 (⟨E, O⟩ : St).o ρ) (.sl xs) (a.tmps.getD t Go.undef) := by
    have := hR.slot t
    rw [show (⟨E, O⟩ : St).e t = _ from h.eq] at this
    exact this
  have put : ∀ s : Slot, SlotRep w (okS w0 ok0 (⟨E, O⟩ : St).o ρ) (⟨E, O⟩ : St).o ρ s (a.tmps.getD t Go.undef) → Rel N w0 ok0 (⟨(t, s) :: E, O⟩ : St).e (⟨(t, s) :: E, O⟩ : St).o a w := fun s hs => by
    refine ⟨ρ, hR.size, hR.defers, hR.below, hR.inj, hR.ent, fun t' => ?_⟩
    show SlotRep _ _ _ _ (bif Nat.beq t t' then s else look E t') _
    by_cases e' : t = t'
    · subst e'
      simp only [Nat.beq_refl, cond_true]
      exact hs
    · have hb : Nat.beq t t' = false := by rw [← Bool.not_eq_true, Nat.beq_eq]; exact e'
      rw [hb, cond_false]
      exact hR.slot t'
  generalize hv : a.tmps.getD t Go.undef = v at h1 put
  cases h1 with
  | sl _ A n cc sz vs hn hc hm hsz hA hv' hz =>
    cases A with
    | none =>
      have hc0 := hz rfl
      subst hc0
      have hn0 : n = 0 := by omega
      subst hn0
      exact k1 (List.eq_nil_of_length_eq_zero hn.symm) w0 ok0 a w (put _ (rfl : Value.slice none 0 0 = _))
    | some ad => exact k2 w0 ok0 a w (put _ (FRep.nn xs ad n cc (.sl xs _ n cc sz vs hn hc hm hsz hA hv' hz)))
/-- That a slice is not nil is forgotten. -/
theorem unN {P : Program} {N : Nat} {c : Code} {Q : Exit → St → Prop} {E : List (Nat × Slot)} {O : List Ent} (t : Nat) {xs : List (List FV)} (k : AWP P N c Q ⟨(t, .r (.v (.sl xs))) :: E, O⟩) (h : Look E t (.r (.v (.nn xs))) := by ((repeat apply Look.there rfl); exact Look.here)) : AWP P N c Q ⟨E, O⟩ := by
  intro w0 ok0 a w hr
  obtain ⟨ρ, hR⟩ := hr
  have h1 : FRep w (okS w0 ok0 (⟨E, O⟩ : St).o ρ) (.nn xs) (a.tmps.getD t Go.undef) := by
    have := hR.slot t
    rw [show (⟨E, O⟩ : St).e t = _ from h.eq] at this
    exact this
  refine k w0 ok0 a w ⟨ρ, hR.size, hR.defers, hR.below, hR.inj, hR.ent, fun t' => ?_⟩
  show SlotRep _ _ _ _ (bif Nat.beq t t' then .r (.v (.sl xs)) else look E t') _
  by_cases e' : t = t'
  · subst e'
    simp only [Nat.beq_refl, cond_true]
    generalize a.tmps.getD t Go.undef = v at h1
    cases h1 with
    | nn _ ad n cc h => exact h
  · have hb : Nat.beq t t' = false := by rw [← Bool.not_eq_true, Nat.beq_eq]; exact e'
    rw [hb, cond_false]
    exact hR.slot t'
/-- What a function hands back that has a variable for it. -/
theorem resC {P : Program} {S : St} {t ty n p ty' : Nat} [Agg P ty n] {cs : List Slot} {fs : List FV} (hs : Look S.env t (.box p 0)) (hp : S.o p = .box ty' cs) (hn : cs.length = n) (h : All2 (IsE S.o) cs fs) : ResIs P S (.cell t ty) (.agg fs) := .c hs hp hn h
end Go.Proofs.Ytnhljpbpfaablaa.VS
