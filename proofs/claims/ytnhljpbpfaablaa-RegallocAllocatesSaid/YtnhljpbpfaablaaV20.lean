/- Value semantics, part 20: a call that is handed a row of the call's own, which is turned no more. Conditions: none. -/
import Derived.Test.YtnhljpbpfaablaaV19
set_option linter.unusedSimpArgs false
set_option linter.unusedVariables false
namespace Go.Proofs.Ytnhljpbpfaablaa.VS
open Go Go.RowKit
theorem RelR.freeze {N : Nat} {w0 : World} {ok0 : Nat → Prop} {ρ : Nat → Value} {env : Nat → Slot} {ents : Nat → Ent} {a : Act} {w : World} (hR : RelR N w0 ok0 ρ env ents a w) {p e sz : Nat} {xs : List (List FV)} (h : ents p = .row e sz xs) :
    RelR N w0 ok0 ρ env (upd ents p (.fro xs)) a w := by
  refine hR.move (ρ' := ρ) p hR.below (fun _ _ _ => rfl) (fun q hq => ⟨upd_ne _ _ _ _ hq, rfl⟩) ⟨fun ty cs hx => (by rw [h] at hx; cases hx), fun l hl => ?_⟩ (fun g h1 _ => (by rw [upd_same] at h1; exact h1.elim)) (fun hcc hk => ?_)
  · rw [h] at hl
    have hl : some xs.length = some l := hl
    cases hl
    exact ⟨xs.length, by rw [upd_same]; rfl, Nat.le_refl _, fun _ => rfl⟩
  · rw [upd_same]
    have h1 := hR.ent p
    rw [h] at h1
    obtain ⟨vs, ho, hA, hs, h0⟩ := h1
    refine rep_of_row ho (hA.imp fun _ _ h => h.imp fun _ _ => FRep.mono hk) hs h0 (fun g hg => ⟨fun hlt => ?_, fun q hq hgq => ?_⟩) (row_le ho)
    · have := (ownsRow_blk ho g hg).1; omega
    · by_cases e : q = p
      · subst e; rw [upd_same] at hq; exact hq
      · rw [upd_ne _ _ _ _ e] at hq
        exact e (hR.inj q p g hq (by rw [h]; trivial) hgq hg)
section
variable {P : Program} {ops : Array Oper} {N : Nat} {fin : St → List Rec → Prop} {l : List Oper} {E : List (Nat × Slot)} {O O' : List Ent} {rs : List Rec} {ty : TypeId} {pos : String} {after : Array Edge} {g : Option (Nat × Bool)}
theorem rCallZ {d : Nat} {c : Operand} {args : Array Operand} {at_ : Array TypeId} {f : FuncId} [IsFn P f] {xs : List RV} {out : Out} {p e sz : Nat} {ys : List (List FV)} (hc : Opd E c (.r (.v (.fn f)))) (hp : O.getD p .gone = .row e sz ys) (hO : SetAt O p (.fro ys) O') (ha : Args E O' [p] args.toList xs) (hF : Fn P f xs out)
    (hO' : O'.getD p .gone = .fro ys) (hd : d < N) (hw : W ops E g) (k : Runs P ops N fin l ⟨(d, out.slot) :: E, O'⟩ (⟨out.slot, some (p, .fro ys), [p]⟩ :: rs)) :
    Runs P ops N fin (⟨some d, .call { callee := .value c, args := args, argTypes := at_ }, ty, pos, after, g⟩ :: l) ⟨E, O⟩ rs := by
  refine Runs.op (o := ⟨some d, .call { callee := .value c, args := args, argTypes := at_ }, ty, pos, after, g⟩) (r := ⟨out.slot, some (p, .fro ys), [p]⟩) ?_ hw.wants hO.eq.1 ?_
  · intro w0 ok0 ρ env' ents' a w hev ht hR0 K Q hK
    have he := (ht p (by simp)).trans hp
    have hR := hR0.freeze he
    have hr : ∀ x ∈ (Op.call { callee := .value c, args := args, argTypes := at_ }).operands, SlotRep w (okS w0 ok0 (upd ents' p (.fro ys)) ρ) (upd ents' p (.fro ys)) ρ (ev (look E) x) (a.eval x) := fun x hx => by
      rw [show ev (look E) x = _ from (hev x hx).symm]; exact hR.ev x
    have h1 := hr c (by simp [Op.operands, Call.operands]); rw [hc.eq] at h1
    have hv : a.eval c = .func (.func f) #[] #[] := by
      generalize a.eval c = v at h1
      have h1 : FRep _ _ (.fn f) v := h1
      cases h1
      rfl
    have hrep := ha.rep (a := a) (fun x hx => hr x (by simp only [Op.operands, Call.operands]; exact Array.mem_append.2 (.inr (Array.mem_toList_iff.1 hx)))) (fun q hq => by
      rw [List.mem_singleton.1 hq, upd_same, hO']) hR.ent
    unfold Oper.wp
    have hrun : (execOp a.eval ⟨some d, .call { callee := .value c, args := args, argTypes := at_ }, ty, pos, after, g⟩).run P w = .ok (.enter f (args.map a.eval)) w := by
      simp [execOp, resolve, hv, Deferred.ofValue, invoke, run_enter]
    rw [hrun]
    have hargs : (args.map a.eval) = (args.toList.map a.eval).toArray := by
      rw [← Array.toList_map, Array.toArray_toList]
    rw [hargs]
    refine (hF w _ _ hrep).mono fun ex w' h => ?_
    obtain ⟨v, rfl, hb, ho⟩ := h
    have hR' := hR.later hb
    refine hK _ _ ⟨ρ, hR'.put (some d) (fun d' h => by cases h; exact hd) (Out.rep.slot (Out.rep.mono (fun k hk hlt => ⟨rfl, ?_⟩) ho))⟩
    refine ⟨fun hk0 => (hk (Nat.lt_of_lt_of_le hk0 hR.below.size)).1 hk0, fun q hq hg => ?_⟩
    by_cases hkl : k < w.heap.size
    · exact (hk hkl).2 q hq hg
    · exact hkl (hR.blk_lt hq hg).2
  · have : (St.step ⟨E, O⟩ (some d) ⟨out.slot, some (p, .fro ys), [p]⟩) = ⟨(d, out.slot) :: E, O'⟩ := by
      show (⟨putE E (some d) _, setE O (some (p, _))⟩ : St) = _
      rw [hO.eq.2]; rfl
    show Runs P ops N fin l (St.step ⟨E, O⟩ (some d) _) _
    rw [this]
    exact k
theorem clZ (p : Nat) {d : Nat} {c : Operand} {args : Array Operand} {at_ : Array TypeId} {f : FuncId} [IsFn P f] {xs : List RV} {out : Out} {e sz : Nat} {ys : List (List FV)} (hF : Fn P f xs out) (k : Runs P ops N fin l ⟨(d, out.slot) :: E, O'⟩ (⟨out.slot, some (p, .fro ys), [p]⟩ :: rs))
    (hc : Opd E c (.r (.v (.fn f))) := by first | exact Opd.int _ _ | exact Opd.bool _ | exact Opd.nil | exact Opd.fn _ | exact Opd.str _ | (apply Opd.tmp; ((repeat apply Look.there rfl); exact Look.here))) (hp : O.getD p .gone = .row e sz ys := by exact rfl) (hO : SetAt O p (.fro ys) O' := by ((repeat apply SetAt.there); exact SetAt.here)) (ha : Args E O' [p] args.toList xs := by ((repeat (apply Args.cons (by first | exact Opd.int _ _ | exact Opd.bool _ | exact Opd.nil | exact Opd.fn _ | exact Opd.str _ | (apply Opd.tmp; ((repeat apply Look.there rfl); exact Look.here))) (by first | exact fun _ _ => IsD.f (IsF.v _) | exact fun _ _ => IsD.agg _ | exact fun _ _ => IsD.f IsF.nil | exact fun _ h => IsD.f (IsF.fro ((h _ (by simp)).trans rfl) (by first | assumption | exact rfl | (simp; done) | (simp; omega) | omega))))); exact Args.nil)) (hO' : O'.getD p .gone = .fro ys := by exact rfl) (hd : d < N := by decide) (hw : W ops E g := by first | exact W.none | (apply wof rfl; ((repeat apply Look.there rfl); exact Look.here); first | assumption | exact rfl)) :
    Runs P ops N fin (⟨some d, .call { callee := .value c, args := args, argTypes := at_ }, ty, pos, after, g⟩ :: l) ⟨E, O⟩ rs := rCallZ hc hp hO ha hF hO' hd hw k
end
end Go.Proofs.Ytnhljpbpfaablaa.VS
