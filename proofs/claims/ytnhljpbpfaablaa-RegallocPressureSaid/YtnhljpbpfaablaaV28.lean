/- Value semantics, part 28: the ends of functions that turn the caller's entries. Conditions: none. -/
import Derived.Test.YtnhljpbpfaablaaV27
set_option linter.unusedSimpArgs false
set_option linter.unusedVariables false
namespace Go.Proofs.Ytnhljpbpfaablaa.VS
open Go Go.RowKit

theorem Slot.under_mono {s : Slot} {n m : Nat} (h : s.under n = true) (hm : n ≤ m) : s.under m = true := by
  cases s with
  | box p o => simp [Slot.under] at h ⊢; omega
  | own p k => simp [Slot.under] at h ⊢; omega
  | op p k o => simp [Slot.under] at h ⊢; omega
  | clo f ps => simp [Slot.under] at h ⊢; exact fun p hp => Nat.lt_of_lt_of_le (h p hp) hm
  | bsl p o k => simp [Slot.under] at h ⊢; omega
  | _ => rfl
theorem savU {K : List (Slot × Value)} {n m : Nat} (h : (K.all fun x => x.1.under n) = true) (hm : n ≤ m) : (Ent.sav K).under m = true := by
  show (K.all fun x => x.1.under m) = true
  rw [List.all_eq_true] at h ⊢
  exact fun x hx => Slot.under_mono (h x hx) hm
/-- The end of such a function that hands back a truth value or a number. -/
theorem xl1 {N : Nat} {E : List (Nat × Slot)} {O O' : List Ent} {K : List (Slot × Value)} {rs : Array ResultVar} {t : Nat} {v x : FV} {e : Exit} (n : Nat) (he : e = .normal ∨ e = .ret) (hr : rs = #[.tmp t]) (hE : Look E t (.r (.v v))) (hv : v = x) (hO : O.take n = O' ++ [.sav K]) (hu : (O.take n).all (Ent.under n) = true) : (e = .normal ∨ e = .ret) ∧ Wk N ⟨E, O⟩ (fun S0 => S0.ents = O' ++ [.sav K] ∧ OutX rs S0.env (.one (.v x))) := by
  subst hv
  exact ⟨he, wkK n (E' := [(t, .r (.v v))]) ⟨hO, .one hr .here⟩ (.cons hE .nil) rfl hu⟩
theorem xl0 {N : Nat} {E : List (Nat × Slot)} {O O' : List Ent} {K : List (Slot × Value)} {rs : Array ResultVar} {e : Exit} (n : Nat) (he : e = .normal ∨ e = .ret) (hO : O.take n = O' ++ [.sav K]) (hu : (O.take n).all (Ent.under n) = true) (hr : rs = #[] := by exact rfl) : (e = .normal ∨ e = .ret) ∧ Wk N ⟨E, O⟩ (fun S0 => S0.ents = O' ++ [.sav K] ∧ OutX rs S0.env .none) :=
  ⟨he, wkK n (E' := []) ⟨hO, .none hr⟩ .nil rfl hu⟩
/-- Four entries of the caller's, and what else it holds. -/
theorem un5 {e0 e1 e2 e3 e4 : Ent} {O : List Ent} (h4 : e4.under 5 = true) (h : (e0.under 5 && (e1.under 5 && (e2.under 5 && e3.under 5))) = true := by exact rfl) : ((e0 :: e1 :: e2 :: e3 :: e4 :: O).take 5).all (Ent.under 5) = true := by
  simp only [Bool.and_eq_true] at h
  simp [h.1, h.2.1, h.2.2.1, h.2.2.2, h4]
theorem un6 {e0 e1 e2 e3 e4 e5 : Ent} (h4 : e4.under 6 = true) (h : (e0.under 6 && (e1.under 6 && (e2.under 6 && (e3.under 6 && e5.under 6)))) = true := by exact rfl) : [e0, e1, e2, e3, e4, e5].all (Ent.under 6) = true := by
  simp only [Bool.and_eq_true] at h
  simp [h.1, h.2.1, h.2.2.1, h.2.2.2.1, h.2.2.2.2, h4]
end Go.Proofs.Ytnhljpbpfaablaa.VS
