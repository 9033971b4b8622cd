/- The method that takes the innermost construct off. Conditions: none. -/
import Derived.Test.YtnhljpbpfaablaaV26
import Derived.Test.YtnhljpbpfaablaaT
import Derived.Sort.WalkB12
import Derived.Deep.LoopGhost
import Derived.Shelf.RegionOpenPlain
namespace Go.Proofs.Ytnhljpbpfaablaa.VS
open Go Go.RowKit Go.Sort
theorem pop_raw (w : World) (g b n cap : Nat) (hc : w.cell? ⟨g, 0, none⟩ = some (.slice (some ⟨b, 0, none⟩) n cap)) (hf : w.frozen? ⟨g, 0, none⟩ = false) (h0 : 0 < n) (hn : n ≤ cap) (hb : n ≤ 9223372036854775807) :
    Calls Try.prog 56 #[.pointer (some ⟨g, 0, none⟩)] w fun e w' => e = .returned (.tuple #[]) ∧ ∃ k, w' = (w.setCell ⟨g, 0, none⟩ (.slice (some ⟨b, 0, none⟩) (n - 1) cap)).drewN k := by
  have mixed := mixO
  go_enter Try.func56, Try.ntmps56
  have p1 : (0 : Int) ≤ (n : Int) - 1 := by omega
  have p2 : IntKind.i64.wrap ((n : Int) - 1) = (n : Int) - 1 := by rw [IntKind.wrap_i64]; omega
  have p3 : ((n : Int) - 1).toNat = n - 1 := by omega
  have p4 : (n : Int) - 1 ≤ cap := by omega
  have p5 : n - 1 ≤ cap := by omega
  go_wp2_with fail
  go_big_region_o
  go_end0
  exact ⟨rfl, 1, rfl⟩
theorem entO_sav {O : List Ent} {K : List (Slot × Value)} {p : Nat} (hp : p < O.length) : entO (O ++ [.sav K]) p = O.getD p .gone := by
  rw [entO_append, if_neg (by omega)]; rfl
theorem c56 {O : List Ent} (p q m : Nat) {e sz : Nat} {cs : List Slot} {xs : List (List FV)} (hp : O.getD p .gone = .box 63 (.own q (m + 1) :: cs)) (hq : O.getD q .gone = .row e sz xs) (hl : xs.length = m + 1) (hcs : cs.all (Slot.free [q]) = true)
    (hfree : ∀ r, r ≠ p → r ≠ q → (O.getD r .gone).free [q] = true) (hpl : p < O.length) (hql : q < O.length) : FnX Try.prog 56 [q] [.box p 0] .none O ((O.set p (.box 63 (.own q m :: cs))).set q (.row e sz (xs.take m))) := by
  intro w0 ok0 ρ w vs K hE hK hKf hss
  have hpq : p ≠ q := fun e' => by subst e'; rw [hp] at hq; cases hq
  have ep := (entO_sav (K := K) hpl).trans hp
  have eq' := (entO_sav (K := K) hql).trans hq
  cases hss with
  | cons h1 h2 =>
  cases h2
  obtain ⟨g, b, cap, h3, h4, h5, h6, h7, h8, h9⟩ := hE.top ep eq' hl
  obtain ⟨ty', cs', g', _, h10, h11⟩ := h1
  rw [h3] at h10
  cases h10
  subst h11
  refine (pop_raw w g b (m + 1) cap h7 h8 (by omega) h5 (by have : maxLen = 9223372036854775807 := rfl; omega)).mono fun e' w' h => ?_
  obtain ⟨rfl, k, rfl⟩ := h
  refine ⟨_, upd ρ q (.slice (some ⟨b, 0, none⟩) m cap), rfl, ?_, rfl⟩
  have h12 := hE.pop ep eq' hl hcs (fun r h13 h14 => by
    by_cases hr : r < O.length
    · rw [entO_sav hr]; exact hfree r h13 h14
    · rw [entO_append]
      by_cases hr2 : r = O.length
      · rw [if_pos hr2]; exact hKf
      · rw [if_neg hr2]
        unfold entO
        rw [List.getD_eq_getElem?_getD, List.getElem?_eq_none (by omega)]; rfl) h3 h4 k
  have h15 : entO ((O.set p (.box 63 (.own q m :: cs))).set q (.row e sz (xs.take m)) ++ [.sav K]) = upd (upd (entO (O ++ [.sav K])) p (.box 63 (.own q m :: cs))) q (.row e sz (xs.take m)) := by
    funext r
    rw [entO_append]
    simp only [List.length_set]
    by_cases hr : r = O.length
    · rw [if_pos hr, upd_ne _ _ _ _ (by omega), upd_ne _ _ _ _ (by omega), entO_append, if_pos hr]
    · rw [if_neg hr]
      unfold entO
      rw [List.getD_eq_getElem?_getD]
      by_cases e1 : r = q
      · subst e1
        rw [upd_same, List.getElem?_set_self (by simpa using hql)]; rfl
      · rw [upd_ne _ _ _ _ e1, List.getElem?_set_ne (fun e' => e1 e'.symm)]
        by_cases e2 : r = p
        · subst e2
          rw [upd_same, List.getElem?_set_self hpl]; rfl
        · rw [upd_ne _ _ _ _ e2, List.getElem?_set_ne (fun e' => e2 e'.symm), ← List.getD_eq_getElem?_getD]
          by_cases e3 : r < O.length
          · rw [List.getD_eq_getElem?_getD, List.getD_eq_getElem?_getD, List.getElem?_append_left e3]
          · rw [List.getD_eq_getElem?_getD, List.getD_eq_getElem?_getD, List.getElem?_eq_none (by omega), List.getElem?_eq_none (by simp; omega)]
  rw [h15]
  exact h12
end Go.Proofs.Ytnhljpbpfaablaa.VS
