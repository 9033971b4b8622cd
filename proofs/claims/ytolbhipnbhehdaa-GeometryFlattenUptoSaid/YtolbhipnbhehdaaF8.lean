/- The walks of functions: what each computes, by itself. Conditions: none. -/
import Derived.Test.YtolbhipnbhehdaaF7
set_option linter.unusedVariables false
set_option linter.unusedSimpArgs false
namespace Go.Proofs.Ytolbhipnbhehdaa.VS
open Go
theorem runsF_all {l : List Int} (h : ∀ x ∈ l, 0 ≤ x) : runsF l = ([], l) := by
  suffices h2 : ∀ (l : List Int) (s : List (List Int) × List Int), (∀ x ∈ l, 0 ≤ x) → l.foldl stepR s = (s.1, s.2 ++ l) by
    have := h2 l ([], []) h
    simpa [runsF] using this
  intro l
  induction l with
  | nil => intro s _; simp
  | cons a l ih =>
    intro s h
    rw [List.foldl_cons, stepR, if_pos (h a (.head _)), ih _ (fun x hx => h x (.tail _ hx))]
    simp
theorem runs_iota (n : Nat) : (runs (iota n) = [] ∧ n = 0) ∨ runs (iota n) = [iota n] := by
  have h : runsF (iota n) = ([], iota n) := runsF_all (by intro x hx; simp [iota] at hx; obtain ⟨k, _, rfl⟩ := hx; omega)
  unfold runs
  rw [h]
  by_cases h0 : iota n = []
  · left; exact ⟨by simp [flush, h0], by have := congrArg List.length h0; simpa [iota_len] using this⟩
  · right; simp [flush, h0]
def trisK (k : Nat) : List (T3 Int) := (List.range k).map tri
theorem trisK_snoc (k : Nat) : trisK (k + 1) = trisK k ++ [tri k] := by simp [trisK, List.range_succ]
theorem trisK_len (k : Nat) : (trisK k).length = k := by simp [trisK]
def tris (n : Nat) : List (T3 Int) := trisK (n - 2)
def upto (rs : List (List Int)) (n k : Nat) : List (T3 Int) := if k = 0 then [] else tris n
theorem runs_one {n k : Nat} (h : k < (runs (iota n)).length) : k = 0 ∧ runs (iota n) = [iota n] := by
  rcases runs_iota n with ⟨h1, _⟩ | h1
  · rw [h1] at h; simp at h
  · rw [h1] at h; exact ⟨by simpa using h, h1⟩
theorem upto_end {n k : Nat} (h : k = (runs (iota n)).length) : upto (runs (iota n)) n k = tris n := by
  rcases runs_iota n with ⟨h1, h2⟩ | h1
  · subst h2; rw [h, h1]; rfl
  · rw [h, h1]; rfl
/-- frustum/assemble.Triangles -/
theorem c34 (n : Nat) (hn : n ≤ 300) : Fn Try.prog 34 [I 2, L (iota n)] (.one (L (tris n))) := by
  refine fnI Try.func34 Try.ntmps34 fun hb => ?_
  have hil := iota_len n
  refine sg ?_
  refine as_ ?_
  refine rNil ?_
  refine sg ?_
  refine as_ ?_
  refine rNil ?_
  refine sq ?_
  refine sg ?_
  refine mv ?_
  refine cl (c41 (iota n) (by omega)) ?_
  first | refine lnM ?_ | refine ln ?_ | refine lnO ?_ | refine lnN ?_ | refine lnW ?_
  refine mv ?_
  refine rNil ?_
  refine bk ?_
  refine adN 0 5 52 3 ?_
  generalize hrs : runs (iota n) = rs
  refine lp (fun q S => ∃ (k m : Nat), q = rs.length - k ∧ k ≤ rs.length ∧ m = (upto rs n k).length ∧ S = ⟨[(14, .r (I k)), (13, .r (I rs.length)), (12, .r (L rs)), (0, .r (I 2)), (5, .own 0 m)], [.row 52 3 ((upto rs n k).map Enc.c)]⟩) rs.length ?_ ?_
  · exact wx 1 ⟨0, 0, rfl, by omega, rfl, rfl⟩
  rintro q S ⟨k, m, hq, hk, hm, rfl⟩
  refine sg ?_
  refine bo ?_
  refine rNil ?_
  refine sq ?_
  refine cn (fun h1 => ?_) (fun h1 => ?_)
  ·
    have hk1 : k < rs.length := by simp at h1; omega
    obtain ⟨rfl, hr1⟩ := runs_one (n := n) (k := k) (by rw [hrs]; exact hk1)
    rw [hrs] at hr1
    subst hr1
    obtain rfl : m = 0 := by simpa [upto] using hm
    have hx : [iota n][0]? = some (iota n) := rfl
    refine awp_skip ?_
    refine tn ?_
    refine sq ?_
    refine bk ?_
    refine sg ?_
    first | refine xs_ ?_ | refine xo ?_ | refine xw ?_
    first | refine l1f ?_ | refine l1b ?_ | refine l1o ?_
    refine as_ ?_
    refine rNil ?_
    refine sg ?_
    refine mv ?_
    refine mv ?_
    first | refine lnM ?_ | refine ln ?_ | refine lnO ?_ | refine lnN ?_ | refine lnW ?_
    refine cl (c42 (iota n).length (by omega)) ?_
    refine mv ?_
    refine rNil ?_
    refine bk ?_
    rw [hil] at *
    refine lp (fun q S => ∃ (j m : Nat), q = n - 2 - j ∧ j ≤ n - 2 ∧ m = j ∧ S = ⟨[(22, .r (I j)), (21, .r (I ((n - 2 : Nat) : Int))), (7, .r (L (iota n))), (14, .r (I (0 : Nat))), (13, .r (I ([iota n] : List (List Int)).length)), (12, .r (L [iota n])), (0, .r (I 2)), (5, .own 0 m)], [.row 52 3 ((trisK j).map Enc.c)]⟩) (n - 2) ?_ ?_
    · exact wy 1 ⟨0, 0, by omega, by omega, rfl, rfl⟩ rfl
    rintro q' S ⟨j, m', hq', hj, hmj, rfl⟩
    have hmm : m' = ((trisK j).map Enc.c).length := by rw [List.length_map, trisK_len, hmj]
    have htl := trisK_len j
    refine sg ?_
    refine bo ?_
    refine rNil ?_
    refine sq ?_
    refine cn (fun h2 => ?_) (fun h2 => ?_)
    ·
      have hj1 : j < n - 2 := by simp at h2; omega
      refine awp_skip ?_
      refine tn ?_
      refine sq ?_
      refine bk ?_
      refine sg ?_
      refine mv ?_
      refine as_ ?_
      refine rNil ?_
      refine sg ?_
      refine mv ?_
      refine mv ?_
      refine mv ?_
      refine cl (c43 n j hn hj1) ?_
      refine mv ?_
      refine ex ?_
      refine ex ?_
      refine al _ ?_
      refine sA ?_
      refine as_ ?_
      refine rNil ?_
      refine rg ?_
      refine mv ?_
      first | refine lAf ?_ | refine lAb ?_ | refine lAo ?_
      refine bs ?_
      first | refine ap ?_ | refine (apN _) ?_
      refine as_ ?_
      refine rNil ?_
      refine bn_ ?_
      refine tn ?_
      refine rg ?_
      refine bo ?_
      refine mv ?_
      refine rNil ?_
      refine tn ?_
      exact ⟨n - 2 - (j + 1), by omega, wy 1 ⟨j + 1, m' + 1, rfl, by omega, by omega, rfl⟩ (by simp [trisK_snoc, RV.flat, Enc.c])⟩ -- LEAF 1: round of loop 2
    ·
      refine awp_exit ?_
      refine te ?_
      refine te ?_
      refine xbk ?_
      refine bn_ ?_
      refine tn ?_
      refine rg ?_
      refine bo ?_
      refine mv ?_
      refine rNil ?_
      refine tn ?_
      obtain rfl : j = n - 2 := by simp at h2; omega
      exact ⟨[iota n].length - (0 + 1), by simp at hq ⊢; omega, wy 1 ⟨1, m', rfl, by simp, by simp [upto, tris, trisK_len, hmj], rfl⟩ (by simp [upto, tris])⟩ -- LEAF 2: round of loop 1
  ·
    refine awp_exit ?_
    refine te ?_
    refine te ?_
    refine xbk ?_
    refine tn ?_
    refine sg ?_
    refine mv ?_
    refine as_ ?_
    refine rNil ?_
    refine awp_ret ?_
    have hkk : k = rs.length := by simp at h1; omega
    have hu := upto_end (n := n) (k := k) (by rw [hrs]; exact hkk)
    rw [hrs] at hu
    rw [hu] at hm ⊢
    exact ⟨.inr rfl, _, .cons (.v (by ((repeat apply Look.there rfl); exact Look.here)) (.row rfl (by simpa using hm))) .nil, rfl⟩ -- LEAF 3: ret

/-- frustum/frustumref16.Triangles -/
theorem c36 (n : Nat) (hn : n ≤ 300) : Fn Try.prog 36 [I 2, L (iota n)] (.one (L (tris n))) := by
  refine fnI Try.func36 Try.ntmps36 fun hb => ?_
  have hil := iota_len n
  refine sg ?_
  refine as_ ?_
  refine rNil ?_
  refine sg ?_
  refine as_ ?_
  refine rNil ?_
  refine sg ?_
  refine mv ?_
  refine cl (c44 (iota n) (by omega)) ?_
  refine as_ ?_
  refine rNil ?_
  refine sq ?_
  refine sg ?_
  refine as_ ?_
  refine rNil ?_
  refine bk ?_
  refine adN 0 5 52 3 ?_
  generalize hrs : runs (iota n) = rs
  refine lp (fun q S => ∃ (k m : Nat), q = rs.length - k ∧ k ≤ rs.length ∧ m = (upto rs n k).length ∧ S = ⟨[(7, .r (I k)), (6, .r (L rs)), (0, .r (I 2)), (5, .own 0 m)], [.row 52 3 ((upto rs n k).map Enc.c)]⟩) rs.length ?_ ?_
  · exact wx 1 ⟨0, 0, rfl, by omega, rfl, rfl⟩
  rintro q S ⟨k, m, hq, hk, hm, rfl⟩
  have hrl : rs.length ≤ 1 := by rcases runs_iota n with ⟨h, _⟩ | h <;> (rw [← hrs, h]; simp)
  refine sq ?_
  refine sg ?_
  refine mv ?_
  refine mv ?_
  first | refine lnM ?_ | refine ln ?_ | refine lnO ?_ | refine lnN ?_ | refine lnW ?_
  refine bo ?_
  refine rNil ?_
  refine cn (fun h1 => ?_) (fun h1 => ?_)
  ·
    have hk1 : k < rs.length := by simp at h1; omega
    obtain ⟨rfl, hr1⟩ := runs_one (n := n) (k := k) (by rw [hrs]; exact hk1)
    rw [hrs] at hr1
    subst hr1
    obtain rfl : m = 0 := by simpa [upto] using hm
    have hx : [iota n][0]? = some (iota n) := rfl
    refine awp_skip ?_
    refine tn ?_
    refine sq ?_
    refine bk ?_
    refine sg ?_
    refine as_ ?_
    refine rNil ?_
    refine bk ?_
    refine lp (fun q S => ∃ (j m : Nat), q = n - 2 - j ∧ j ≤ n - 2 ∧ m = j ∧ S = ⟨[(8, .r (I j)), (7, .r (I (0 : Nat))), (6, .r (L [iota n])), (0, .r (I 2)), (5, .own 0 m)], [.row 52 3 ((trisK j).map Enc.c)]⟩) (n - 2) ?_ ?_
    · exact wy 1 ⟨0, 0, by omega, by omega, rfl, rfl⟩ rfl
    rintro q' S ⟨j, m', hq', hj, hmj, rfl⟩
    have hmm : m' = ((trisK j).map Enc.c).length := by rw [List.length_map, trisK_len, hmj]
    have htl := trisK_len j
    refine sq ?_
    refine sg ?_
    refine mv ?_
    refine mv ?_
    refine mv ?_
    refine mv ?_
    first | refine xs_ ?_ | refine xo ?_ | refine xw ?_
    first | refine l1f ?_ | refine l1b ?_ | refine l1o ?_
    first | refine lnM ?_ | refine ln ?_ | refine lnO ?_ | refine lnN ?_ | refine lnW ?_
    refine cl (c45 (iota n).length (by omega)) ?_
    refine bo ?_
    refine rNil ?_
    refine cn (fun h2 => ?_) (fun h2 => ?_)
    ·
      have hj1 : j < n - 2 := by simp [hil] at h2; omega
      refine awp_skip ?_
      refine tn ?_
      refine sq ?_
      refine bk ?_
      refine sg ?_
      refine mv ?_
      refine mv ?_
      refine mv ?_
      first | refine xs_ ?_ | refine xo ?_ | refine xw ?_
      first | refine l1f ?_ | refine l1b ?_ | refine l1o ?_
      refine mv ?_
      refine cl (c46 n j hn hj1) ?_
      refine mv ?_
      refine ex ?_
      refine ex ?_
      refine al _ ?_
      refine sA ?_
      refine as_ ?_
      refine rNil ?_
      refine rg ?_
      refine mv ?_
      first | refine lAf ?_ | refine lAb ?_ | refine lAo ?_
      refine bs ?_
      first | refine ap ?_ | refine (apN _) ?_
      refine as_ ?_
      refine rNil ?_
      refine bn_ ?_
      refine tn ?_
      refine rg ?_
      refine mv ?_
      refine bo ?_
      refine as_ ?_
      refine rNil ?_
      refine tn ?_
      exact ⟨n - 2 - (j + 1), by omega, wy 1 ⟨j + 1, m' + 1, rfl, by omega, by omega, rfl⟩ (by simp [trisK_snoc, RV.flat, Enc.c])⟩ -- LEAF 1: round of loop 2
    ·
      refine awp_exit ?_
      refine te ?_
      refine te ?_
      refine xbk ?_
      refine bn_ ?_
      refine tn ?_
      refine rg ?_
      refine mv ?_
      refine bo ?_
      refine as_ ?_
      refine rNil ?_
      refine tn ?_
      obtain rfl : j = n - 2 := by simp [hil] at h2; omega
      exact ⟨[iota n].length - (0 + 1), by simp at hq ⊢; omega, wy 1 ⟨1, m', rfl, by simp, by simp [upto, tris, trisK_len, hmj], rfl⟩ (by simp [upto, tris])⟩ -- LEAF 2: round of loop 1
  ·
    refine awp_exit ?_
    refine te ?_
    refine te ?_
    refine xbk ?_
    refine tn ?_
    refine sg ?_
    refine mv ?_
    refine as_ ?_
    refine rNil ?_
    refine awp_ret ?_
    have hkk : k = rs.length := by simp at h1; omega
    have hu := upto_end (n := n) (k := k) (by rw [hrs]; exact hkk)
    rw [hrs] at hu
    rw [hu] at hm ⊢
    exact ⟨.inr rfl, _, .cons (.v (by ((repeat apply Look.there rfl); exact Look.here)) (.row rfl (by simpa using hm))) .nil, rfl⟩ -- LEAF 3: ret

end Go.Proofs.Ytolbhipnbhehdaa.VS
