/- The walks of functions: what each computes, by itself. Conditions: none. -/
import Derived.Test.YtlaaigljlhkdpaaF8
set_option linter.unusedVariables false
set_option linter.unusedSimpArgs false
namespace Go.Proofs.Ytlaaigljlhkdpaa.VS
open Go
def pixl (t : Tri) (n x y : Int) : List (T3 Int) := if maskF t x y n = 0 then [] else [⟨x, y, maskF t x y n⟩]
def rowL (t : Tri) (n lo y : Int) (k : Nat) : List (T3 Int) := (List.range k).flatMap fun (i : Nat) => pixl t n (lo + i) y
def gridL (t : Tri) (n lx ly : Int) (w j : Nat) : List (T3 Int) := (List.range j).flatMap fun (i : Nat) => rowL t n lx (ly + i) w
theorem pixl_len (t : Tri) (n x y : Int) : (pixl t n x y).length ≤ 1 := by unfold pixl; split <;> simp
theorem fm_len {α : Type} {f : Nat → List α} {c : Nat} (h : ∀ i, (f i).length ≤ c) : ∀ k, ((List.range k).flatMap f).length ≤ k * c
  | 0 => by simp
  | k + 1 => by
    have h1 := fm_len h k
    have h2 := h k
    have h3 : ([k].flatMap f).length = (f k).length := by simp
    rw [List.range_succ, List.flatMap_append, List.length_append, Nat.succ_mul, h3]
    omega
theorem fm_succ {α : Type} (f : Nat → List α) (k : Nat) : (List.range (k + 1)).flatMap f = (List.range k).flatMap f ++ f k := by
  rw [List.range_succ, List.flatMap_append]; simp
theorem rowL_len (t : Tri) (n lo y : Int) (k : Nat) : (rowL t n lo y k).length ≤ k * 1 := fm_len (fun i => pixl_len _ _ _ _) k
theorem gridL_len (t : Tri) (n lx ly : Int) (w j : Nat) : (gridL t n lx ly w j).length ≤ j * (w * 1) := fm_len (fun i => rowL_len _ _ _ _ _) j
theorem limF_bd {a s : Int} (ha : -300 ≤ a ∧ a ≤ 300) : 0 ≤ (limF a s).1 ∧ (limF a s).1 ≤ 300 ∧ 0 ≤ (limF a s).2 ∧ (limF a s).2 ≤ 64 ∨ (limF a s).2 ≤ 0 ∧ -300 ≤ (limF a s).2 ∧ 0 ≤ (limF a s).1 ∧ (limF a s).1 ≤ 300 := by
  unfold limF mx
  split
  · simp
  · dsimp only; split <;> split <;> omega
def span (p : Int × Int) : Nat := (p.2 - p.1).toNat
def pixP (t : Tri) (x0 y0 w h n : Int) : List (T3 Int) := gridL t n (limF x0 w).1 (limF y0 h).1 (span (limF x0 w)) (span (limF y0 h))
/-- frustum/coverage.Pixels -/
theorem c18 (t : Tri) (x0 y0 w h n : Int) (hx : -300 ≤ x0 ∧ x0 ≤ 300) (hy : -300 ≤ y0 ∧ y0 ≤ 300) (hw : w ≤ 300) (hh : h ≤ 300) : Fn Try.prog 18 [A t, I x0, I y0, I w, I h, I n] (.one (L (pixP t x0 y0 w h n))) := by
  refine fnI Try.func18 Try.ntmps18 fun hb => ?_
  refine sg ?_
  refine bx _ ?_
  refine as_ ?_
  refine rNil ?_
  refine sg ?_
  refine mv ?_
  refine mv ?_
  refine cl (c34 x0 w hx hw) ?_
  refine mv ?_
  refine ex ?_
  refine ex ?_
  refine as_ ?_
  refine as_ ?_
  refine rNil ?_
  refine sg ?_
  refine mv ?_
  refine mv ?_
  refine cl (c34 y0 h hy hh) ?_
  refine mv ?_
  refine ex ?_
  refine ex ?_
  refine as_ ?_
  refine as_ ?_
  refine rNil ?_
  refine sg ?_
  refine as_ ?_
  refine rNil ?_
  refine sq ?_
  refine sg ?_
  refine mv ?_
  refine as_ ?_
  refine rNil ?_
  refine bk ?_
  unfold pixP
  have hlx := limF_bd (s := w) hx
  have hly := limF_bd (s := h) hy
  generalize hW : span (limF x0 w) = wd
  generalize hH : span (limF y0 h) = hg
  generalize (limF x0 w) = lx at *
  generalize (limF y0 h) = ly at *
  obtain ⟨x1, x2⟩ := lx
  obtain ⟨y1, y2⟩ := ly
  unfold span at hW hH
  dsimp only at *
  refine adN 1 17 49 3 ?_
  refine lp (fun m S => ∃ (j o : Nat), m = hg - j ∧ j ≤ hg ∧ o = (gridL t n x1 y1 wd j).length ∧ S = ⟨[(18, .r (I (y1 + j))), (17, .own 1 o), (13, .r (I x1)), (14, .r (I x2)), (16, .r (I y2)), (5, .r (I n)), (6, .box 0 0)], [.box 27 (triC t), .row 49 3 ((gridL t n x1 y1 wd j).map Enc.c)]⟩) hg ?_ ?_
  · exact wx 2 ⟨0, 0, by omega, by omega, rfl, rfl⟩
  rintro m S ⟨j, o, hm, hj, ho, rfl⟩
  have hgl := gridL_len t n x1 y1 wd j
  have hgb : j * (wd * 1) ≤ 64 * 64 := Nat.mul_le_mul (by omega) (by omega)
  refine sq ?_
  refine sg ?_
  refine mv ?_
  refine mv ?_
  refine bo ?_
  refine rNil ?_
  refine cn (fun h1 => ?_) (fun h1 => ?_)
  ·
    refine awp_skip ?_
    refine tn ?_
    refine sq ?_
    refine bk ?_
    refine sg ?_
    refine mv ?_
    refine as_ ?_
    refine rNil ?_
    refine bk ?_
    have hj1 : j < hg := by simp at h1; omega
    refine lp (fun m S => ∃ (i o : Nat), m = wd - i ∧ i ≤ wd ∧ o = (gridL t n x1 y1 wd j ++ rowL t n x1 (y1 + j) i).length ∧ S = ⟨[(19, .r (I (x1 + i))), (18, .r (I (y1 + j))), (17, .own 1 o), (13, .r (I x1)), (14, .r (I x2)), (16, .r (I y2)), (5, .r (I n)), (6, .box 0 0)], [.box 27 (triC t), .row 49 3 ((gridL t n x1 y1 wd j ++ rowL t n x1 (y1 + j) i).map Enc.c)]⟩) wd ?_ ?_
    · exact wy 2 ⟨0, o, by omega, by omega, by rw [ho]; simp [rowL], rfl⟩ (by simp [rowL])
    rintro m S ⟨i, o, hm, hi, ho, rfl⟩
    have hrl := rowL_len t n x1 (y1 + j) i
    have hlen : (gridL t n x1 y1 wd j ++ rowL t n x1 (y1 + j) i).length ≤ 5000 := by rw [List.length_append]; omega
    have hrow : o = ((gridL t n x1 y1 wd j ++ rowL t n x1 (y1 + j) i).map Enc.c).length := by rw [List.length_map]; exact ho
    generalize hG : gridL t n x1 y1 wd j ++ rowL t n x1 (y1 + j) i = G at *
    refine sq ?_
    refine sg ?_
    refine mv ?_
    refine mv ?_
    refine bo ?_
    refine rNil ?_
    refine cn (fun h2 => ?_) (fun h2 => ?_)
    ·
      have hi1 : i < wd := by simp at h2; omega
      have hsn : gridL t n x1 y1 wd j ++ rowL t n x1 (y1 + j) (i + 1) = G ++ pixl t n (x1 + i) (y1 + j) := by rw [rowL, fm_succ, ← List.append_assoc, ← hG]; rfl
      refine awp_skip ?_
      refine tn ?_
      refine sq ?_
      refine bk ?_
      refine sg ?_
      first | refine lAf ?_ | refine lAb ?_ | refine lAo ?_
      refine mv ?_
      refine mv ?_
      refine mv ?_
      refine cl (c35 t _ _ n) ?_
      refine as_ ?_
      refine rNil ?_
      refine sg ?_
      refine mv ?_
      refine bo ?_
      refine rNil ?_
      refine cn (fun h3 => ?_) (fun h3 => ?_)
      ·
        have hpx : pixl t n (x1 + i) (y1 + j) = [⟨x1 + i, y1 + j, maskF t (x1 + i) (y1 + j) n⟩] := by rw [pixl, if_neg (by simpa using h3)]
        refine rg ?_
        refine mv ?_
        refine mv ?_
        refine mv ?_
        refine mv ?_
        refine buA ?_
        refine bs ?_
        first | refine ap ?_ | refine (apN _) ?_
        refine as_ ?_
        refine rNil ?_
        refine bn_ ?_
        refine tn ?_
        refine rg ?_
        refine mv ?_
        refine bo ?_
        refine as_ ?_
        refine rNil ?_
        refine tn ?_
        exact ⟨wd - (i + 1), by omega, wy 2 ⟨i + 1, o + 1, rfl, by omega, by rw [hsn, hpx, List.length_append, ← ho]; rfl, rfl⟩ (by rw [hsn, hpx, List.map_append]; rfl)⟩ -- LEAF 1: round of loop 2
      ·
        have hpx : pixl t n (x1 + i) (y1 + j) = [] := by rw [pixl, if_pos (by simpa using h3)]
        refine awp_skip ?_
        refine bn_ ?_
        refine tn ?_
        refine rg ?_
        refine mv ?_
        refine bo ?_
        refine as_ ?_
        refine rNil ?_
        refine tn ?_
        exact ⟨wd - (i + 1), by omega, wy 2 ⟨i + 1, o, rfl, by omega, by rw [hsn, hpx, List.append_nil, ← ho], rfl⟩ (by rw [hsn, hpx, List.append_nil]; rfl)⟩ -- LEAF 2: round of loop 2
    ·
      refine awp_exit ?_
      refine te ?_
      refine te ?_
      refine xbk ?_
      refine bn_ ?_
      refine tn ?_
      refine rg ?_
      refine mv ?_
      refine bo ?_
      refine as_ ?_
      refine rNil ?_
      refine tn ?_
      have hii : i = wd := by simp at h2; omega
      have hgs : gridL t n x1 y1 wd (j + 1) = G := by rw [← hG, hii, gridL, fm_succ]; rfl
      exact ⟨hg - (j + 1), by omega, wy 2 ⟨j + 1, o, rfl, by omega, by rw [hgs]; exact ho, rfl⟩ (by rw [hgs]; rfl)⟩ -- LEAF 3: round of loop 1
  ·
    refine awp_exit ?_
    refine te ?_
    refine te ?_
    refine xbk ?_
    refine tn ?_
    refine sg ?_
    refine mv ?_
    refine as_ ?_
    refine rNil ?_
    refine awp_ret ?_
    have hjj : j = hg := by simp at h1; omega
    subst hjj
    exact ⟨.inr rfl, _, .cons (.v (by ((repeat apply Look.there rfl); exact Look.here)) (.row rfl (by rw [List.length_map]; exact ho))) .nil, rfl⟩ -- LEAF 4: ret

def pixQ (t : Tri) (x0 y0 w h n : Int) (y : Nat) (k : Nat) : List (T3 Int) := (List.range k).flatMap fun (x : Nat) => if (spanF x0 w x && spanF y0 h y) = true then pixl t n x y else []
def pixR (t : Tri) (x0 y0 w h n : Int) (j : Nat) : List (T3 Int) := (List.range j).flatMap fun y => pixQ t x0 y0 w h n y 64
theorem pixQ_len (t : Tri) (x0 y0 w h n : Int) (y k : Nat) : (pixQ t x0 y0 w h n y k).length ≤ k * 1 := fm_len (fun i => by split; exact pixl_len _ _ _ _; simp) k
theorem pixR_len (t : Tri) (x0 y0 w h n : Int) (j : Nat) : (pixR t x0 y0 w h n j).length ≤ j * (64 * 1) := fm_len (fun i => pixQ_len _ _ _ _ _ _ _ _) j
theorem mask_not {t : Tri} (hv : ¬ valid t = true) (x y n : Int) : maskF t x y n = 0 := by
  have h : ∀ k, maskN t x y n k = 0 := by
    intro k
    induction k with
    | zero => rfl
    | succ k ih => rw [maskN, ih, if_neg]; · rfl
                   simp [bitF, covers, hv]
  exact h _
theorem fm_nil {α : Type} {f : Nat → List α} (l : List Nat) (h : ∀ i ∈ l, f i = []) : l.flatMap f = [] := by
  rw [List.flatMap_eq_nil_iff]; exact h
theorem pixR_not {t : Tri} (hv : ¬ valid t = true) (x0 y0 w h n : Int) (j : Nat) : pixR t x0 y0 w h n j = [] :=
  fm_nil _ fun y _ => fm_nil _ fun x _ => by simp [pixl, mask_not hv]
/-- frustum/frustumref35.Pixels -/
theorem c22 (t : Tri) (x0 y0 w h n : Int) (hx : -300 ≤ x0 ∧ x0 ≤ 300) (hy : -300 ≤ y0 ∧ y0 ≤ 300) (hw : w ≤ 300) (hh : h ≤ 300) : Fn Try.prog 22 [A t, I x0, I y0, I w, I h, I n] (.one (L (pixR t x0 y0 w h n 64))) := by
  refine fnI Try.func22 Try.ntmps22 fun hb => ?_
  refine sg ?_
  refine bx _ ?_
  refine as_ ?_
  refine rNil ?_
  refine sg ?_
  refine (bsO _) ?_
  refine as_ ?_
  refine rNil ?_
  refine sq ?_
  refine sg ?_
  first | refine lAf ?_ | refine lAb ?_ | refine lAo ?_
  refine cl (c43 t) ?_
  refine nt ?_
  refine rNil ?_
  refine cn (fun h1 => ?_) (fun h1 => ?_)
  ·
    refine sg ?_
    refine mv ?_
    refine as_ ?_
    refine rNil ?_
    refine awp_ret ?_
    refine tr ?_
    exact ⟨.inr rfl, _, .cons (.v (by ((repeat apply Look.there rfl); exact Look.here)) (.row (xs := []) rfl rfl)) .nil, by rw [pixR_not (by simpa using h1)]; rfl⟩ -- LEAF 1: ret
  ·
    refine awp_skip ?_
    refine tn ?_
    refine sq ?_
    refine sg ?_
    refine as_ ?_
    refine rNil ?_
    refine bk ?_
    refine lp (fun m S => ∃ (j o : Nat), m = 64 - j ∧ j ≤ 64 ∧ o = (pixR t x0 y0 w h n j).length ∧ S = ⟨[(14, .r (I j)), (13, .own 1 o), (1, .r (I x0)), (2, .r (I y0)), (3, .r (I w)), (4, .r (I h)), (5, .r (I n)), (6, .box 0 0)], [.box 27 (triC t), .row 49 3 ((pixR t x0 y0 w h n j).map Enc.c)]⟩) 64 ?_ ?_
    · exact wx 2 ⟨0, 0, by omega, by omega, rfl, rfl⟩
    rintro m S ⟨j, o, hm, hj, ho, rfl⟩
    have hgl := pixR_len t x0 y0 w h n j
    refine sq ?_
    refine sg ?_
    refine mv ?_
    refine bo ?_
    refine rNil ?_
    refine cn (fun h2 => ?_) (fun h2 => ?_)
    ·
      refine awp_skip ?_
      refine tn ?_
      refine sq ?_
      refine bk ?_
      refine sg ?_
      refine as_ ?_
      refine rNil ?_
      refine bk ?_
      have hj1 : j < 64 := by simp at h2; omega
      refine lp (fun m S => ∃ (i o : Nat), m = 64 - i ∧ i ≤ 64 ∧ o = (pixR t x0 y0 w h n j ++ pixQ t x0 y0 w h n j i).length ∧ S = ⟨[(15, .r (I i)), (14, .r (I j)), (13, .own 1 o), (1, .r (I x0)), (2, .r (I y0)), (3, .r (I w)), (4, .r (I h)), (5, .r (I n)), (6, .box 0 0)], [.box 27 (triC t), .row 49 3 ((pixR t x0 y0 w h n j ++ pixQ t x0 y0 w h n j i).map Enc.c)]⟩) 64 ?_ ?_
      · exact wy 2 ⟨0, o, by omega, by omega, by rw [ho]; simp [pixQ], rfl⟩ (by simp [pixQ])
      rintro m S ⟨i, o, hm, hi, ho, rfl⟩
      have hrl := pixQ_len t x0 y0 w h n j i
      have hlen : (pixR t x0 y0 w h n j ++ pixQ t x0 y0 w h n j i).length ≤ 5000 := by rw [List.length_append]; omega
      have hrow : o = ((pixR t x0 y0 w h n j ++ pixQ t x0 y0 w h n j i).map Enc.c).length := by rw [List.length_map]; exact ho
      generalize hG : pixR t x0 y0 w h n j ++ pixQ t x0 y0 w h n j i = G at *
      refine sq ?_
      refine sg ?_
      refine mv ?_
      refine bo ?_
      refine rNil ?_
      refine cn (fun h3 => ?_) (fun h3 => ?_)
      ·
        have hi1 : i < 64 := by simp at h3; omega
        have hsn : pixR t x0 y0 w h n j ++ pixQ t x0 y0 w h n j (i + 1) = G ++ (if (spanF x0 w i && spanF y0 h j) = true then pixl t n i j else []) := by rw [pixQ, fm_succ, ← List.append_assoc, ← hG]; rfl
        refine awp_skip ?_
        refine tn ?_
        refine sq ?_
        refine bk ?_
        refine sg ?_
        refine mv ?_
        refine mv ?_
        refine mv ?_
        refine cl (c44 x0 w i hx hw (by omega)) ?_
        refine mv ?_
        refine gd (fun h4 => ?_) (fun h4 => ?_)
        ·
          refine mv ?_
          refine mv ?_
          refine mv ?_
          refine cl (c44 y0 h j hy hh (by omega)) ?_
          refine pkT ?_
          refine rNil ?_
          refine cn (fun h5 => ?_) (fun h5 => ?_)
          ·
            refine sg ?_
            first | refine lAf ?_ | refine lAb ?_ | refine lAo ?_
            refine mv ?_
            refine mv ?_
            refine mv ?_
            refine cl (c45 t _ _ n) ?_
            refine as_ ?_
            refine rNil ?_
            refine sg ?_
            refine mv ?_
            refine bo ?_
            refine rNil ?_
            refine cn (fun h6 => ?_) (fun h6 => ?_)
            ·
              have hpx : (if (spanF x0 w i && spanF y0 h j) = true then pixl t n i j else []) = [⟨i, j, maskF t i j n⟩] := by
                have h7 : ¬ maskF t i j n = 0 := by simpa using h6
                simp [h4, h5, pixl, h7]
              refine rg ?_
              refine mv ?_
              refine mv ?_
              refine mv ?_
              refine mv ?_
              refine buA ?_
              refine bs ?_
              first | refine ap ?_ | refine (apN _) ?_
              refine as_ ?_
              refine rNil ?_
              refine bn_ ?_
              refine tn ?_
              refine rg ?_
              refine mv ?_
              refine bo ?_
              refine as_ ?_
              refine rNil ?_
              refine tn ?_
              exact ⟨64 - (i + 1), by omega, wy 2 ⟨i + 1, o + 1, rfl, by omega, by rw [hsn, hpx, List.length_append, ← ho]; rfl, rfl⟩ (by rw [hsn, hpx, List.map_append]; rfl)⟩ -- LEAF 2: round of loop 2
            ·
              have hpx : (if (spanF x0 w i && spanF y0 h j) = true then pixl t n i j else []) = [] := by
                have h7 : maskF t i j n = 0 := by simpa using h6
                simp [h4, h5, pixl, h7]
              refine awp_skip ?_
              refine bn_ ?_
              refine tn ?_
              refine rg ?_
              refine mv ?_
              refine bo ?_
              refine as_ ?_
              refine rNil ?_
              refine tn ?_
              exact ⟨64 - (i + 1), by omega, wy 2 ⟨i + 1, o, rfl, by omega, by rw [hsn, hpx, List.append_nil, ← ho], rfl⟩ (by rw [hsn, hpx, List.append_nil]; rfl)⟩ -- LEAF 3: round of loop 2
          ·
            refine awp_skip ?_
            refine bn_ ?_
            refine tn ?_
            refine rg ?_
            refine mv ?_
            refine bo ?_
            refine as_ ?_
            refine rNil ?_
            refine tn ?_
            have hpx : (if (spanF x0 w i && spanF y0 h j) = true then pixl t n i j else []) = [] := by rw [h5, Bool.and_false]; rfl
            exact ⟨64 - (i + 1), by omega, wy 2 ⟨i + 1, o, rfl, by omega, by rw [hsn, hpx, List.append_nil, ← ho], rfl⟩ (by rw [hsn, hpx, List.append_nil]; rfl)⟩ -- LEAF 4: round of loop 2
        ·
          refine no ?_
          refine no ?_
          refine no ?_
          refine no ?_
          refine pkF ?_
          refine rNil ?_
          refine cn (fun h7 => ?_) (fun h7 => ?_)
          ·
            exact absurd h7 (by decide)
          ·
            refine awp_skip ?_
            refine bn_ ?_
            refine tn ?_
            refine rg ?_
            refine mv ?_
            refine bo ?_
            refine as_ ?_
            refine rNil ?_
            refine tn ?_
            have hpx : (if (spanF x0 w i && spanF y0 h j) = true then pixl t n i j else []) = [] := by rw [h4, Bool.false_and]; rfl
            exact ⟨64 - (i + 1), by omega, wy 2 ⟨i + 1, o, rfl, by omega, by rw [hsn, hpx, List.append_nil, ← ho], rfl⟩ (by rw [hsn, hpx, List.append_nil]; rfl)⟩ -- LEAF 5: round of loop 2
      ·
        refine awp_exit ?_
        refine te ?_
        refine te ?_
        refine xbk ?_
        refine bn_ ?_
        refine tn ?_
        refine rg ?_
        refine mv ?_
        refine bo ?_
        refine as_ ?_
        refine rNil ?_
        refine tn ?_
        have hii : i = 64 := by simp at h3; omega
        have hgs : pixR t x0 y0 w h n (j + 1) = G := by rw [← hG, hii, pixR, fm_succ]; rfl
        exact ⟨64 - (j + 1), by omega, wy 2 ⟨j + 1, o, rfl, by omega, by rw [hgs]; exact ho, rfl⟩ (by rw [hgs]; rfl)⟩ -- LEAF 6: round of loop 1
    ·
      refine awp_exit ?_
      refine te ?_
      refine te ?_
      refine xbk ?_
      refine tn ?_
      refine sg ?_
      refine mv ?_
      refine as_ ?_
      refine rNil ?_
      refine awp_ret ?_
      have hjj : j = 64 := by simp at h2; omega
      subst hjj
      exact ⟨.inr rfl, _, .cons (.v (by ((repeat apply Look.there rfl); exact Look.here)) (.row rfl (by rw [List.length_map]; exact ho))) .nil, rfl⟩ -- LEAF 7: ret

end Go.Proofs.Ytlaaigljlhkdpaa.VS
