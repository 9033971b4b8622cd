/- The walks of functions: what each computes, by itself. Conditions: none. -/
import Derived.Test.YtlaaigljlhkdpaaF6
set_option linter.unusedVariables false
set_option linter.unusedSimpArgs false
namespace Go.Proofs.Ytlaaigljlhkdpaa.VS
open Go
def atF (t : Tri) (x y : Int) : List Int := valF t (x * 256 + 128) (y * 256 + 128)
theorem valF_len (t : Tri) (px py : Int) : (valF t px py).length = if valid t = true then t.v.a.vs.length else 0 := by
  unfold valF; split <;> simp
theorem atF_len (t : Tri) (x y : Int) : (atF t x y).length = if valid t = true then t.v.a.vs.length else 0 := valF_len t _ _
/-- frustum/varying.at -/
theorem c41 (t : Tri) (x y : Int) (hl : t.v.a.vs.length ≤ 100) (hx : 0 ≤ x ∧ x ≤ 63) (hy : 0 ≤ y ∧ y ≤ 63) : FnO Try.prog 41 [A t, I x, I y] 3 ((atF t x y).map Enc.c) := by
  refine fnO_of (t := 6) Try.func41 Try.ntmps41 (Sc.ints _) fun hb => ?_
  refine sg ?_
  refine bx _ ?_
  refine as_ ?_
  refine rNil ?_
  refine sg ?_
  first | refine lAf ?_ | refine lAb ?_ | refine lAo ?_
  refine mv ?_
  refine bo ?_
  refine bo ?_
  refine mv ?_
  refine bo ?_
  refine bo ?_
  refine clO 1 (c64 t _ _ hl) (Sc.ints _) ?_
  refine as_ ?_
  refine rNil ?_
  refine awp_ret ?_
  exact ⟨.inr rfl, .own (by ((repeat apply Look.there rfl); exact Look.here)) rfl rfl⟩ -- LEAF 1: ret

/-- frustum/frustumref37.center -/
theorem c47 (t : Tri) (x y : Int) (hl : t.v.a.vs.length ≤ 100) (hx : 0 ≤ x ∧ x ≤ 63) (hy : 0 ≤ y ∧ y ≤ 63) : Fn Try.prog 47 [A t, I x, I y] (.one (L (atF t x y))) := by
  refine fnI Try.func47 Try.ntmps47 fun hb => ?_
  have hc : Fn Try.prog 70 [A t, I (256 * x + 128), I (256 * y + 128)] (.one (L (atF t x y))) := by
    have h := c70 t (x * 256 + 128) (y * 256 + 128) hl
    rw [Int.mul_comm x, Int.mul_comm y] at h
    unfold atF; rw [Int.mul_comm x, Int.mul_comm y]; exact h
  refine sg ?_
  refine bx _ ?_
  refine as_ ?_
  refine rNil ?_
  refine sg ?_
  first | refine lAf ?_ | refine lAb ?_ | refine lAo ?_
  refine mv ?_
  refine bo ?_
  refine bo ?_
  refine mv ?_
  refine bo ?_
  refine bo ?_
  refine cl (hc) ?_
  refine as_ ?_
  refine rNil ?_
  refine awp_ret ?_
  exact ⟨.inr rfl, _, (.cons (by first | exact .v (by ((repeat apply Look.there rfl); exact Look.here)) (.f (.v _)) | exact .v (by ((repeat apply Look.there rfl); exact Look.here)) (.row rfl rfl) | exact .v (by ((repeat apply Look.there rfl); exact Look.here)) (.f .nil) | exact .a (by ((repeat apply Look.there rfl); exact Look.here)) | skip) .nil), rfl⟩ -- LEAF 1: ret

def subL (a b : List Int) : List Int := List.zipWith fsub a b
theorem subL_get {a b : List Int} {k : Nat} {x y : Int} (ha : a[k]? = some x) (hb : b[k]? = some y) : (subL a b)[k]? = some (fsub x y) := by rw [subL, List.getElem?_zipWith, ha, hb]
/-- frustum/varying.minus -/
theorem c65 (a b : List Int) (hab : a.length = b.length) (hl : a.length ≤ 100) : Fn Try.prog 65 [L a, L b] (.one (L (subL a b))) := by
  refine fnI Try.func65 Try.ntmps65 fun hb => ?_
  have hsl : (subL a b).length = a.length := by simp [subL, hab]
  refine sg ?_
  refine as_ ?_
  refine rNil ?_
  refine sg ?_
  refine mv ?_
  first | refine lnM ?_ | refine ln ?_ | refine lnO ?_ | refine lnN ?_ | refine lnW ?_
  refine (mk _) ?_
  refine as_ ?_
  refine rNil ?_
  refine sq ?_
  refine sg ?_
  refine mv ?_
  first | refine lnM ?_ | refine ln ?_ | refine lnO ?_ | refine lnN ?_ | refine lnW ?_
  refine mv ?_
  refine rNil ?_
  refine bk ?_
  refine lp (fun n S => ∃ k : Nat, n = a.length - k ∧ k ≤ a.length ∧ S = ⟨[(12, .r (I k)), (11, .r (I a.length)), (5, .own 0 a.length), (0, .r (L a)), (1, .r (L b))], [.row 3 1 ((fillv (subL a b) k).map Enc.c)]⟩) a.length ?_ ?_
  · exact wy 1 ⟨0, rfl, by omega, rfl⟩ (by rw [← fillv_mk, hsl]; rfl)
  rintro n S ⟨k, hn, hk, rfl⟩
  have hrow : a.length = ((fillv (subL a b) k).map Enc.c).length := by simp [hsl]
  refine sg ?_
  refine bo ?_
  refine rNil ?_
  refine sq ?_
  refine cn (fun h1 => ?_) (fun h1 => ?_)
  ·
    have hk1 : k < a.length := by simpa using h1
    obtain ⟨x, hx⟩ := ex_get hk1
    obtain ⟨y, hy⟩ := ex_get (show k < b.length by omega)
    have hz := fillv_get' (l := subL a b) (k := k) (by omega)
    have hp := fillv_put (subL_get hx hy)
    refine awp_skip ?_
    refine tn ?_
    refine sq ?_
    refine bk ?_
    refine sg ?_
    refine mv ?_
    refine as_ ?_
    refine rNil ?_
    refine rd mixO ?_
    refine mv ?_
    refine mv ?_
    refine mv ?_
    refine mv ?_
    first | refine xs_ ?_ | refine xo ?_ | refine xw ?_
    first | refine l1f ?_ | refine l1b ?_ | refine l1o ?_
    refine mv ?_
    refine mv ?_
    first | refine xs_ ?_ | refine xo ?_ | refine xw ?_
    first | refine l1f ?_ | refine l1b ?_ | refine l1o ?_
    refine cl (c61 _ _) ?_
    first | refine xs_ ?_ | refine xo ?_ | refine xw ?_
    refine so k 0 ?_
    refine rNil ⟨rfl, ?_⟩
    refine bn_ ?_
    refine tn ?_
    refine rg ?_
    refine bo ?_
    refine mv ?_
    refine rNil ?_
    refine tn ?_
    exact ⟨a.length - (k + 1), by omega, wy 1 ⟨k + 1, rfl, by omega, rfl⟩ (by rw [← hp]; rfl)⟩ -- LEAF 1: round of loop 1
  ·
    refine awp_exit ?_
    refine te ?_
    refine te ?_
    refine xbk ?_
    refine tn ?_
    refine sg ?_
    refine mv ?_
    refine as_ ?_
    refine rNil ?_
    refine awp_ret ?_
    have hkk : k = a.length := by simp at h1; omega
    subst hkk
    have hf : fillv (subL a b) a.length = subL a b := by rw [← hsl, fillv_all]
    rw [hf] at hrow ⊢
    exact ⟨.inr rfl, _, .cons (.v (by ((repeat apply Look.there rfl); exact Look.here)) (.row rfl hrow)) .nil, rfl⟩ -- LEAF 2: ret

/-- frustum/frustumref37.differences -/
theorem c69 (a b : List Int) (hab : a.length = b.length) (hl : a.length ≤ 100) : Fn Try.prog 69 [L a, L b] (.one (L (subL a b))) := by
  refine fnI Try.func69 Try.ntmps69 fun hb => ?_
  have hsl : (subL a b).length = a.length := by simp [subL, hab]
  refine sg ?_
  refine as_ ?_
  refine rNil ?_
  refine sg ?_
  refine as_ ?_
  refine rNil ?_
  refine sq ?_
  refine sg ?_
  refine as_ ?_
  refine rNil ?_
  refine bk ?_
  refine adN 0 5 3 1 ?_
  refine lp (fun n S => ∃ (k m : Nat), n = a.length - k ∧ k ≤ a.length ∧ m = k ∧ S = ⟨[(6, .r (I k)), (5, .own 0 m), (0, .r (L a)), (1, .r (L b))], [.row 3 1 (((subL a b).take k).map Enc.c)]⟩) a.length ?_ ?_
  · exact wx 1 ⟨0, 0, rfl, by omega, rfl, rfl⟩
  rintro n S ⟨k, m, hn, hk, hm, rfl⟩
  have hkl : ((subL a b).take k).length = k := by simp [hsl]; omega
  have hrow : m = (((subL a b).take k).map Enc.c).length := by rw [List.length_map, hkl, hm]
  refine sq ?_
  refine sg ?_
  refine mv ?_
  refine mv ?_
  first | refine lnM ?_ | refine ln ?_ | refine lnO ?_ | refine lnN ?_ | refine lnW ?_
  refine bo ?_
  refine rNil ?_
  refine cn (fun h1 => ?_) (fun h1 => ?_)
  ·
    have hk1 : k < a.length := by simpa using h1
    obtain ⟨x, hx⟩ := ex_get hk1
    obtain ⟨y, hy⟩ := ex_get (show k < b.length by omega)
    have hg := take_snoc (subL_get hx hy)
    refine awp_skip ?_
    refine tn ?_
    refine sq ?_
    refine bk ?_
    refine rd mixO ?_
    refine mv ?_
    refine mv ?_
    refine mv ?_
    first | refine xs_ ?_ | refine xo ?_ | refine xw ?_
    first | refine l1f ?_ | refine l1b ?_ | refine l1o ?_
    refine mv ?_
    refine mv ?_
    first | refine xs_ ?_ | refine xo ?_ | refine xw ?_
    first | refine l1f ?_ | refine l1b ?_ | refine l1o ?_
    refine cl (c75 _ _) ?_
    refine bs ?_
    first | refine ap ?_ | refine (apN _) ?_
    refine as_ ?_
    refine rNil ⟨rfl, ?_⟩
    refine bn_ ?_
    refine tn ?_
    refine rg ?_
    refine mv ?_
    refine bo ?_
    refine as_ ?_
    refine rNil ?_
    refine tn ?_
    exact ⟨a.length - (k + 1), by omega, wy 1 ⟨k + 1, m + 1, rfl, by omega, by omega, rfl⟩ (by rw [hg, List.map_append]; rfl)⟩ -- LEAF 1: round of loop 1
  ·
    refine awp_exit ?_
    refine te ?_
    refine te ?_
    refine xbk ?_
    refine tn ?_
    refine sg ?_
    refine mv ?_
    refine as_ ?_
    refine rNil ?_
    refine awp_ret ?_
    have hkk : k = a.length := by simp at h1; omega
    subst hkk
    have hf : (subL a b).take a.length = subL a b := by rw [← hsl, List.take_length]
    rw [hf] at hrow ⊢
    exact ⟨.inr rfl, _, .cons (.v (by ((repeat apply Look.there rfl); exact Look.here)) (.row rfl hrow)) .nil, rfl⟩ -- LEAF 2: ret

def dxF (t : Tri) (x y : Int) : List Int := subL (atF t (clamp x 0 62 + 1) (clamp y 0 62)) (atF t (clamp x 0 62) (clamp y 0 62))
def dyF (t : Tri) (x y : Int) : List Int := subL (atF t (clamp x 0 62) (clamp y 0 62 + 1)) (atF t (clamp x 0 62) (clamp y 0 62))
/-- frustum/varying.Derivatives -/
theorem c42 (t : Tri) (x y : Int) (hl : t.v.a.vs.length ≤ 100) : Fn Try.prog 42 [A t, I x, I y] (.many [L (dxF t x y), L (dyF t x y)]) := by
  refine fnI Try.func42 Try.ntmps42 fun hb => ?_
  have hx := clamp_bd x (show (0:Int) ≤ 62 by decide)
  have hy := clamp_bd y (show (0:Int) ≤ 62 by decide)
  have hle : ∀ a b : Int, (atF t a b).length ≤ 100 := fun a b => by rw [atF_len]; split <;> omega
  refine sg ?_
  refine bx _ ?_
  refine as_ ?_
  refine as_ ?_
  refine rNil ?_
  refine sg ?_
  refine mv ?_
  refine cl (c38 _ _ _) ?_
  refine mv ?_
  refine cl (c38 _ _ _) ?_
  refine as_ ?_
  refine as_ ?_
  refine rNil ?_
  refine sg ?_
  first | refine lAf ?_ | refine lAb ?_ | refine lAo ?_
  refine mv ?_
  refine mv ?_
  refine cl ((c41 t (clamp x 0 62) (clamp y 0 62) hl (by omega) (by omega)).fn (Sc.ints _)) ?_
  refine as_ ?_
  refine rNil ?_
  refine sd mixO ?_
  first | refine lAf ?_ | refine lAb ?_ | refine lAo ?_
  refine mv ?_
  refine bo ?_
  refine mv ?_
  refine cl ((c41 t (clamp x 0 62 + 1) (clamp y 0 62) hl (by omega) (by omega)).fn (Sc.ints _)) ?_
  refine mv ?_
  refine cl (c65 (atF t (clamp x 0 62 + 1) (clamp y 0 62)) (atF t (clamp x 0 62) (clamp y 0 62)) (by rw [atF_len, atF_len]) (hle _ _)) ?_
  first | refine lAf ?_ | refine lAb ?_ | refine lAo ?_
  refine mv ?_
  refine mv ?_
  refine bo ?_
  refine cl ((c41 t (clamp x 0 62) (clamp y 0 62 + 1) hl (by omega) (by omega)).fn (Sc.ints _)) ?_
  refine mv ?_
  refine cl (c65 (atF t (clamp x 0 62) (clamp y 0 62 + 1)) (atF t (clamp x 0 62) (clamp y 0 62)) (by rw [atF_len, atF_len]) (hle _ _)) ?_
  refine as_ ?_
  refine as_ ?_
  refine rNil ⟨rfl, ?_⟩
  refine awp_ret ?_
  exact ⟨.inr rfl, _, (.cons (by first | exact .v (by ((repeat apply Look.there rfl); exact Look.here)) (.f (.v _)) | exact .v (by ((repeat apply Look.there rfl); exact Look.here)) (.row rfl rfl) | exact .v (by ((repeat apply Look.there rfl); exact Look.here)) (.f .nil) | exact .a (by ((repeat apply Look.there rfl); exact Look.here)) | skip) (.cons (by first | exact .v (by ((repeat apply Look.there rfl); exact Look.here)) (.f (.v _)) | exact .v (by ((repeat apply Look.there rfl); exact Look.here)) (.row rfl rfl) | exact .v (by ((repeat apply Look.there rfl); exact Look.here)) (.f .nil) | exact .a (by ((repeat apply Look.there rfl); exact Look.here)) | skip) .nil)), rfl⟩ -- LEAF 1: ret

/-- frustum/frustumref37.Derivatives -/
theorem c46 (t : Tri) (x y : Int) (hl : t.v.a.vs.length ≤ 100) : Fn Try.prog 46 [A t, I x, I y] (.many [L (dxF t x y), L (dyF t x y)]) := by
  refine fnI Try.func46 Try.ntmps46 fun hb => ?_
  have hx := clamp_bd x (show (0:Int) ≤ 62 by decide)
  have hy := clamp_bd y (show (0:Int) ≤ 62 by decide)
  have hle : ∀ a b : Int, (atF t a b).length ≤ 100 := fun a b => by rw [atF_len]; split <;> omega
  refine sg ?_
  refine bx _ ?_
  refine as_ ?_
  refine as_ ?_
  refine rNil ?_
  refine sg ?_
  refine mv ?_
  refine cl (c48 _ _ _) ?_
  refine mv ?_
  refine cl (c48 _ _ _) ?_
  refine as_ ?_
  refine as_ ?_
  refine rNil ?_
  refine sg ?_
  first | refine lAf ?_ | refine lAb ?_ | refine lAo ?_
  refine mv ?_
  refine mv ?_
  refine cl (c47 t (clamp x 0 62) (clamp y 0 62) hl (by omega) (by omega)) ?_
  refine as_ ?_
  refine rNil ?_
  refine sd mixO ?_
  first | refine lAf ?_ | refine lAb ?_ | refine lAo ?_
  refine mv ?_
  refine bo ?_
  refine mv ?_
  refine cl (c47 t (clamp x 0 62 + 1) (clamp y 0 62) hl (by omega) (by omega)) ?_
  refine mv ?_
  refine cl (c69 (atF t (clamp x 0 62 + 1) (clamp y 0 62)) (atF t (clamp x 0 62) (clamp y 0 62)) (by rw [atF_len, atF_len]) (hle _ _)) ?_
  first | refine lAf ?_ | refine lAb ?_ | refine lAo ?_
  refine mv ?_
  refine mv ?_
  refine bo ?_
  refine cl (c47 t (clamp x 0 62) (clamp y 0 62 + 1) hl (by omega) (by omega)) ?_
  refine mv ?_
  refine cl (c69 (atF t (clamp x 0 62) (clamp y 0 62 + 1)) (atF t (clamp x 0 62) (clamp y 0 62)) (by rw [atF_len, atF_len]) (hle _ _)) ?_
  refine as_ ?_
  refine as_ ?_
  refine rNil ⟨rfl, ?_⟩
  refine awp_ret ?_
  exact ⟨.inr rfl, _, (.cons (by first | exact .v (by ((repeat apply Look.there rfl); exact Look.here)) (.f (.v _)) | exact .v (by ((repeat apply Look.there rfl); exact Look.here)) (.row rfl rfl) | exact .v (by ((repeat apply Look.there rfl); exact Look.here)) (.f .nil) | exact .a (by ((repeat apply Look.there rfl); exact Look.here)) | skip) (.cons (by first | exact .v (by ((repeat apply Look.there rfl); exact Look.here)) (.f (.v _)) | exact .v (by ((repeat apply Look.there rfl); exact Look.here)) (.row rfl rfl) | exact .v (by ((repeat apply Look.there rfl); exact Look.here)) (.f .nil) | exact .a (by ((repeat apply Look.there rfl); exact Look.here)) | skip) .nil)), rfl⟩ -- LEAF 1: ret

def inpF (t : Tri) (x y : Int) : List Int := atF t (clamp x 0 63) (clamp y 0 63) ++ dxF t x y ++ dyF t x y
theorem inpF_len (t : Tri) (x y : Int) : (inpF t x y).length = if valid t = true then t.v.a.vs.length + t.v.a.vs.length + t.v.a.vs.length else 0 := by
  unfold inpF dxF dyF subL
  simp only [List.length_append, List.length_zipWith, atF_len]
  split <;> simp
theorem dx_len (t : Tri) (x y : Int) : (dxF t x y).length ≤ t.v.a.vs.length := by
  unfold dxF subL; simp only [List.length_zipWith, atF_len]; split <;> simp
theorem dy_len (t : Tri) (x y : Int) : (dyF t x y).length ≤ t.v.a.vs.length := by
  unfold dyF subL; simp only [List.length_zipWith, atF_len]; split <;> simp
/-- frustum/varying.Inputs -/
theorem c21 (t : Tri) (x y : Int) (hl : t.v.a.vs.length ≤ 100) : Fn Try.prog 21 [A t, I x, I y] (.one (L (inpF t x y))) := by
  refine fnI Try.func21 Try.ntmps21 fun hb => ?_
  have hx := clamp_bd x (show (0:Int) ≤ 63 by decide)
  have hy := clamp_bd y (show (0:Int) ≤ 63 by decide)
  have hle : (atF t (clamp x 0 63) (clamp y 0 63)).length ≤ 100 := by rw [atF_len]; split <;> omega
  have hdx := dx_len t x y
  have hdy := dy_len t x y
  refine sg ?_
  refine bx _ ?_
  refine as_ ?_
  refine rNil ?_
  refine sd mixO ?_
  first | refine lAf ?_ | refine lAb ?_ | refine lAo ?_
  refine mv ?_
  refine cl (c38 _ _ _) ?_
  refine mv ?_
  refine cl (c38 _ _ _) ?_
  refine clO 1 (c41 t _ _ hl hx hy) (Sc.ints _) ?_
  refine as_ ?_
  refine rNil ⟨rfl, ?_⟩
  refine sg ?_
  first | refine lAf ?_ | refine lAb ?_ | refine lAo ?_
  refine mv ?_
  refine mv ?_
  refine cl (c42 t x y hl) ?_
  refine mv ?_
  refine ex ?_
  refine ex ?_
  refine as_ ?_
  refine as_ ?_
  refine rNil ?_
  refine sg ?_
  refine mv ?_
  refine mv ?_
  first | refine ap ?_ | refine (apN _) ?_
  refine as_ ?_
  refine rNil ?_
  refine sg ?_
  refine mv ?_
  refine mv ?_
  first | refine ap ?_ | refine (apN _) ?_
  refine as_ ?_
  refine rNil ?_
  refine awp_ret ?_
  exact ⟨.inr rfl, _, .cons (.v (by ((repeat apply Look.there rfl); exact Look.here)) (.row rfl rfl)) .nil, by unfold inpF L; rw [List.map_append, List.map_append]; rfl⟩ -- LEAF 1: ret

/-- frustum/frustumref37.Inputs -/
theorem c23 (t : Tri) (x y : Int) (hl : t.v.a.vs.length ≤ 100) : Fn Try.prog 23 [A t, I x, I y] (.one (L (inpF t x y))) := by
  refine fnI Try.func23 Try.ntmps23 fun hb => ?_
  have hx := clamp_bd x (show (0:Int) ≤ 63 by decide)
  have hy := clamp_bd y (show (0:Int) ≤ 63 by decide)
  have hle : (atF t (clamp x 0 63) (clamp y 0 63)).length ≤ 100 := by rw [atF_len]; split <;> omega
  have hdx := dx_len t x y
  have hdy := dy_len t x y
  refine sg ?_
  refine bx _ ?_
  refine as_ ?_
  refine rNil ?_
  refine sg ?_
  first | refine lAf ?_ | refine lAb ?_ | refine lAo ?_
  refine mv ?_
  refine mv ?_
  refine cl (c46 t x y hl) ?_
  refine mv ?_
  refine ex ?_
  refine ex ?_
  refine as_ ?_
  refine as_ ?_
  refine rNil ?_
  refine sd mixO ?_
  first | refine lAf ?_ | refine lAb ?_ | refine lAo ?_
  refine mv ?_
  refine cl (c48 _ _ _) ?_
  refine mv ?_
  refine cl (c48 _ _ _) ?_
  refine cl (c47 t _ _ hl hx hy) ?_
  first | refine ap ?_ | refine (apN _) ?_
  refine as_ ?_
  refine rNil ⟨rfl, ?_⟩
  refine sg ?_
  refine mv ?_
  refine mv ?_
  first | refine ap ?_ | refine (apN _) ?_
  refine mv ?_
  first | refine ap ?_ | refine (apN _) ?_
  refine as_ ?_
  refine rNil ?_
  refine awp_ret ?_
  exact ⟨.inr rfl, _, .cons (.v (by ((repeat apply Look.there rfl); exact Look.here)) (.row rfl rfl)) .nil, by unfold inpF L; rw [List.map_append, List.map_append]; rfl⟩ -- LEAF 1: ret

end Go.Proofs.Ytlaaigljlhkdpaa.VS
