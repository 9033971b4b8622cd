/- The walks of functions: what each computes, by itself. Conditions: none. -/
import Derived.Test.YtlaaigljlhkdpaaF5
set_option linter.unusedVariables false
set_option linter.unusedSimpArgs false
namespace Go.Proofs.Ytlaaigljlhkdpaa.VS
open Go
def mixF (w : T2 Int) (a b c : Int) : Int := fadd c (fadd (fmul w.a (fsub a c)) (fmul w.b (fsub b c)))
/-- frustum/varying.Mix -/
theorem c39 (w : T2 Int) (a b c : Int) : Fn Try.prog 39 [A w, I a, I b, I c] (.one (I (mixF w a b c))) := by
  refine fnI Try.func39 Try.ntmps39 fun hb => ?_
  refine sg ?_
  refine bx _ ?_
  refine as_ ?_
  refine rNil ?_
  refine sd mixO ?_
  refine mv ?_
  first | refine xf ?_ | refine xb ?_ | refine xoa ?_
  first | refine l1f ?_ | refine l1b ?_ | refine l1o ?_
  refine mv ?_
  refine mv ?_
  refine cl (c61 _ _) ?_
  refine cl (c60 _ _) ?_
  first | refine xf ?_ | refine xb ?_ | refine xoa ?_
  first | refine l1f ?_ | refine l1b ?_ | refine l1o ?_
  refine mv ?_
  refine mv ?_
  refine cl (c61 _ _) ?_
  refine cl (c60 _ _) ?_
  refine cl (c54 _ _) ?_
  refine cl (c54 _ _) ?_
  refine as_ ?_
  refine rNil ⟨rfl, ?_⟩
  refine awp_ret ?_
  exact ⟨.inr rfl, _, (.cons (by first | exact .v (by ((repeat apply Look.there rfl); exact Look.here)) (.f (.v _)) | exact .v (by ((repeat apply Look.there rfl); exact Look.here)) (.row rfl rfl) | exact .v (by ((repeat apply Look.there rfl); exact Look.here)) (.f .nil) | exact .a (by ((repeat apply Look.there rfl); exact Look.here)) | skip) .nil), rfl⟩ -- LEAF 1: ret

/-- frustum/frustumref37.Mix -/
theorem c51 (w : T2 Int) (a b c : Int) : Fn Try.prog 51 [A w, I a, I b, I c] (.one (I (mixF w a b c))) := by
  refine fnI Try.func51 Try.ntmps51 fun hb => ?_
  refine sg ?_
  refine bx _ ?_
  refine as_ ?_
  refine rNil ?_
  refine sd mixO ?_
  refine mv ?_
  first | refine xf ?_ | refine xb ?_ | refine xoa ?_
  first | refine l1f ?_ | refine l1b ?_ | refine l1o ?_
  refine mv ?_
  refine mv ?_
  refine cl (c75 _ _) ?_
  refine cl (c74 _ _) ?_
  first | refine xf ?_ | refine xb ?_ | refine xoa ?_
  first | refine l1f ?_ | refine l1b ?_ | refine l1o ?_
  refine mv ?_
  refine mv ?_
  refine cl (c75 _ _) ?_
  refine cl (c74 _ _) ?_
  refine cl (c73 _ _) ?_
  refine cl (c73 _ _) ?_
  refine as_ ?_
  refine rNil ⟨rfl, ?_⟩
  refine awp_ret ?_
  exact ⟨.inr rfl, _, (.cons (by first | exact .v (by ((repeat apply Look.there rfl); exact Look.here)) (.f (.v _)) | exact .v (by ((repeat apply Look.there rfl); exact Look.here)) (.row rfl rfl) | exact .v (by ((repeat apply Look.there rfl); exact Look.here)) (.f .nil) | exact .a (by ((repeat apply Look.there rfl); exact Look.here)) | skip) .nil), rfl⟩ -- LEAF 1: ret

def depF (t : Tri) (px py : Int) : Int := if valid t = true then clamp (mixF (linF t px py) t.v.a.z t.v.b.z t.v.c.z) 0 65536 else 0
theorem depF_bd (t : Tri) (px py : Int) : 0 ≤ depF t px py ∧ depF t px py ≤ 65536 := by
  unfold depF
  split
  · exact clamp_bd _ (by decide)
  · decide
/-- frustum/varying.Depth -/
theorem c20 (t : Tri) (px py : Int) : Fn Try.prog 20 [A t, I px, I py] (.one (I (depF t px py))) := by
  refine fnI Try.func20 Try.ntmps20 fun hb => ?_
  refine sg ?_
  refine bx _ ?_
  refine as_ ?_
  refine rNil ?_
  refine sq ?_
  refine sg ?_
  first | refine lAf ?_ | refine lAb ?_ | refine lAo ?_
  refine cl (c37 t) ?_
  refine nt ?_
  refine rNil ?_
  refine cn (fun h1 => ?_) (fun h1 => ?_)
  ·
    refine sg ?_
    refine as_ ?_
    refine rNil ?_
    refine awp_ret ?_
    refine tr ?_
    exact ⟨.inr rfl, _, (.cons (by first | exact .v (by ((repeat apply Look.there rfl); exact Look.here)) (.f (.v _)) | exact .v (by ((repeat apply Look.there rfl); exact Look.here)) (.row rfl rfl) | exact .v (by ((repeat apply Look.there rfl); exact Look.here)) (.f .nil) | exact .a (by ((repeat apply Look.there rfl); exact Look.here)) | skip) .nil), by rw [depF, if_neg (by simpa using h1)]; rfl⟩ -- LEAF 1: ret
  ·
    refine awp_skip ?_
    refine tn ?_
    refine sd mixO ?_
    first | refine lAf ?_ | refine lAb ?_ | refine lAo ?_
    refine mv ?_
    refine mv ?_
    refine cl (c40 t px py) ?_
    first | refine ff ?_ | refine fb ?_ | refine fo ?_
    first | refine xf ?_ | refine xb ?_ | refine xoa ?_
    first | refine ff ?_ | refine fb ?_ | refine fo ?_
    first | refine l1f ?_ | refine l1b ?_ | refine l1o ?_
    first | refine ff ?_ | refine fb ?_ | refine fo ?_
    first | refine xf ?_ | refine xb ?_ | refine xoa ?_
    first | refine ff ?_ | refine fb ?_ | refine fo ?_
    first | refine l1f ?_ | refine l1b ?_ | refine l1o ?_
    first | refine ff ?_ | refine fb ?_ | refine fo ?_
    first | refine xf ?_ | refine xb ?_ | refine xoa ?_
    first | refine ff ?_ | refine fb ?_ | refine fo ?_
    first | refine l1f ?_ | refine l1b ?_ | refine l1o ?_
    refine cl (c39 (linF t px py) _ _ _) ?_
    refine cl (c38 _ _ _) ?_
    refine as_ ?_
    refine rNil ⟨rfl, ?_⟩
    refine awp_ret ?_
    exact ⟨.inr rfl, _, (.cons (by first | exact .v (by ((repeat apply Look.there rfl); exact Look.here)) (.f (.v _)) | exact .v (by ((repeat apply Look.there rfl); exact Look.here)) (.row rfl rfl) | exact .v (by ((repeat apply Look.there rfl); exact Look.here)) (.f .nil) | exact .a (by ((repeat apply Look.there rfl); exact Look.here)) | skip) .nil), by rw [depF, if_pos (by simpa using h1)]; rfl⟩ -- LEAF 2: ret

/-- frustum/frustumref37.Depth -/
theorem c25 (t : Tri) (px py : Int) : Fn Try.prog 25 [A t, I px, I py] (.one (I (depF t px py))) := by
  refine fnI Try.func25 Try.ntmps25 fun hb => ?_
  refine sg ?_
  refine bx _ ?_
  refine as_ ?_
  refine rNil ?_
  refine sq ?_
  refine sg ?_
  first | refine lAf ?_ | refine lAb ?_ | refine lAo ?_
  refine cl (c50 t) ?_
  refine nt ?_
  refine rNil ?_
  refine cn (fun h1 => ?_) (fun h1 => ?_)
  ·
    refine sg ?_
    refine as_ ?_
    refine rNil ?_
    refine awp_ret ?_
    refine tr ?_
    exact ⟨.inr rfl, _, (.cons (by first | exact .v (by ((repeat apply Look.there rfl); exact Look.here)) (.f (.v _)) | exact .v (by ((repeat apply Look.there rfl); exact Look.here)) (.row rfl rfl) | exact .v (by ((repeat apply Look.there rfl); exact Look.here)) (.f .nil) | exact .a (by ((repeat apply Look.there rfl); exact Look.here)) | skip) .nil), by rw [depF, if_neg (by simpa using h1)]; rfl⟩ -- LEAF 1: ret
  ·
    refine awp_skip ?_
    refine tn ?_
    refine sd mixO ?_
    first | refine lAf ?_ | refine lAb ?_ | refine lAo ?_
    refine mv ?_
    refine mv ?_
    refine cl (c52 t px py) ?_
    first | refine ff ?_ | refine fb ?_ | refine fo ?_
    first | refine xf ?_ | refine xb ?_ | refine xoa ?_
    first | refine ff ?_ | refine fb ?_ | refine fo ?_
    first | refine l1f ?_ | refine l1b ?_ | refine l1o ?_
    first | refine ff ?_ | refine fb ?_ | refine fo ?_
    first | refine xf ?_ | refine xb ?_ | refine xoa ?_
    first | refine ff ?_ | refine fb ?_ | refine fo ?_
    first | refine l1f ?_ | refine l1b ?_ | refine l1o ?_
    first | refine ff ?_ | refine fb ?_ | refine fo ?_
    first | refine xf ?_ | refine xb ?_ | refine xoa ?_
    first | refine ff ?_ | refine fb ?_ | refine fo ?_
    first | refine l1f ?_ | refine l1b ?_ | refine l1o ?_
    refine cl (c51 (linF t px py) _ _ _) ?_
    refine cl (c48 _ _ _) ?_
    refine as_ ?_
    refine rNil ⟨rfl, ?_⟩
    refine awp_ret ?_
    exact ⟨.inr rfl, _, (.cons (by first | exact .v (by ((repeat apply Look.there rfl); exact Look.here)) (.f (.v _)) | exact .v (by ((repeat apply Look.there rfl); exact Look.here)) (.row rfl rfl) | exact .v (by ((repeat apply Look.there rfl); exact Look.here)) (.f .nil) | exact .a (by ((repeat apply Look.there rfl); exact Look.here)) | skip) .nil), by rw [depF, if_pos (by simpa using h1)]; rfl⟩ -- LEAF 2: ret

/-- frustum/varying.component -/
theorem c84 (l : List Int) (k : Nat) : Fn Try.prog 84 [L l, I k] (.one (I (l.getD k 0))) := by
  refine fnI Try.func84 Try.ntmps84 fun hb => ?_
  refine sg ?_
  refine as_ ?_
  refine rNil ?_
  refine sq ?_
  refine sg ?_
  refine mv ?_
  refine mv ?_
  first | refine lnM ?_ | refine ln ?_ | refine lnO ?_ | refine lnN ?_ | refine lnW ?_
  refine bo ?_
  refine rNil ?_
  refine cn (fun h1 => ?_) (fun h1 => ?_)
  ·
    have hk : k < l.length := by simpa using h1
    obtain ⟨x, hx⟩ := ex_get hk
    refine sg ?_
    refine mv ?_
    refine mv ?_
    first | refine xs_ ?_ | refine xo ?_ | refine xw ?_
    first | refine l1f ?_ | refine l1b ?_ | refine l1o ?_
    refine as_ ?_
    refine rNil ?_
    refine awp_ret ?_
    refine tr ?_
    exact ⟨.inr rfl, _, (.cons (by first | exact .v (by ((repeat apply Look.there rfl); exact Look.here)) (.f (.v _)) | exact .v (by ((repeat apply Look.there rfl); exact Look.here)) (.row rfl rfl) | exact .v (by ((repeat apply Look.there rfl); exact Look.here)) (.f .nil) | exact .a (by ((repeat apply Look.there rfl); exact Look.here)) | skip) .nil), oneI (by rw [List.getD_eq_getElem?_getD, hx]; rfl)⟩ -- LEAF 1: ret
  ·
    refine awp_skip ?_
    refine tn ?_
    refine sg ?_
    refine as_ ?_
    refine rNil ?_
    refine awp_ret ?_
    exact ⟨.inr rfl, _, (.cons (by first | exact .v (by ((repeat apply Look.there rfl); exact Look.here)) (.f (.v _)) | exact .v (by ((repeat apply Look.there rfl); exact Look.here)) (.row rfl rfl) | exact .v (by ((repeat apply Look.there rfl); exact Look.here)) (.f .nil) | exact .a (by ((repeat apply Look.there rfl); exact Look.here)) | skip) .nil), oneI (by rw [List.getD_eq_getElem?_getD, List.getElem?_eq_none (by simpa using h1)]; rfl)⟩ -- LEAF 2: ret

/-- frustum/frustumref37.element -/
theorem c87 (l : List Int) (k : Nat) : Fn Try.prog 87 [L l, I k] (.one (I (l.getD k 0))) := by
  refine fnI Try.func87 Try.ntmps87 fun hb => ?_
  refine sg ?_
  refine as_ ?_
  refine rNil ?_
  refine sq ?_
  refine sg ?_
  refine mv ?_
  refine mv ?_
  first | refine lnM ?_ | refine ln ?_ | refine lnO ?_ | refine lnN ?_ | refine lnW ?_
  refine bo ?_
  refine rNil ?_
  refine cn (fun h1 => ?_) (fun h1 => ?_)
  ·
    have hk : k < l.length := by simpa using h1
    obtain ⟨x, hx⟩ := ex_get hk
    refine sg ?_
    refine mv ?_
    refine mv ?_
    first | refine xs_ ?_ | refine xo ?_ | refine xw ?_
    first | refine l1f ?_ | refine l1b ?_ | refine l1o ?_
    refine as_ ?_
    refine rNil ?_
    refine awp_ret ?_
    refine tr ?_
    exact ⟨.inr rfl, _, (.cons (by first | exact .v (by ((repeat apply Look.there rfl); exact Look.here)) (.f (.v _)) | exact .v (by ((repeat apply Look.there rfl); exact Look.here)) (.row rfl rfl) | exact .v (by ((repeat apply Look.there rfl); exact Look.here)) (.f .nil) | exact .a (by ((repeat apply Look.there rfl); exact Look.here)) | skip) .nil), oneI (by rw [List.getD_eq_getElem?_getD, hx]; rfl)⟩ -- LEAF 1: ret
  ·
    refine awp_skip ?_
    refine tn ?_
    refine sg ?_
    refine as_ ?_
    refine rNil ?_
    refine awp_ret ?_
    exact ⟨.inr rfl, _, (.cons (by first | exact .v (by ((repeat apply Look.there rfl); exact Look.here)) (.f (.v _)) | exact .v (by ((repeat apply Look.there rfl); exact Look.here)) (.row rfl rfl) | exact .v (by ((repeat apply Look.there rfl); exact Look.here)) (.f .nil) | exact .a (by ((repeat apply Look.there rfl); exact Look.here)) | skip) .nil), oneI (by rw [List.getD_eq_getElem?_getD, List.getElem?_eq_none (by simpa using h1)]; rfl)⟩ -- LEAF 2: ret

def val1 (t : Tri) (px py : Int) (i : Nat) : Int := mixF (perF t px py) (t.v.a.vs.getD i 0) (t.v.b.vs.getD i 0) (t.v.c.vs.getD i 0)
def vals (t : Tri) (px py : Int) : List Int := (List.range t.v.a.vs.length).map (val1 t px py)
def valF (t : Tri) (px py : Int) : List Int := if valid t = true then vals t px py else []
@[simp] theorem vals_len (t : Tri) (px py : Int) : (vals t px py).length = t.v.a.vs.length := by simp [vals]
theorem vals_get {t : Tri} (px py : Int) {k : Nat} (h : k < t.v.a.vs.length) : (vals t px py)[k]? = some (val1 t px py k) := by simp [vals, h]
abbrev triC (t : Tri) : List Slot := [.r (I t.v.a.x), .r (I t.v.a.y), .r (I t.v.a.z), .r (I t.v.a.w), .r (.v (.sl (t.v.a.vs.map Enc.c))), .r (I t.v.b.x), .r (I t.v.b.y), .r (I t.v.b.z), .r (I t.v.b.w), .r (.v (.sl (t.v.b.vs.map Enc.c))), .r (I t.v.c.x), .r (I t.v.c.y), .r (I t.v.c.z), .r (I t.v.c.w), .r (.v (.sl (t.v.c.vs.map Enc.c))), .r (I t.prim), .r (B t.front)]
/-- frustum/varying.Values -/
theorem c64 (t : Tri) (px py : Int) (hl : t.v.a.vs.length ≤ 100) : FnO Try.prog 64 [A t, I px, I py] 3 ((valF t px py).map Enc.c) := by
  refine fnO_of (t := 6) Try.func64 Try.ntmps64 (Sc.ints _) fun hb => ?_
  refine sg ?_
  refine bx _ ?_
  refine as_ ?_
  refine rNil ?_
  refine sq ?_
  refine sg ?_
  first | refine lAf ?_ | refine lAb ?_ | refine lAo ?_
  refine cl (c37 t) ?_
  refine nt ?_
  refine rNil ?_
  refine cn (fun h1 => ?_) (fun h1 => ?_)
  ·
    refine sg ?_
    refine as_ ?_
    refine rNil ?_
    refine awp_ret ?_
    refine tr ?_
    exact ⟨.inr rfl, .nil (by ((repeat apply Look.there rfl); exact Look.here)) (by rw [valF, if_neg (by simpa using h1)]; rfl)⟩ -- LEAF 1: ret
  ·
    refine awp_skip ?_
    refine tn ?_
    refine sg ?_
    first | refine lAf ?_ | refine lAb ?_ | refine lAo ?_
    refine mv ?_
    refine mv ?_
    refine cl (c83 t px py) ?_
    refine al _ ?_
    refine sA ?_
    refine rNil ?_
    refine sg ?_
    first | refine ff ?_ | refine fb ?_ | refine fo ?_
    first | refine xf ?_ | refine xb ?_ | refine xoa ?_
    first | refine ff ?_ | refine fb ?_ | refine fo ?_
    first | refine l1f ?_ | refine l1b ?_ | refine l1o ?_
    first | refine lnM ?_ | refine ln ?_ | refine lnO ?_ | refine lnN ?_ | refine lnW ?_
    refine (mk _) ?_
    refine as_ ?_
    refine rNil ?_
    refine sq ?_
    refine sg ?_
    first | refine ff ?_ | refine fb ?_ | refine fo ?_
    first | refine xf ?_ | refine xb ?_ | refine xoa ?_
    first | refine ff ?_ | refine fb ?_ | refine fo ?_
    first | refine l1f ?_ | refine l1b ?_ | refine l1o ?_
    first | refine lnM ?_ | refine ln ?_ | refine lnO ?_ | refine lnN ?_ | refine lnW ?_
    refine mv ?_
    refine rNil ?_
    refine bk ?_
    refine lp (fun n S => ∃ k : Nat, n = t.v.a.vs.length - k ∧ k ≤ t.v.a.vs.length ∧ S = ⟨[(29, .r (I k)), (28, .r (I t.v.a.vs.length)), (27, .r (L t.v.a.vs)), (8, .own 2 t.v.a.vs.length), (7, .box 1 0), (3, .box 0 0)], [.box 27 (triC t), .box 62 [.r (I (perF t px py).a), .r (I (perF t px py).b)], .row 3 1 ((fillv (vals t px py) k).map Enc.c)]⟩) t.v.a.vs.length ?_ ?_
    · exact wy 3 ⟨0, rfl, by omega, rfl⟩ (by rw [← fillv_mk, vals_len]; rfl)
    rintro n S ⟨k, hn, hk, rfl⟩
    have hrow : t.v.a.vs.length = ((fillv (vals t px py) k).map Enc.c).length := by simp
    refine sg ?_
    refine bo ?_
    refine rNil ?_
    refine sq ?_
    refine cn (fun h2 => ?_) (fun h2 => ?_)
    ·
      have hk1 : k < t.v.a.vs.length := by simpa using h2
      obtain ⟨x, hx⟩ := ex_get hk1
      have hz := fillv_get' (l := vals t px py) (k := k) (by rw [vals_len]; exact hk1)
      have hp := fillv_put (vals_get px py hk1)
      have hv : val1 t px py k = mixF (perF t px py) x (t.v.b.vs.getD k 0) (t.v.c.vs.getD k 0) := by rw [val1, List.getD_eq_getElem?_getD (l := t.v.a.vs), hx]; rfl
      rw [hv] at hp
      refine awp_skip ?_
      refine tn ?_
      refine sq ?_
      refine bk ?_
      refine sg ?_
      refine mv ?_
      first | refine xs_ ?_ | refine xo ?_ | refine xw ?_
      first | refine l1f ?_ | refine l1b ?_ | refine l1o ?_
      refine as_ ?_
      refine as_ ?_
      refine rNil ?_
      refine rd mixO ?_
      refine mv ?_
      refine mv ?_
      first | refine lAf ?_ | refine lAb ?_ | refine lAo ?_
      refine mv ?_
      first | refine ff ?_ | refine fb ?_ | refine fo ?_
      first | refine xf ?_ | refine xb ?_ | refine xoa ?_
      first | refine ff ?_ | refine fb ?_ | refine fo ?_
      first | refine l1f ?_ | refine l1b ?_ | refine l1o ?_
      refine mv ?_
      refine cl (c84 t.v.b.vs k) ?_
      first | refine ff ?_ | refine fb ?_ | refine fo ?_
      first | refine xf ?_ | refine xb ?_ | refine xoa ?_
      first | refine ff ?_ | refine fb ?_ | refine fo ?_
      first | refine l1f ?_ | refine l1b ?_ | refine l1o ?_
      refine mv ?_
      refine cl (c84 t.v.c.vs k) ?_
      refine cl (c39 (perF t px py) _ _ _) ?_
      first | refine xs_ ?_ | refine xo ?_ | refine xw ?_
      refine so k 0 ?_
      refine rNil ⟨rfl, ?_⟩
      refine bn_ ?_
      refine tn ?_
      refine rg ?_
      refine bo ?_
      refine mv ?_
      refine rNil ?_
      refine tn ?_
      exact ⟨t.v.a.vs.length - (k + 1), by omega, wy 3 ⟨k + 1, rfl, by omega, rfl⟩ (by rw [← hp]; rfl)⟩ -- LEAF 2: round of loop 1
    ·
      refine awp_exit ?_
      refine te ?_
      refine te ?_
      refine xbk ?_
      refine tn ?_
      refine sg ?_
      refine mv ?_
      refine as_ ?_
      refine rNil ?_
      refine awp_ret ?_
      have hkk : k = t.v.a.vs.length := by simp at h2; omega
      subst hkk
      exact ⟨.inr rfl, .own (by ((repeat apply Look.there rfl); exact Look.here)) (by rw [valF, if_pos (by simpa using h1)]; rw [← vals_len t px py, fillv_all]; rfl) (by rw [valF, if_pos (by simpa using h1)]; simp)⟩ -- LEAF 3: ret

/-- frustum/frustumref37.Values -/
theorem c70 (t : Tri) (px py : Int) (hl : t.v.a.vs.length ≤ 100) : Fn Try.prog 70 [A t, I px, I py] (.one (L (valF t px py))) := by
  refine fnI Try.func70 Try.ntmps70 fun hb => ?_
  refine sg ?_
  refine bx _ ?_
  refine as_ ?_
  refine rNil ?_
  refine sq ?_
  refine sg ?_
  first | refine lAf ?_ | refine lAb ?_ | refine lAo ?_
  refine cl (c50 t) ?_
  refine nt ?_
  refine rNil ?_
  refine cn (fun h1 => ?_) (fun h1 => ?_)
  ·
    refine sg ?_
    refine as_ ?_
    refine rNil ?_
    refine awp_ret ?_
    refine tr ?_
    exact ⟨.inr rfl, _, (.cons (by first | exact .v (by ((repeat apply Look.there rfl); exact Look.here)) (.f (.v _)) | exact .v (by ((repeat apply Look.there rfl); exact Look.here)) (.row rfl rfl) | exact .v (by ((repeat apply Look.there rfl); exact Look.here)) (.f .nil) | exact .a (by ((repeat apply Look.there rfl); exact Look.here)) | skip) .nil), by rw [valF, if_neg (by simpa using h1)]; rfl⟩ -- LEAF 1: ret
  ·
    refine awp_skip ?_
    refine tn ?_
    refine sg ?_
    first | refine lAf ?_ | refine lAb ?_ | refine lAo ?_
    refine mv ?_
    refine mv ?_
    refine cl (c86 t px py) ?_
    refine al _ ?_
    refine sA ?_
    refine rNil ?_
    refine sg ?_
    refine as_ ?_
    refine rNil ?_
    refine sq ?_
    refine sg ?_
    refine as_ ?_
    refine rNil ?_
    refine bk ?_
    refine adN 2 8 3 1 ?_
    refine lp (fun n S => ∃ (k m : Nat), n = t.v.a.vs.length - k ∧ k ≤ t.v.a.vs.length ∧ m = k ∧ S = ⟨[(9, .r (I k)), (8, .own 2 m), (7, .box 1 0), (3, .box 0 0)], [.box 27 (triC t), .box 62 [.r (I (perF t px py).a), .r (I (perF t px py).b)], .row 3 1 (((vals t px py).take k).map Enc.c)]⟩) t.v.a.vs.length ?_ ?_
    · exact wx 3 ⟨0, 0, rfl, by omega, rfl, rfl⟩
    rintro n S ⟨k, m, hn, hk, hm, rfl⟩
    have hrow : m = (((vals t px py).take k).map Enc.c).length := by simp; omega
    have hkl : ((vals t px py).take k).length = k := by simp; omega
    refine sq ?_
    refine sg ?_
    refine mv ?_
    first | refine ff ?_ | refine fb ?_ | refine fo ?_
    first | refine xf ?_ | refine xb ?_ | refine xoa ?_
    first | refine ff ?_ | refine fb ?_ | refine fo ?_
    first | refine l1f ?_ | refine l1b ?_ | refine l1o ?_
    first | refine lnM ?_ | refine ln ?_ | refine lnO ?_ | refine lnN ?_ | refine lnW ?_
    refine bo ?_
    refine rNil ?_
    refine cn (fun h2 => ?_) (fun h2 => ?_)
    ·
      have hk1 : k < t.v.a.vs.length := by simpa using h2
      obtain ⟨x, hx⟩ := ex_get hk1
      have hg := take_snoc (vals_get px py hk1)
      have hv : val1 t px py k = mixF (perF t px py) x (t.v.b.vs.getD k 0) (t.v.c.vs.getD k 0) := by rw [val1, List.getD_eq_getElem?_getD (l := t.v.a.vs), hx]; rfl
      rw [hv] at hg
      refine awp_skip ?_
      refine tn ?_
      refine sq ?_
      refine bk ?_
      refine rd mixO ?_
      refine mv ?_
      first | refine lAf ?_ | refine lAb ?_ | refine lAo ?_
      first | refine ff ?_ | refine fb ?_ | refine fo ?_
      first | refine xf ?_ | refine xb ?_ | refine xoa ?_
      first | refine ff ?_ | refine fb ?_ | refine fo ?_
      first | refine l1f ?_ | refine l1b ?_ | refine l1o ?_
      refine mv ?_
      first | refine xs_ ?_ | refine xo ?_ | refine xw ?_
      first | refine l1f ?_ | refine l1b ?_ | refine l1o ?_
      first | refine ff ?_ | refine fb ?_ | refine fo ?_
      first | refine xf ?_ | refine xb ?_ | refine xoa ?_
      first | refine ff ?_ | refine fb ?_ | refine fo ?_
      first | refine l1f ?_ | refine l1b ?_ | refine l1o ?_
      refine mv ?_
      refine cl (c87 t.v.b.vs k) ?_
      first | refine ff ?_ | refine fb ?_ | refine fo ?_
      first | refine xf ?_ | refine xb ?_ | refine xoa ?_
      first | refine ff ?_ | refine fb ?_ | refine fo ?_
      first | refine l1f ?_ | refine l1b ?_ | refine l1o ?_
      refine mv ?_
      refine cl (c87 t.v.c.vs k) ?_
      refine cl (c51 (perF t px py) _ _ _) ?_
      refine bs ?_
      first | refine ap ?_ | refine (apN _) ?_
      refine as_ ?_
      refine rNil ⟨rfl, ?_⟩
      refine bn_ ?_
      refine tn ?_
      refine rg ?_
      refine mv ?_
      refine bo ?_
      refine as_ ?_
      refine rNil ?_
      refine tn ?_
      exact ⟨t.v.a.vs.length - (k + 1), by omega, wy 3 ⟨k + 1, m + 1, rfl, by omega, by omega, rfl⟩ (by rw [hg, List.map_append]; rfl)⟩ -- LEAF 2: round of loop 1
    ·
      refine awp_exit ?_
      refine te ?_
      refine te ?_
      refine xbk ?_
      refine tn ?_
      refine sg ?_
      refine mv ?_
      refine as_ ?_
      refine rNil ?_
      refine awp_ret ?_
      have hkk : k = t.v.a.vs.length := by simp at h2; omega
      subst hkk
      have hvl : (vals t px py).take t.v.a.vs.length = vals t px py := by rw [← vals_len t px py, List.take_length]
      rw [hvl] at hrow ⊢
      exact ⟨.inr rfl, _, .cons (.v (by ((repeat apply Look.there rfl); exact Look.here)) (.row rfl hrow)) .nil, by rw [valF, if_pos (by simpa using h1)]; rfl⟩ -- LEAF 3: ret

end Go.Proofs.Ytlaaigljlhkdpaa.VS
