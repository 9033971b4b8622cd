/- The walks of functions: what each computes, by itself. Conditions: none. -/
import Derived.Test.YtlaaigljlhkdpaaF4
set_option linter.unusedVariables false
set_option linter.unusedSimpArgs false
namespace Go.Proofs.Ytlaaigljlhkdpaa.VS
open Go
def w3 (t : Tri) (px py : Int) : T3 Int := if valid t = true then ⟨fn' t.v.b.x t.v.b.y t.v.c.x t.v.c.y px py, fn' t.v.c.x t.v.c.y t.v.a.x t.v.a.y px py, fn' t.v.a.x t.v.a.y t.v.b.x t.v.b.y px py⟩ else ⟨0, 0, 0⟩
def T3.sum (w : T3 Int) : Int := w.a + w.b + w.c
/-- frustum/frustumref34.from -/
theorem c94a (t : Tri) (px py : Int) : Fn Try.prog 94 [A t, I 0, I px, I py] (.one (I (fn' t.v.a.x t.v.a.y t.v.b.x t.v.b.y px py))) := by
  refine fnI Try.func94 Try.ntmps94 fun hb => ?_
  refine sg ?_
  refine bx _ ?_
  refine as_ ?_
  refine rNil ?_
  refine sd mixO ?_
  refine mv ?_
  first | refine ff ?_ | refine fb ?_ | refine fo ?_
  first | refine xf ?_ | refine xb ?_ | refine xoa ?_
  first | refine lAf ?_ | refine lAb ?_ | refine lAo ?_
  refine mv ?_
  refine bo ?_
  refine bo ?_
  first | refine ff ?_ | refine fb ?_ | refine fo ?_
  first | refine xf ?_ | refine xb ?_ | refine xoa ?_
  first | refine lAf ?_ | refine lAb ?_ | refine lAo ?_
  refine al _ ?_
  refine al _ ?_
  refine sA ?_
  refine sA ?_
  refine rNil ⟨rfl, ?_⟩
  refine sg ?_
  first | refine ff ?_ | refine fb ?_ | refine fo ?_
  first | refine l1f ?_ | refine l1b ?_ | refine l1o ?_
  first | refine ff ?_ | refine fb ?_ | refine fo ?_
  first | refine l1f ?_ | refine l1b ?_ | refine l1o ?_
  first | refine ff ?_ | refine fb ?_ | refine fo ?_
  first | refine l1f ?_ | refine l1b ?_ | refine l1o ?_
  first | refine ff ?_ | refine fb ?_ | refine fo ?_
  first | refine l1f ?_ | refine l1b ?_ | refine l1o ?_
  refine mv ?_
  refine mv ?_
  refine cl (c96 t.v.a.x t.v.a.y t.v.b.x t.v.b.y px py) ?_
  refine as_ ?_
  refine rNil ?_
  refine awp_ret ?_
  exact ⟨.inr rfl, _, (.cons (by first | exact .v (by ((repeat apply Look.there rfl); exact Look.here)) (.f (.v _)) | exact .v (by ((repeat apply Look.there rfl); exact Look.here)) (.row rfl rfl) | exact .v (by ((repeat apply Look.there rfl); exact Look.here)) (.f .nil) | exact .a (by ((repeat apply Look.there rfl); exact Look.here)) | skip) .nil), rfl⟩ -- LEAF 1: ret

/-- frustum/frustumref34.from -/
theorem c94b (t : Tri) (px py : Int) : Fn Try.prog 94 [A t, I 1, I px, I py] (.one (I (fn' t.v.b.x t.v.b.y t.v.c.x t.v.c.y px py))) := by
  refine fnI Try.func94 Try.ntmps94 fun hb => ?_
  refine sg ?_
  refine bx _ ?_
  refine as_ ?_
  refine rNil ?_
  refine sd mixO ?_
  refine mv ?_
  first | refine ff ?_ | refine fb ?_ | refine fo ?_
  first | refine xf ?_ | refine xb ?_ | refine xoa ?_
  first | refine lAf ?_ | refine lAb ?_ | refine lAo ?_
  refine mv ?_
  refine bo ?_
  refine bo ?_
  first | refine ff ?_ | refine fb ?_ | refine fo ?_
  first | refine xf ?_ | refine xb ?_ | refine xoa ?_
  first | refine lAf ?_ | refine lAb ?_ | refine lAo ?_
  refine al _ ?_
  refine al _ ?_
  refine sA ?_
  refine sA ?_
  refine rNil ⟨rfl, ?_⟩
  refine sg ?_
  first | refine ff ?_ | refine fb ?_ | refine fo ?_
  first | refine l1f ?_ | refine l1b ?_ | refine l1o ?_
  first | refine ff ?_ | refine fb ?_ | refine fo ?_
  first | refine l1f ?_ | refine l1b ?_ | refine l1o ?_
  first | refine ff ?_ | refine fb ?_ | refine fo ?_
  first | refine l1f ?_ | refine l1b ?_ | refine l1o ?_
  first | refine ff ?_ | refine fb ?_ | refine fo ?_
  first | refine l1f ?_ | refine l1b ?_ | refine l1o ?_
  refine mv ?_
  refine mv ?_
  refine cl (c96 t.v.b.x t.v.b.y t.v.c.x t.v.c.y px py) ?_
  refine as_ ?_
  refine rNil ?_
  refine awp_ret ?_
  exact ⟨.inr rfl, _, (.cons (by first | exact .v (by ((repeat apply Look.there rfl); exact Look.here)) (.f (.v _)) | exact .v (by ((repeat apply Look.there rfl); exact Look.here)) (.row rfl rfl) | exact .v (by ((repeat apply Look.there rfl); exact Look.here)) (.f .nil) | exact .a (by ((repeat apply Look.there rfl); exact Look.here)) | skip) .nil), rfl⟩ -- LEAF 1: ret

/-- frustum/frustumref34.from -/
theorem c94c (t : Tri) (px py : Int) : Fn Try.prog 94 [A t, I 2, I px, I py] (.one (I (fn' t.v.c.x t.v.c.y t.v.a.x t.v.a.y px py))) := by
  refine fnI Try.func94 Try.ntmps94 fun hb => ?_
  refine sg ?_
  refine bx _ ?_
  refine as_ ?_
  refine rNil ?_
  refine sd mixO ?_
  refine mv ?_
  first | refine ff ?_ | refine fb ?_ | refine fo ?_
  first | refine xf ?_ | refine xb ?_ | refine xoa ?_
  first | refine lAf ?_ | refine lAb ?_ | refine lAo ?_
  refine mv ?_
  refine bo ?_
  refine bo ?_
  first | refine ff ?_ | refine fb ?_ | refine fo ?_
  first | refine xf ?_ | refine xb ?_ | refine xoa ?_
  first | refine lAf ?_ | refine lAb ?_ | refine lAo ?_
  refine al _ ?_
  refine al _ ?_
  refine sA ?_
  refine sA ?_
  refine rNil ⟨rfl, ?_⟩
  refine sg ?_
  first | refine ff ?_ | refine fb ?_ | refine fo ?_
  first | refine l1f ?_ | refine l1b ?_ | refine l1o ?_
  first | refine ff ?_ | refine fb ?_ | refine fo ?_
  first | refine l1f ?_ | refine l1b ?_ | refine l1o ?_
  first | refine ff ?_ | refine fb ?_ | refine fo ?_
  first | refine l1f ?_ | refine l1b ?_ | refine l1o ?_
  first | refine ff ?_ | refine fb ?_ | refine fo ?_
  first | refine l1f ?_ | refine l1b ?_ | refine l1o ?_
  refine mv ?_
  refine mv ?_
  refine cl (c96 t.v.c.x t.v.c.y t.v.a.x t.v.a.y px py) ?_
  refine as_ ?_
  refine rNil ?_
  refine awp_ret ?_
  exact ⟨.inr rfl, _, (.cons (by first | exact .v (by ((repeat apply Look.there rfl); exact Look.here)) (.f (.v _)) | exact .v (by ((repeat apply Look.there rfl); exact Look.here)) (.row rfl rfl) | exact .v (by ((repeat apply Look.there rfl); exact Look.here)) (.f .nil) | exact .a (by ((repeat apply Look.there rfl); exact Look.here)) | skip) .nil), rfl⟩ -- LEAF 1: ret

/-- frustum/frustumref34.Weights -/
theorem c91 (t : Tri) (px py : Int) : Fn Try.prog 91 [A t, I px, I py] (.many [A (w3 t px py), I (w3 t px py).sum]) := by
  refine fnI Try.func91 Try.ntmps91 fun hb => ?_
  have b1 := fn_bd t.v.b.x t.v.b.y t.v.c.x t.v.c.y px py
  have b2 := fn_bd t.v.c.x t.v.c.y t.v.a.x t.v.a.y px py
  have b3 := fn_bd t.v.a.x t.v.a.y t.v.b.x t.v.b.y px py
  refine sg ?_
  refine bx _ ?_
  refine al _ ?_
  refine as_ ?_
  refine rNil ?_
  refine sq ?_
  refine sg ?_
  first | refine lAf ?_ | refine lAb ?_ | refine lAo ?_
  refine cl (c50 t) ?_
  refine nt ?_
  refine rNil ?_
  refine cn (fun h1 => ?_) (fun h1 => ?_)
  ·
    have hv : ¬ valid t = true := by simpa using h1
    refine sg ?_
    refine buA ?_
    refine sA ?_
    refine as_ ?_
    refine rNil ?_
    refine awp_ret ?_
    refine tr ?_
    exact ⟨.inr rfl, _, (.cons (resC (by ((repeat apply Look.there rfl); exact Look.here)) (by exact rfl) (by exact rfl) (by ((repeat (apply All2.cons; first | exact .f (.v _) | exact .row rfl (by first | exact rfl | simp) | exact .f .nil | exact .f (.fro rfl (by first | exact rfl | simp)))); exact All2.nil))) (.cons (by first | exact .v (by ((repeat apply Look.there rfl); exact Look.here)) (.f (.v _)) | exact .v (by ((repeat apply Look.there rfl); exact Look.here)) (.row rfl rfl) | exact .v (by ((repeat apply Look.there rfl); exact Look.here)) (.f .nil) | exact .a (by ((repeat apply Look.there rfl); exact Look.here)) | skip) .nil)), by rw [w3, if_neg hv]; rfl⟩ -- LEAF 1: ret
  ·
    have hv : valid t = true := by simpa using h1
    refine awp_skip ?_
    refine tn ?_
    refine sd mixO ?_
    first | refine lAf ?_ | refine lAb ?_ | refine lAo ?_
    refine mv ?_
    refine mv ?_
    refine cl (c94b t px py) ?_
    first | refine lAf ?_ | refine lAb ?_ | refine lAo ?_
    refine mv ?_
    refine mv ?_
    refine cl (c94c t px py) ?_
    first | refine lAf ?_ | refine lAb ?_ | refine lAo ?_
    refine mv ?_
    refine mv ?_
    refine cl (c94a t px py) ?_
    refine buA ?_
    refine al _ ?_
    refine sA ?_
    refine rNil ⟨rfl, ?_⟩
    refine sd mixO ?_
    first | refine lAf ?_ | refine lAb ?_ | refine lAo ?_
    first | refine xf ?_ | refine xb ?_ | refine xoa ?_
    first | refine l1f ?_ | refine l1b ?_ | refine l1o ?_
    first | refine xf ?_ | refine xb ?_ | refine xoa ?_
    first | refine l1f ?_ | refine l1b ?_ | refine l1o ?_
    refine bo ?_
    first | refine xf ?_ | refine xb ?_ | refine xoa ?_
    first | refine l1f ?_ | refine l1b ?_ | refine l1o ?_
    refine bo ?_
    refine sA ?_
    refine as_ ?_
    refine rNil ⟨rfl, ?_⟩
    refine awp_ret ?_
    exact ⟨.inr rfl, _, (.cons (resC (by ((repeat apply Look.there rfl); exact Look.here)) (by exact rfl) (by exact rfl) (by ((repeat (apply All2.cons; first | exact .f (.v _) | exact .row rfl (by first | exact rfl | simp) | exact .f .nil | exact .f (.fro rfl (by first | exact rfl | simp)))); exact All2.nil))) (.cons (by first | exact .v (by ((repeat apply Look.there rfl); exact Look.here)) (.f (.v _)) | exact .v (by ((repeat apply Look.there rfl); exact Look.here)) (.row rfl rfl) | exact .v (by ((repeat apply Look.there rfl); exact Look.here)) (.f .nil) | exact .a (by ((repeat apply Look.there rfl); exact Look.here)) | skip) .nil)), by rw [w3, if_pos hv]; rfl⟩ -- LEAF 2: ret

/-- frustum/edge.Weights -/
theorem c82 (t : Tri) (px py : Int) : Fn Try.prog 82 [A t, I px, I py] (.many [A (w3 t px py), I (w3 t px py).sum]) := by
  refine fnI Try.func82 Try.ntmps82 fun hb => ?_
  have b1 := fn_bd t.v.b.x t.v.b.y t.v.c.x t.v.c.y px py
  have b2 := fn_bd t.v.c.x t.v.c.y t.v.a.x t.v.a.y px py
  have b3 := fn_bd t.v.a.x t.v.a.y t.v.b.x t.v.b.y px py
  refine sg ?_
  refine bx _ ?_
  refine al _ ?_
  refine as_ ?_
  refine rNil ?_
  refine sq ?_
  refine sg ?_
  first | refine lAf ?_ | refine lAb ?_ | refine lAo ?_
  refine cl (c37 t) ?_
  refine nt ?_
  refine rNil ?_
  refine cn (fun h1 => ?_) (fun h1 => ?_)
  ·
    have hv : ¬ valid t = true := by simpa using h1
    refine sg ?_
    refine buA ?_
    refine sA ?_
    refine as_ ?_
    refine rNil ?_
    refine awp_ret ?_
    refine tr ?_
    exact ⟨.inr rfl, _, (.cons (resC (by ((repeat apply Look.there rfl); exact Look.here)) (by exact rfl) (by exact rfl) (by ((repeat (apply All2.cons; first | exact .f (.v _) | exact .row rfl (by first | exact rfl | simp) | exact .f .nil | exact .f (.fro rfl (by first | exact rfl | simp)))); exact All2.nil))) (.cons (by first | exact .v (by ((repeat apply Look.there rfl); exact Look.here)) (.f (.v _)) | exact .v (by ((repeat apply Look.there rfl); exact Look.here)) (.row rfl rfl) | exact .v (by ((repeat apply Look.there rfl); exact Look.here)) (.f .nil) | exact .a (by ((repeat apply Look.there rfl); exact Look.here)) | skip) .nil)), by rw [w3, if_neg hv]; rfl⟩ -- LEAF 1: ret
  ·
    have hv : valid t = true := by simpa using h1
    refine awp_skip ?_
    refine tn ?_
    refine sg ?_
    refine al _ ?_
    refine rNil ?_
    refine sq ?_
    refine sg ?_
    refine mv ?_
    refine rNil ?_
    refine bk ?_
    refine lu ?_
    refine lr ?_
    refine sg ?_
    refine bo ?_
    refine rNil ?_
    refine sq ?_
    refine cn (fun h2 => ?_) (fun h2 => ?_)
    ·
      refine awp_skip ?_
      refine tn ?_
      refine sq ?_
      refine bk ?_
      refine sg ?_
      refine mv ?_
      refine as_ ?_
      refine rNil ?_
      refine sd mixO ?_
      refine mv ?_
      refine bo ?_
      refine bo ?_
      first | refine ff ?_ | refine fb ?_ | refine fo ?_
      first | refine xf ?_ | refine xb ?_ | refine xoa ?_
      first | refine lAf ?_ | refine lAb ?_ | refine lAo ?_
      refine mv ?_
      refine bo ?_
      refine bo ?_
      first | refine ff ?_ | refine fb ?_ | refine fo ?_
      first | refine xf ?_ | refine xb ?_ | refine xoa ?_
      first | refine lAf ?_ | refine lAb ?_ | refine lAo ?_
      refine al _ ?_
      refine al _ ?_
      refine sA ?_
      refine sA ?_
      refine rNil ⟨rfl, ?_⟩
      refine rg ?_
      refine mv ?_
      first | refine ff ?_ | refine fb ?_ | refine fo ?_
      first | refine l1f ?_ | refine l1b ?_ | refine l1o ?_
      first | refine ff ?_ | refine fb ?_ | refine fo ?_
      first | refine l1f ?_ | refine l1b ?_ | refine l1o ?_
      first | refine ff ?_ | refine fb ?_ | refine fo ?_
      first | refine l1f ?_ | refine l1b ?_ | refine l1o ?_
      first | refine ff ?_ | refine fb ?_ | refine fo ?_
      first | refine l1f ?_ | refine l1b ?_ | refine l1o ?_
      refine mv ?_
      refine mv ?_
      refine cl (c92 _ _ _ _ _ _) ?_
      first | refine xf ?_ | refine xb ?_ | refine xoa ?_
      first | refine s1 ?_ | refine s1w ?_
      refine rNil ?_
      refine bn_ ?_
      refine tn ?_
      refine rg ?_
      refine bo ?_
      refine mv ?_
      refine rNil ?_
      refine tn ?_
      refine lr ?_
      refine sg ?_
      refine bo ?_
      refine rNil ?_
      refine sq ?_
      refine cn (fun h3 => ?_) (fun h3 => ?_)
      ·
        refine awp_skip ?_
        refine tn ?_
        refine sq ?_
        refine bk ?_
        refine sg ?_
        refine mv ?_
        refine as_ ?_
        refine rNil ?_
        refine sd mixO ?_
        refine mv ?_
        refine bo ?_
        refine bo ?_
        first | refine ff ?_ | refine fb ?_ | refine fo ?_
        first | refine xf ?_ | refine xb ?_ | refine xoa ?_
        first | refine lAf ?_ | refine lAb ?_ | refine lAo ?_
        refine mv ?_
        refine bo ?_
        refine bo ?_
        first | refine ff ?_ | refine fb ?_ | refine fo ?_
        first | refine xf ?_ | refine xb ?_ | refine xoa ?_
        first | refine lAf ?_ | refine lAb ?_ | refine lAo ?_
        refine al _ ?_
        refine al _ ?_
        refine sA ?_
        refine sA ?_
        refine rNil ⟨rfl, ?_⟩
        refine rg ?_
        refine mv ?_
        first | refine ff ?_ | refine fb ?_ | refine fo ?_
        first | refine l1f ?_ | refine l1b ?_ | refine l1o ?_
        first | refine ff ?_ | refine fb ?_ | refine fo ?_
        first | refine l1f ?_ | refine l1b ?_ | refine l1o ?_
        first | refine ff ?_ | refine fb ?_ | refine fo ?_
        first | refine l1f ?_ | refine l1b ?_ | refine l1o ?_
        first | refine ff ?_ | refine fb ?_ | refine fo ?_
        first | refine l1f ?_ | refine l1b ?_ | refine l1o ?_
        refine mv ?_
        refine mv ?_
        refine cl (c92 _ _ _ _ _ _) ?_
        first | refine xf ?_ | refine xb ?_ | refine xoa ?_
        first | refine s1 ?_ | refine s1w ?_
        refine rNil ?_
        refine bn_ ?_
        refine tn ?_
        refine rg ?_
        refine bo ?_
        refine mv ?_
        refine rNil ?_
        refine tn ?_
        refine lr ?_
        refine sg ?_
        refine bo ?_
        refine rNil ?_
        refine sq ?_
        refine cn (fun h4 => ?_) (fun h4 => ?_)
        ·
          refine awp_skip ?_
          refine tn ?_
          refine sq ?_
          refine bk ?_
          refine sg ?_
          refine mv ?_
          refine as_ ?_
          refine rNil ?_
          refine sd mixO ?_
          refine mv ?_
          refine bo ?_
          refine bo ?_
          first | refine ff ?_ | refine fb ?_ | refine fo ?_
          first | refine xf ?_ | refine xb ?_ | refine xoa ?_
          first | refine lAf ?_ | refine lAb ?_ | refine lAo ?_
          refine mv ?_
          refine bo ?_
          refine bo ?_
          first | refine ff ?_ | refine fb ?_ | refine fo ?_
          first | refine xf ?_ | refine xb ?_ | refine xoa ?_
          first | refine lAf ?_ | refine lAb ?_ | refine lAo ?_
          refine al _ ?_
          refine al _ ?_
          refine sA ?_
          refine sA ?_
          refine rNil ⟨rfl, ?_⟩
          refine rg ?_
          refine mv ?_
          first | refine ff ?_ | refine fb ?_ | refine fo ?_
          first | refine l1f ?_ | refine l1b ?_ | refine l1o ?_
          first | refine ff ?_ | refine fb ?_ | refine fo ?_
          first | refine l1f ?_ | refine l1b ?_ | refine l1o ?_
          first | refine ff ?_ | refine fb ?_ | refine fo ?_
          first | refine l1f ?_ | refine l1b ?_ | refine l1o ?_
          first | refine ff ?_ | refine fb ?_ | refine fo ?_
          first | refine l1f ?_ | refine l1b ?_ | refine l1o ?_
          refine mv ?_
          refine mv ?_
          refine cl (c92 _ _ _ _ _ _) ?_
          first | refine xf ?_ | refine xb ?_ | refine xoa ?_
          first | refine s1 ?_ | refine s1w ?_
          refine rNil ?_
          refine bn_ ?_
          refine tn ?_
          refine rg ?_
          refine bo ?_
          refine mv ?_
          refine rNil ?_
          refine tn ?_
          refine lr ?_
          refine sg ?_
          refine bo ?_
          refine rNil ?_
          refine sq ?_
          refine cn (fun h5 => ?_) (fun h5 => ?_)
          ·
            exact absurd h5 (by decide)
          ·
            refine awp_exit ?_
            refine te ?_
            refine te ?_
            refine xbk ?_
            refine tn ?_
            refine sd mixO ?_
            first | refine lAf ?_ | refine lAb ?_ | refine lAo ?_
            first | refine xf ?_ | refine xb ?_ | refine xoa ?_
            first | refine l1f ?_ | refine l1b ?_ | refine l1o ?_
            first | refine xf ?_ | refine xb ?_ | refine xoa ?_
            first | refine l1f ?_ | refine l1b ?_ | refine l1o ?_
            refine bo ?_
            first | refine xf ?_ | refine xb ?_ | refine xoa ?_
            first | refine l1f ?_ | refine l1b ?_ | refine l1o ?_
            refine bo ?_
            refine sA ?_
            refine as_ ?_
            refine rNil ⟨rfl, ?_⟩
            refine awp_ret ?_
            exact ⟨.inr rfl, _, (.cons (resC (by ((repeat apply Look.there rfl); exact Look.here)) (by exact rfl) (by exact rfl) (by ((repeat (apply All2.cons; first | exact .f (.v _) | exact .row rfl (by first | exact rfl | simp) | exact .f .nil | exact .f (.fro rfl (by first | exact rfl | simp)))); exact All2.nil))) (.cons (by first | exact .v (by ((repeat apply Look.there rfl); exact Look.here)) (.f (.v _)) | exact .v (by ((repeat apply Look.there rfl); exact Look.here)) (.row rfl rfl) | exact .v (by ((repeat apply Look.there rfl); exact Look.here)) (.f .nil) | exact .a (by ((repeat apply Look.there rfl); exact Look.here)) | skip) .nil)), by rw [w3, if_pos hv]; rfl⟩ -- LEAF 2: ret
        ·
          exact absurd h4 (by decide)
      ·
        exact absurd h3 (by decide)
    ·
      exact absurd h2 (by decide)

def wn (t : Tri) (px py : Int) : T3 Int := ⟨mx 0 (w3 t px py).a, mx 0 (w3 t px py).b, mx 0 (w3 t px py).c⟩
theorem w3_bd (t : Tri) (px py : Int) : (w3 t px py).a ≤ 536870912 ∧ (w3 t px py).b ≤ 536870912 ∧ (w3 t px py).c ≤ 536870912 := by
  unfold w3
  split
  · exact ⟨(fn_bd _ _ _ _ _ _).2, (fn_bd _ _ _ _ _ _).2, (fn_bd _ _ _ _ _ _).2⟩
  · simp
theorem wn_bd (t : Tri) (px py : Int) : (0 ≤ (wn t px py).a ∧ (wn t px py).a ≤ 536870912) ∧ (0 ≤ (wn t px py).b ∧ (wn t px py).b ≤ 536870912) ∧ 0 ≤ (wn t px py).c ∧ (wn t px py).c ≤ 536870912 := by
  have h := w3_bd t px py
  unfold wn mx
  refine ⟨⟨?_, ?_⟩, ⟨?_, ?_⟩, ?_, ?_⟩ <;> dsimp only <;> split <;> omega
/-- frustum/varying.weights -/
theorem c63 (t : Tri) (px py : Int) : Fn Try.prog 63 [A t, I px, I py] (.one (A (wn t px py))) := by
  refine fnI Try.func63 Try.ntmps63 fun hb => ?_
  refine sg ?_
  refine bx _ ?_
  refine al _ ?_
  refine rNil ?_
  refine sg ?_
  first | refine lAf ?_ | refine lAb ?_ | refine lAo ?_
  refine mv ?_
  refine mv ?_
  refine cl (c82 t px py) ?_
  refine mv ?_
  refine ex ?_
  refine ex ?_
  refine al _ ?_
  refine sA ?_
  refine as_ ?_
  refine rNil ?_
  refine sq ?_
  refine sg ?_
  refine mv ?_
  refine rNil ?_
  refine bk ?_
  refine lu ?_
  refine lr ?_
  refine sg ?_
  refine bo ?_
  refine rNil ?_
  refine sq ?_
  refine cn (fun h1 => ?_) (fun h1 => ?_)
  ·
    refine awp_skip ?_
    refine tn ?_
    refine sq ?_
    refine bk ?_
    refine sg ?_
    refine mv ?_
    refine as_ ?_
    refine rNil ?_
    refine rg ?_
    refine mv ?_
    refine mv ?_
    first | refine xf ?_ | refine xb ?_ | refine xoa ?_
    first | refine l1f ?_ | refine l1b ?_ | refine l1o ?_
    refine mx2 ?_
    first | refine xf ?_ | refine xb ?_ | refine xoa ?_
    first | refine s1 ?_ | refine s1w ?_
    refine rNil ?_
    refine bn_ ?_
    refine tn ?_
    refine rg ?_
    refine bo ?_
    refine mv ?_
    refine rNil ?_
    refine tn ?_
    refine lr ?_
    refine sg ?_
    refine bo ?_
    refine rNil ?_
    refine sq ?_
    refine cn (fun h2 => ?_) (fun h2 => ?_)
    ·
      refine awp_skip ?_
      refine tn ?_
      refine sq ?_
      refine bk ?_
      refine sg ?_
      refine mv ?_
      refine as_ ?_
      refine rNil ?_
      refine rg ?_
      refine mv ?_
      refine mv ?_
      first | refine xf ?_ | refine xb ?_ | refine xoa ?_
      first | refine l1f ?_ | refine l1b ?_ | refine l1o ?_
      refine mx2 ?_
      first | refine xf ?_ | refine xb ?_ | refine xoa ?_
      first | refine s1 ?_ | refine s1w ?_
      refine rNil ?_
      refine bn_ ?_
      refine tn ?_
      refine rg ?_
      refine bo ?_
      refine mv ?_
      refine rNil ?_
      refine tn ?_
      refine lr ?_
      refine sg ?_
      refine bo ?_
      refine rNil ?_
      refine sq ?_
      refine cn (fun h3 => ?_) (fun h3 => ?_)
      ·
        refine awp_skip ?_
        refine tn ?_
        refine sq ?_
        refine bk ?_
        refine sg ?_
        refine mv ?_
        refine as_ ?_
        refine rNil ?_
        refine rg ?_
        refine mv ?_
        refine mv ?_
        first | refine xf ?_ | refine xb ?_ | refine xoa ?_
        first | refine l1f ?_ | refine l1b ?_ | refine l1o ?_
        refine mx2 ?_
        first | refine xf ?_ | refine xb ?_ | refine xoa ?_
        first | refine s1 ?_ | refine s1w ?_
        refine rNil ?_
        refine bn_ ?_
        refine tn ?_
        refine rg ?_
        refine bo ?_
        refine mv ?_
        refine rNil ?_
        refine tn ?_
        refine lr ?_
        refine sg ?_
        refine bo ?_
        refine rNil ?_
        refine sq ?_
        refine cn (fun h4 => ?_) (fun h4 => ?_)
        ·
          exact absurd h4 (by decide)
        ·
          refine awp_exit ?_
          refine te ?_
          refine te ?_
          refine xbk ?_
          refine tn ?_
          refine sg ?_
          first | refine lAf ?_ | refine lAb ?_ | refine lAo ?_
          refine sA ?_
          refine rNil ?_
          refine awp_ret ?_
          exact ⟨.inr rfl, _, (.cons (resC (by ((repeat apply Look.there rfl); exact Look.here)) (by exact rfl) (by exact rfl) (by ((repeat (apply All2.cons; first | exact .f (.v _) | exact .row rfl (by first | exact rfl | simp) | exact .f .nil | exact .f (.fro rfl (by first | exact rfl | simp)))); exact All2.nil))) .nil), rfl⟩ -- LEAF 1: ret
      ·
        exact absurd h3 (by decide)
    ·
      exact absurd h2 (by decide)
  ·
    exact absurd h1 (by decide)

/-- frustum/frustumref37.weights -/
theorem c77 (t : Tri) (px py : Int) : Fn Try.prog 77 [A t, I px, I py] (.one (A (wn t px py))) := by
  refine fnI Try.func77 Try.ntmps77 fun hb => ?_
  refine sg ?_
  refine bx _ ?_
  refine al _ ?_
  refine rNil ?_
  refine sg ?_
  first | refine lAf ?_ | refine lAb ?_ | refine lAo ?_
  refine mv ?_
  refine mv ?_
  refine cl (c91 t px py) ?_
  refine mv ?_
  refine ex ?_
  refine ex ?_
  refine al _ ?_
  refine sA ?_
  refine as_ ?_
  refine rNil ?_
  refine sg ?_
  first | refine xf ?_ | refine xb ?_ | refine xoa ?_
  first | refine l1f ?_ | refine l1b ?_ | refine l1o ?_
  refine mx2 ?_
  first | refine xf ?_ | refine xb ?_ | refine xoa ?_
  first | refine l1f ?_ | refine l1b ?_ | refine l1o ?_
  refine mx2 ?_
  first | refine xf ?_ | refine xb ?_ | refine xoa ?_
  first | refine l1f ?_ | refine l1b ?_ | refine l1o ?_
  refine mx2 ?_
  refine buA ?_
  refine sA ?_
  refine rNil ?_
  refine awp_ret ?_
  exact ⟨.inr rfl, _, (.cons (resC (by ((repeat apply Look.there rfl); exact Look.here)) (by exact rfl) (by exact rfl) (by ((repeat (apply All2.cons; first | exact .f (.v _) | exact .row rfl (by first | exact rfl | simp) | exact .f .nil | exact .f (.fro rfl (by first | exact rfl | simp)))); exact All2.nil))) .nil), rfl⟩ -- LEAF 1: ret

def rats (w : T3 Int) : T2 Int := ⟨ratio w.a (w.a + w.b + w.c), ratio w.b (w.a + w.b + w.c)⟩
def Sm (w : T3 Int) : Prop := (0 ≤ w.a ∧ w.a ≤ 1152921504606846976) ∧ (0 ≤ w.b ∧ w.b ≤ 1152921504606846976) ∧ 0 ≤ w.c ∧ w.c ≤ 1152921504606846976
/-- frustum/varying.ratios -/
theorem c62 (w : T3 Int) (hs : Sm w) : Fn Try.prog 62 [A w] (.one (A (rats w))) := by
  refine fnI Try.func62 Try.ntmps62 fun hb => ?_
  unfold Sm at hs
  refine sg ?_
  refine bx _ ?_
  refine al _ ?_
  refine rNil ?_
  refine sg ?_
  first | refine xf ?_ | refine xb ?_ | refine xoa ?_
  first | refine l1f ?_ | refine l1b ?_ | refine l1o ?_
  first | refine xf ?_ | refine xb ?_ | refine xoa ?_
  first | refine l1f ?_ | refine l1b ?_ | refine l1o ?_
  refine bo ?_
  first | refine xf ?_ | refine xb ?_ | refine xoa ?_
  first | refine l1f ?_ | refine l1b ?_ | refine l1o ?_
  refine bo ?_
  refine as_ ?_
  refine rNil ?_
  refine sd mixO ?_
  first | refine xf ?_ | refine xb ?_ | refine xoa ?_
  first | refine l1f ?_ | refine l1b ?_ | refine l1o ?_
  refine mv ?_
  refine cl (c81 _ _) ?_
  first | refine xf ?_ | refine xb ?_ | refine xoa ?_
  first | refine l1f ?_ | refine l1b ?_ | refine l1o ?_
  refine mv ?_
  refine cl (c81 _ _) ?_
  refine buA ?_
  refine sA ?_
  refine rNil ⟨rfl, ?_⟩
  refine awp_ret ?_
  exact ⟨.inr rfl, _, (.cons (resC (by ((repeat apply Look.there rfl); exact Look.here)) (by exact rfl) (by exact rfl) (by ((repeat (apply All2.cons; first | exact .f (.v _) | exact .row rfl (by first | exact rfl | simp) | exact .f .nil | exact .f (.fro rfl (by first | exact rfl | simp)))); exact All2.nil))) .nil), rfl⟩ -- LEAF 1: ret

/-- frustum/frustumref37.ratios -/
theorem c76 (w : T3 Int) (hs : Sm w) : Fn Try.prog 76 [A w] (.one (A (rats w))) := by
  refine fnI Try.func76 Try.ntmps76 fun hb => ?_
  unfold Sm at hs
  refine sg ?_
  refine bx _ ?_
  refine al _ ?_
  refine rNil ?_
  refine sg ?_
  first | refine xf ?_ | refine xb ?_ | refine xoa ?_
  first | refine l1f ?_ | refine l1b ?_ | refine l1o ?_
  first | refine xf ?_ | refine xb ?_ | refine xoa ?_
  first | refine l1f ?_ | refine l1b ?_ | refine l1o ?_
  refine bo ?_
  first | refine xf ?_ | refine xb ?_ | refine xoa ?_
  first | refine l1f ?_ | refine l1b ?_ | refine l1o ?_
  refine bo ?_
  refine as_ ?_
  refine rNil ?_
  refine sd mixO ?_
  first | refine xf ?_ | refine xb ?_ | refine xoa ?_
  first | refine l1f ?_ | refine l1b ?_ | refine l1o ?_
  refine mv ?_
  refine cl (c90 _ _) ?_
  first | refine xf ?_ | refine xb ?_ | refine xoa ?_
  first | refine l1f ?_ | refine l1b ?_ | refine l1o ?_
  refine mv ?_
  refine cl (c90 _ _) ?_
  refine buA ?_
  refine sA ?_
  refine rNil ⟨rfl, ?_⟩
  refine awp_ret ?_
  exact ⟨.inr rfl, _, (.cons (resC (by ((repeat apply Look.there rfl); exact Look.here)) (by exact rfl) (by exact rfl) (by ((repeat (apply All2.cons; first | exact .f (.v _) | exact .row rfl (by first | exact rfl | simp) | exact .f .nil | exact .f (.fro rfl (by first | exact rfl | simp)))); exact All2.nil))) .nil), rfl⟩ -- LEAF 1: ret

theorem wn_sm (t : Tri) (px py : Int) : Sm (wn t px py) := by have := wn_bd t px py; unfold Sm; omega
theorem wn_not {t : Tri} (h : ¬ valid t = true) (px py : Int) : wn t px py = ⟨0, 0, 0⟩ := by rw [wn, w3, if_neg h]; rfl
def linF (t : Tri) (px py : Int) : T2 Int := rats (wn t px py)
/-- frustum/varying.Linear -/
theorem c40 (t : Tri) (px py : Int) : Fn Try.prog 40 [A t, I px, I py] (.one (A (linF t px py))) := by
  refine fnI Try.func40 Try.ntmps40 fun hb => ?_
  refine sg ?_
  refine bx _ ?_
  refine al _ ?_
  refine rNil ?_
  refine sg ?_
  first | refine lAf ?_ | refine lAb ?_ | refine lAo ?_
  refine mv ?_
  refine mv ?_
  refine cl (c63 t px py) ?_
  refine cl (c62 (wn t px py) (wn_sm t px py)) ?_
  refine sA ?_
  refine rNil ?_
  refine awp_ret ?_
  exact ⟨.inr rfl, _, (.cons (resC (by ((repeat apply Look.there rfl); exact Look.here)) (by exact rfl) (by exact rfl) (by ((repeat (apply All2.cons; first | exact .f (.v _) | exact .row rfl (by first | exact rfl | simp) | exact .f .nil | exact .f (.fro rfl (by first | exact rfl | simp)))); exact All2.nil))) .nil), rfl⟩ -- LEAF 1: ret

/-- frustum/frustumref37.Linear -/
theorem c52 (t : Tri) (px py : Int) : Fn Try.prog 52 [A t, I px, I py] (.one (A (linF t px py))) := by
  refine fnI Try.func52 Try.ntmps52 fun hb => ?_
  refine sg ?_
  refine bx _ ?_
  refine al _ ?_
  refine rNil ?_
  refine sq ?_
  refine sg ?_
  first | refine lAf ?_ | refine lAb ?_ | refine lAo ?_
  refine cl (c50 t) ?_
  refine nt ?_
  refine rNil ?_
  refine cn (fun h1 => ?_) (fun h1 => ?_)
  ·
    refine sg ?_
    refine buA ?_
    refine sA ?_
    refine rNil ?_
    refine awp_ret ?_
    refine tr ?_
    exact ⟨.inr rfl, _, (.cons (resC (by ((repeat apply Look.there rfl); exact Look.here)) (by exact rfl) (by exact rfl) (by ((repeat (apply All2.cons; first | exact .f (.v _) | exact .row rfl (by first | exact rfl | simp) | exact .f .nil | exact .f (.fro rfl (by first | exact rfl | simp)))); exact All2.nil))) .nil), by rw [linF, wn_not (by simpa using h1)]; rfl⟩ -- LEAF 1: ret
  ·
    refine awp_skip ?_
    refine tn ?_
    refine sg ?_
    first | refine lAf ?_ | refine lAb ?_ | refine lAo ?_
    refine mv ?_
    refine mv ?_
    refine cl (c77 t px py) ?_
    refine cl (c76 (wn t px py) (wn_sm t px py)) ?_
    refine sA ?_
    refine rNil ?_
    refine awp_ret ?_
    exact ⟨.inr rfl, _, (.cons (resC (by ((repeat apply Look.there rfl); exact Look.here)) (by exact rfl) (by exact rfl) (by ((repeat (apply All2.cons; first | exact .f (.v _) | exact .row rfl (by first | exact rfl | simp) | exact .f .nil | exact .f (.fro rfl (by first | exact rfl | simp)))); exact All2.nil))) .nil), rfl⟩ -- LEAF 2: ret

def ps (t : Tri) (px py : Int) : T3 Int := ⟨(wn t px py).a * clamp t.v.a.w 0 16777216, (wn t px py).b * clamp t.v.b.w 0 16777216, (wn t px py).c * clamp t.v.c.w 0 16777216⟩
theorem pb {x y : Int} (hx : 0 ≤ x ∧ x ≤ 536870912) (hy : 0 ≤ y ∧ y ≤ 16777216) : 0 ≤ x * y ∧ x * y ≤ 9007199254740992 :=
  ⟨Int.mul_nonneg hx.1 hy.1, Int.mul_le_mul hx.2 hy.2 hy.1 (by decide)⟩
def perF (t : Tri) (px py : Int) : T2 Int := if (ps t px py).a + (ps t px py).b + (ps t px py).c = 0 then rats (wn t px py) else rats (ps t px py)
theorem ps_sm (t : Tri) (px py : Int) : Sm (ps t px py) := by
  have h := wn_bd t px py
  have p1 := pb h.1 (clamp_bd t.v.a.w (show (0:Int) ≤ 16777216 by decide))
  have p2 := pb h.2.1 (clamp_bd t.v.b.w (show (0:Int) ≤ 16777216 by decide))
  have p3 := pb h.2.2 (clamp_bd t.v.c.w (show (0:Int) ≤ 16777216 by decide))
  unfold Sm ps; dsimp only; omega
/-- frustum/varying.Perspective -/
theorem c83 (t : Tri) (px py : Int) : Fn Try.prog 83 [A t, I px, I py] (.one (A (perF t px py))) := by
  refine fnI Try.func83 Try.ntmps83 fun hb => ?_
  have h := wn_bd t px py
  have p1 := pb h.1 (clamp_bd t.v.a.w (show (0:Int) ≤ 16777216 by decide))
  have p2 := pb h.2.1 (clamp_bd t.v.b.w (show (0:Int) ≤ 16777216 by decide))
  have p3 := pb h.2.2 (clamp_bd t.v.c.w (show (0:Int) ≤ 16777216 by decide))
  refine sg ?_
  refine bx _ ?_
  refine al _ ?_
  refine rNil ?_
  refine sg ?_
  first | refine lAf ?_ | refine lAb ?_ | refine lAo ?_
  refine mv ?_
  refine mv ?_
  refine cl (c63 t px py) ?_
  refine al _ ?_
  refine sA ?_
  refine rNil ?_
  refine sg ?_
  first | refine lAf ?_ | refine lAb ?_ | refine lAo ?_
  refine al _ ?_
  refine sA ?_
  refine rNil ?_
  refine sq ?_
  refine sg ?_
  refine mv ?_
  refine rNil ?_
  refine bk ?_
  refine lu ?_
  refine lr ?_
  refine sg ?_
  refine bo ?_
  refine rNil ?_
  refine sq ?_
  refine cn (fun h1 => ?_) (fun h1 => ?_)
  ·
    refine awp_skip ?_
    refine tn ?_
    refine sq ?_
    refine bk ?_
    refine sg ?_
    refine mv ?_
    refine as_ ?_
    refine rNil ?_
    refine rd mixO ?_
    refine mv ?_
    first | refine xf ?_ | refine xb ?_ | refine xoa ?_
    first | refine l1f ?_ | refine l1b ?_ | refine l1o ?_
    refine mv ?_
    first | refine ff ?_ | refine fb ?_ | refine fo ?_
    first | refine xf ?_ | refine xb ?_ | refine xoa ?_
    first | refine ff ?_ | refine fb ?_ | refine fo ?_
    first | refine l1f ?_ | refine l1b ?_ | refine l1o ?_
    refine cl (c38 _ _ _) ?_
    refine bo ?_
    first | refine xf ?_ | refine xb ?_ | refine xoa ?_
    first | refine s1 ?_ | refine s1w ?_
    refine rNil ⟨rfl, ?_⟩
    refine bn_ ?_
    refine tn ?_
    refine rg ?_
    refine bo ?_
    refine mv ?_
    refine rNil ?_
    refine tn ?_
    refine lr ?_
    refine sg ?_
    refine bo ?_
    refine rNil ?_
    refine sq ?_
    refine cn (fun h2 => ?_) (fun h2 => ?_)
    ·
      refine awp_skip ?_
      refine tn ?_
      refine sq ?_
      refine bk ?_
      refine sg ?_
      refine mv ?_
      refine as_ ?_
      refine rNil ?_
      refine rd mixO ?_
      refine mv ?_
      first | refine xf ?_ | refine xb ?_ | refine xoa ?_
      first | refine l1f ?_ | refine l1b ?_ | refine l1o ?_
      refine mv ?_
      first | refine ff ?_ | refine fb ?_ | refine fo ?_
      first | refine xf ?_ | refine xb ?_ | refine xoa ?_
      first | refine ff ?_ | refine fb ?_ | refine fo ?_
      first | refine l1f ?_ | refine l1b ?_ | refine l1o ?_
      refine cl (c38 _ _ _) ?_
      refine bo ?_
      first | refine xf ?_ | refine xb ?_ | refine xoa ?_
      first | refine s1 ?_ | refine s1w ?_
      refine rNil ⟨rfl, ?_⟩
      refine bn_ ?_
      refine tn ?_
      refine rg ?_
      refine bo ?_
      refine mv ?_
      refine rNil ?_
      refine tn ?_
      refine lr ?_
      refine sg ?_
      refine bo ?_
      refine rNil ?_
      refine sq ?_
      refine cn (fun h3 => ?_) (fun h3 => ?_)
      ·
        refine awp_skip ?_
        refine tn ?_
        refine sq ?_
        refine bk ?_
        refine sg ?_
        refine mv ?_
        refine as_ ?_
        refine rNil ?_
        refine rd mixO ?_
        refine mv ?_
        first | refine xf ?_ | refine xb ?_ | refine xoa ?_
        first | refine l1f ?_ | refine l1b ?_ | refine l1o ?_
        refine mv ?_
        first | refine ff ?_ | refine fb ?_ | refine fo ?_
        first | refine xf ?_ | refine xb ?_ | refine xoa ?_
        first | refine ff ?_ | refine fb ?_ | refine fo ?_
        first | refine l1f ?_ | refine l1b ?_ | refine l1o ?_
        refine cl (c38 _ _ _) ?_
        refine bo ?_
        first | refine xf ?_ | refine xb ?_ | refine xoa ?_
        first | refine s1 ?_ | refine s1w ?_
        refine rNil ⟨rfl, ?_⟩
        refine bn_ ?_
        refine tn ?_
        refine rg ?_
        refine bo ?_
        refine mv ?_
        refine rNil ?_
        refine tn ?_
        refine lr ?_
        refine sg ?_
        refine bo ?_
        refine rNil ?_
        refine sq ?_
        refine cn (fun h4 => ?_) (fun h4 => ?_)
        ·
          exact absurd h4 (by decide)
        ·
          refine awp_exit ?_
          refine te ?_
          refine te ?_
          refine xbk ?_
          refine tn ?_
          refine sq ?_
          refine sg ?_
          first | refine lAf ?_ | refine lAb ?_ | refine lAo ?_
          refine buA ?_
          refine eia ?_
          refine rNil ?_
          refine cn (fun h5 => ?_) (fun h5 => ?_)
          ·
            refine sg ?_
            first | refine lAf ?_ | refine lAb ?_ | refine lAo ?_
            refine cl (c62 (wn t px py) (wn_sm t px py)) ?_
            refine sA ?_
            refine rNil ?_
            refine awp_ret ?_
            refine tr ?_
            exact ⟨.inr rfl, _, (.cons (resC (by ((repeat apply Look.there rfl); exact Look.here)) (by exact rfl) (by exact rfl) (by ((repeat (apply All2.cons; first | exact .f (.v _) | exact .row rfl (by first | exact rfl | simp) | exact .f .nil | exact .f (.fro rfl (by first | exact rfl | simp)))); exact All2.nil))) .nil), by
              have h5 : (ps t px py).a = 0 ∧ (ps t px py).b = 0 ∧ (ps t px py).c = 0 := by simpa [ps] using h5
              rw [perF, if_pos (by omega)]; rfl⟩ -- LEAF 1: ret
          ·
            refine awp_skip ?_
            refine tn ?_
            refine sg ?_
            first | refine lAf ?_ | refine lAb ?_ | refine lAo ?_
            refine cl (c62 (ps t px py) (ps_sm t px py)) ?_
            refine sA ?_
            refine rNil ?_
            refine awp_ret ?_
            exact ⟨.inr rfl, _, (.cons (resC (by ((repeat apply Look.there rfl); exact Look.here)) (by exact rfl) (by exact rfl) (by ((repeat (apply All2.cons; first | exact .f (.v _) | exact .row rfl (by first | exact rfl | simp) | exact .f .nil | exact .f (.fro rfl (by first | exact rfl | simp)))); exact All2.nil))) .nil), by
              have h5 : ¬ ((ps t px py).a = 0 ∧ (ps t px py).b = 0 ∧ (ps t px py).c = 0) := by
                intro h6
                have h6 : (wn t px py).a * clamp t.v.a.w 0 16777216 = 0 ∧ (wn t px py).b * clamp t.v.b.w 0 16777216 = 0 ∧ (wn t px py).c * clamp t.v.c.w 0 16777216 = 0 := h6
                rw [h6.1, h6.2.1, h6.2.2] at h5
                cases h5
              have h6 := ps_sm t px py
              unfold Sm at h6
              rw [perF, if_neg (by omega)]; rfl⟩ -- LEAF 2: ret
      ·
        exact absurd h3 (by decide)
    ·
      exact absurd h2 (by decide)
  ·
    exact absurd h1 (by decide)

set_option maxHeartbeats 1000000 in
/-- frustum/frustumref37.Perspective -/
theorem c86 (t : Tri) (px py : Int) : Fn Try.prog 86 [A t, I px, I py] (.one (A (perF t px py))) := by
  refine fnI Try.func86 Try.ntmps86 fun hb => ?_
  have h := wn_bd t px py
  have p1 := pb h.1 (clamp_bd t.v.a.w (show (0:Int) ≤ 16777216 by decide))
  have p2 := pb h.2.1 (clamp_bd t.v.b.w (show (0:Int) ≤ 16777216 by decide))
  have p3 := pb h.2.2 (clamp_bd t.v.c.w (show (0:Int) ≤ 16777216 by decide))
  refine sg ?_
  refine bx _ ?_
  refine al _ ?_
  refine rNil ?_
  refine sq ?_
  refine sg ?_
  first | refine lAf ?_ | refine lAb ?_ | refine lAo ?_
  refine cl (c50 t) ?_
  refine nt ?_
  refine rNil ?_
  refine cn (fun h1 => ?_) (fun h1 => ?_)
  ·
    refine sg ?_
    refine buA ?_
    refine sA ?_
    refine rNil ?_
    refine awp_ret ?_
    refine tr ?_
    exact ⟨.inr rfl, _, (.cons (resC (by ((repeat apply Look.there rfl); exact Look.here)) (by exact rfl) (by exact rfl) (by ((repeat (apply All2.cons; first | exact .f (.v _) | exact .row rfl (by first | exact rfl | simp) | exact .f .nil | exact .f (.fro rfl (by first | exact rfl | simp)))); exact All2.nil))) .nil), by
      have e : wn t px py = ⟨0, 0, 0⟩ := wn_not (by simpa using h1) px py
      rw [perF, if_pos (by unfold ps; rw [e]; simp), e]; rfl⟩ -- LEAF 1: ret
  ·
    refine awp_skip ?_
    refine tn ?_
    refine sg ?_
    first | refine lAf ?_ | refine lAb ?_ | refine lAo ?_
    refine mv ?_
    refine mv ?_
    refine cl (c77 t px py) ?_
    refine al _ ?_
    refine sA ?_
    refine rNil ?_
    refine sg ?_
    refine al _ ?_
    refine rNil ?_
    refine sq ?_
    refine sg ?_
    refine as_ ?_
    refine rNil ?_
    refine bk ?_
    refine lu ?_
    refine lr ?_
    refine sq ?_
    refine sg ?_
    refine mv ?_
    refine bo ?_
    refine rNil ?_
    refine cn (fun h2 => ?_) (fun h2 => ?_)
    ·
      refine awp_skip ?_
      refine tn ?_
      refine sq ?_
      refine bk ?_
      refine rd mixO ?_
      refine mv ?_
      refine mv ?_
      first | refine xf ?_ | refine xb ?_ | refine xoa ?_
      first | refine l1f ?_ | refine l1b ?_ | refine l1o ?_
      refine mv ?_
      first | refine ff ?_ | refine fb ?_ | refine fo ?_
      first | refine xf ?_ | refine xb ?_ | refine xoa ?_
      first | refine ff ?_ | refine fb ?_ | refine fo ?_
      first | refine l1f ?_ | refine l1b ?_ | refine l1o ?_
      refine cl (c48 _ _ _) ?_
      refine bo ?_
      first | refine xf ?_ | refine xb ?_ | refine xoa ?_
      first | refine s1 ?_ | refine s1w ?_
      refine rNil ⟨rfl, ?_⟩
      refine bn_ ?_
      refine tn ?_
      refine rg ?_
      refine mv ?_
      refine bo ?_
      refine as_ ?_
      refine rNil ?_
      refine tn ?_
      refine lr ?_
      refine sq ?_
      refine sg ?_
      refine mv ?_
      refine bo ?_
      refine rNil ?_
      refine cn (fun h3 => ?_) (fun h3 => ?_)
      ·
        refine awp_skip ?_
        refine tn ?_
        refine sq ?_
        refine bk ?_
        refine rd mixO ?_
        refine mv ?_
        refine mv ?_
        first | refine xf ?_ | refine xb ?_ | refine xoa ?_
        first | refine l1f ?_ | refine l1b ?_ | refine l1o ?_
        refine mv ?_
        first | refine ff ?_ | refine fb ?_ | refine fo ?_
        first | refine xf ?_ | refine xb ?_ | refine xoa ?_
        first | refine ff ?_ | refine fb ?_ | refine fo ?_
        first | refine l1f ?_ | refine l1b ?_ | refine l1o ?_
        refine cl (c48 _ _ _) ?_
        refine bo ?_
        first | refine xf ?_ | refine xb ?_ | refine xoa ?_
        first | refine s1 ?_ | refine s1w ?_
        refine rNil ⟨rfl, ?_⟩
        refine bn_ ?_
        refine tn ?_
        refine rg ?_
        refine mv ?_
        refine bo ?_
        refine as_ ?_
        refine rNil ?_
        refine tn ?_
        refine lr ?_
        refine sq ?_
        refine sg ?_
        refine mv ?_
        refine bo ?_
        refine rNil ?_
        refine cn (fun h4 => ?_) (fun h4 => ?_)
        ·
          refine awp_skip ?_
          refine tn ?_
          refine sq ?_
          refine bk ?_
          refine rd mixO ?_
          refine mv ?_
          refine mv ?_
          first | refine xf ?_ | refine xb ?_ | refine xoa ?_
          first | refine l1f ?_ | refine l1b ?_ | refine l1o ?_
          refine mv ?_
          first | refine ff ?_ | refine fb ?_ | refine fo ?_
          first | refine xf ?_ | refine xb ?_ | refine xoa ?_
          first | refine ff ?_ | refine fb ?_ | refine fo ?_
          first | refine l1f ?_ | refine l1b ?_ | refine l1o ?_
          refine cl (c48 _ _ _) ?_
          refine bo ?_
          first | refine xf ?_ | refine xb ?_ | refine xoa ?_
          first | refine s1 ?_ | refine s1w ?_
          refine rNil ⟨rfl, ?_⟩
          refine bn_ ?_
          refine tn ?_
          refine rg ?_
          refine mv ?_
          refine bo ?_
          refine as_ ?_
          refine rNil ?_
          refine tn ?_
          refine lr ?_
          refine sq ?_
          refine sg ?_
          refine mv ?_
          refine bo ?_
          refine rNil ?_
          refine cn (fun h5 => ?_) (fun h5 => ?_)
          ·
            exact absurd h5 (by decide)
          ·
            refine awp_exit ?_
            refine te ?_
            refine te ?_
            refine xbk ?_
            refine tn ?_
            refine sq ?_
            refine sg ?_
            first | refine xf ?_ | refine xb ?_ | refine xoa ?_
            first | refine l1f ?_ | refine l1b ?_ | refine l1o ?_
            first | refine xf ?_ | refine xb ?_ | refine xoa ?_
            first | refine l1f ?_ | refine l1b ?_ | refine l1o ?_
            refine bo ?_
            first | refine xf ?_ | refine xb ?_ | refine xoa ?_
            first | refine l1f ?_ | refine l1b ?_ | refine l1o ?_
            refine bo ?_
            refine bo ?_
            refine rNil ?_
            refine cn (fun h6 => ?_) (fun h6 => ?_)
            ·
              refine sg ?_
              first | refine lAf ?_ | refine lAb ?_ | refine lAo ?_
              refine cl (c76 (wn t px py) (wn_sm t px py)) ?_
              refine sA ?_
              refine rNil ?_
              refine awp_ret ?_
              refine tr ?_
              exact ⟨.inr rfl, _, (.cons (resC (by ((repeat apply Look.there rfl); exact Look.here)) (by exact rfl) (by exact rfl) (by ((repeat (apply All2.cons; first | exact .f (.v _) | exact .row rfl (by first | exact rfl | simp) | exact .f .nil | exact .f (.fro rfl (by first | exact rfl | simp)))); exact All2.nil))) .nil), by
                have h5 : (ps t px py).a + (ps t px py).b + (ps t px py).c = 0 := by simpa [ps] using h6
                rw [perF, if_pos h5]; rfl⟩ -- LEAF 2: ret
            ·
              refine awp_skip ?_
              refine tn ?_
              refine sg ?_
              first | refine lAf ?_ | refine lAb ?_ | refine lAo ?_
              refine cl (c76 (ps t px py) (ps_sm t px py)) ?_
              refine sA ?_
              refine rNil ?_
              refine awp_ret ?_
              exact ⟨.inr rfl, _, (.cons (resC (by ((repeat apply Look.there rfl); exact Look.here)) (by exact rfl) (by exact rfl) (by ((repeat (apply All2.cons; first | exact .f (.v _) | exact .row rfl (by first | exact rfl | simp) | exact .f .nil | exact .f (.fro rfl (by first | exact rfl | simp)))); exact All2.nil))) .nil), by
                have h5 : ¬ (ps t px py).a + (ps t px py).b + (ps t px py).c = 0 := by simpa [ps] using h6
                rw [perF, if_neg h5]; rfl⟩ -- LEAF 3: ret
        ·
          exact absurd h4 (by decide)
      ·
        exact absurd h3 (by decide)
    ·
      exact absurd h2 (by decide)

end Go.Proofs.Ytlaaigljlhkdpaa.VS
