/- The walks of functions: what each computes, by itself. Conditions: none. -/
import Derived.Test.YtlmecogidnbpjaaF2
set_option linter.unusedVariables false
set_option linter.unusedSimpArgs false
namespace Go.Proofs.Ytlmecogidnbpjaa.VS
open Go
def dist (v : V) (k : Nat) : Int := if k = 0 then fsub v.w 256 else if k = 1 then fadd v.w v.x else if k = 2 then fsub v.w v.x else if k = 3 then fadd v.w v.y else if k = 4 then fsub v.w v.y else if k = 5 then sat v.z else if k = 6 then fsub v.w v.z else 0
/-- frustum/clip.planes$1 -/
theorem c96 (q : Q4) : Fn Try.prog 96 [A q] (.one (I (fsub q.w 256))) := by
  refine fnI Try.func96 Try.ntmps96 fun hb => ?_
  refine sg ?_
  refine bx _ ?_
  refine as_ ?_
  refine rNil ?_
  refine sg ?_
  first | refine ff ?_ | refine fb ?_ | refine fo ?_
  first | refine l1f ?_ | refine l1b ?_ | refine l1o ?_
  refine cl (c97 _ _) ?_
  refine as_ ?_
  refine rNil ?_
  refine awp_ret ?_
  exact ⟨.inr rfl, _, (.cons (by first | exact .v (by ((repeat apply Look.there rfl); exact Look.here)) (.f (.v _)) | exact .v (by ((repeat apply Look.there rfl); exact Look.here)) (.row rfl rfl) | exact .v (by ((repeat apply Look.there rfl); exact Look.here)) (.f .nil) | exact .a (by ((repeat apply Look.there rfl); exact Look.here)) | skip) .nil), rfl⟩ -- LEAF 1: ret

/-- frustum/clip.planes$2 -/
theorem c98 (q : Q4) : Fn Try.prog 98 [A q] (.one (I (fadd q.w q.x))) := by
  refine fnI Try.func98 Try.ntmps98 fun hb => ?_
  refine sg ?_
  refine bx _ ?_
  refine as_ ?_
  refine rNil ?_
  refine sg ?_
  first | refine ff ?_ | refine fb ?_ | refine fo ?_
  first | refine l1f ?_ | refine l1b ?_ | refine l1o ?_
  first | refine ff ?_ | refine fb ?_ | refine fo ?_
  first | refine l1f ?_ | refine l1b ?_ | refine l1o ?_
  refine cl (c68 _ _) ?_
  refine as_ ?_
  refine rNil ?_
  refine awp_ret ?_
  exact ⟨.inr rfl, _, (.cons (by first | exact .v (by ((repeat apply Look.there rfl); exact Look.here)) (.f (.v _)) | exact .v (by ((repeat apply Look.there rfl); exact Look.here)) (.row rfl rfl) | exact .v (by ((repeat apply Look.there rfl); exact Look.here)) (.f .nil) | exact .a (by ((repeat apply Look.there rfl); exact Look.here)) | skip) .nil), rfl⟩ -- LEAF 1: ret

/-- frustum/clip.planes$3 -/
theorem c99 (q : Q4) : Fn Try.prog 99 [A q] (.one (I (fsub q.w q.x))) := by
  refine fnI Try.func99 Try.ntmps99 fun hb => ?_
  refine sg ?_
  refine bx _ ?_
  refine as_ ?_
  refine rNil ?_
  refine sg ?_
  first | refine ff ?_ | refine fb ?_ | refine fo ?_
  first | refine l1f ?_ | refine l1b ?_ | refine l1o ?_
  first | refine ff ?_ | refine fb ?_ | refine fo ?_
  first | refine l1f ?_ | refine l1b ?_ | refine l1o ?_
  refine cl (c97 _ _) ?_
  refine as_ ?_
  refine rNil ?_
  refine awp_ret ?_
  exact ⟨.inr rfl, _, (.cons (by first | exact .v (by ((repeat apply Look.there rfl); exact Look.here)) (.f (.v _)) | exact .v (by ((repeat apply Look.there rfl); exact Look.here)) (.row rfl rfl) | exact .v (by ((repeat apply Look.there rfl); exact Look.here)) (.f .nil) | exact .a (by ((repeat apply Look.there rfl); exact Look.here)) | skip) .nil), rfl⟩ -- LEAF 1: ret

/-- frustum/clip.planes$4 -/
theorem c100 (q : Q4) : Fn Try.prog 100 [A q] (.one (I (fadd q.w q.y))) := by
  refine fnI Try.func100 Try.ntmps100 fun hb => ?_
  refine sg ?_
  refine bx _ ?_
  refine as_ ?_
  refine rNil ?_
  refine sg ?_
  first | refine ff ?_ | refine fb ?_ | refine fo ?_
  first | refine l1f ?_ | refine l1b ?_ | refine l1o ?_
  first | refine ff ?_ | refine fb ?_ | refine fo ?_
  first | refine l1f ?_ | refine l1b ?_ | refine l1o ?_
  refine cl (c68 _ _) ?_
  refine as_ ?_
  refine rNil ?_
  refine awp_ret ?_
  exact ⟨.inr rfl, _, (.cons (by first | exact .v (by ((repeat apply Look.there rfl); exact Look.here)) (.f (.v _)) | exact .v (by ((repeat apply Look.there rfl); exact Look.here)) (.row rfl rfl) | exact .v (by ((repeat apply Look.there rfl); exact Look.here)) (.f .nil) | exact .a (by ((repeat apply Look.there rfl); exact Look.here)) | skip) .nil), rfl⟩ -- LEAF 1: ret

/-- frustum/clip.planes$5 -/
theorem c101 (q : Q4) : Fn Try.prog 101 [A q] (.one (I (fsub q.w q.y))) := by
  refine fnI Try.func101 Try.ntmps101 fun hb => ?_
  refine sg ?_
  refine bx _ ?_
  refine as_ ?_
  refine rNil ?_
  refine sg ?_
  first | refine ff ?_ | refine fb ?_ | refine fo ?_
  first | refine l1f ?_ | refine l1b ?_ | refine l1o ?_
  first | refine ff ?_ | refine fb ?_ | refine fo ?_
  first | refine l1f ?_ | refine l1b ?_ | refine l1o ?_
  refine cl (c97 _ _) ?_
  refine as_ ?_
  refine rNil ?_
  refine awp_ret ?_
  exact ⟨.inr rfl, _, (.cons (by first | exact .v (by ((repeat apply Look.there rfl); exact Look.here)) (.f (.v _)) | exact .v (by ((repeat apply Look.there rfl); exact Look.here)) (.row rfl rfl) | exact .v (by ((repeat apply Look.there rfl); exact Look.here)) (.f .nil) | exact .a (by ((repeat apply Look.there rfl); exact Look.here)) | skip) .nil), rfl⟩ -- LEAF 1: ret

/-- frustum/clip.planes$6 -/
theorem c102 (q : Q4) : Fn Try.prog 102 [A q] (.one (I (sat q.z))) := by
  refine fnI Try.func102 Try.ntmps102 fun hb => ?_
  refine sg ?_
  refine bx _ ?_
  refine as_ ?_
  refine rNil ?_
  refine sg ?_
  first | refine ff ?_ | refine fb ?_ | refine fo ?_
  first | refine l1f ?_ | refine l1b ?_ | refine l1o ?_
  refine cl (c35 _) ?_
  refine as_ ?_
  refine rNil ?_
  refine awp_ret ?_
  exact ⟨.inr rfl, _, (.cons (by first | exact .v (by ((repeat apply Look.there rfl); exact Look.here)) (.f (.v _)) | exact .v (by ((repeat apply Look.there rfl); exact Look.here)) (.row rfl rfl) | exact .v (by ((repeat apply Look.there rfl); exact Look.here)) (.f .nil) | exact .a (by ((repeat apply Look.there rfl); exact Look.here)) | skip) .nil), rfl⟩ -- LEAF 1: ret

/-- frustum/clip.planes$7 -/
theorem c103 (q : Q4) : Fn Try.prog 103 [A q] (.one (I (fsub q.w q.z))) := by
  refine fnI Try.func103 Try.ntmps103 fun hb => ?_
  refine sg ?_
  refine bx _ ?_
  refine as_ ?_
  refine rNil ?_
  refine sg ?_
  first | refine ff ?_ | refine fb ?_ | refine fo ?_
  first | refine l1f ?_ | refine l1b ?_ | refine l1o ?_
  first | refine ff ?_ | refine fb ?_ | refine fo ?_
  first | refine l1f ?_ | refine l1b ?_ | refine l1o ?_
  refine cl (c97 _ _) ?_
  refine as_ ?_
  refine rNil ?_
  refine awp_ret ?_
  exact ⟨.inr rfl, _, (.cons (by first | exact .v (by ((repeat apply Look.there rfl); exact Look.here)) (.f (.v _)) | exact .v (by ((repeat apply Look.there rfl); exact Look.here)) (.row rfl rfl) | exact .v (by ((repeat apply Look.there rfl); exact Look.here)) (.f .nil) | exact .a (by ((repeat apply Look.there rfl); exact Look.here)) | skip) .nil), rfl⟩ -- LEAF 1: ret

def pls : List (List FV) := [[.fn 96], [.fn 98], [.fn 99], [.fn 100], [.fn 101], [.fn 102], [.fn 103]]
/-- frustum/clip.planes -/
theorem c63 : Fn Try.prog 63 [] (.one (.v (.sl pls))) := by
  refine fnI Try.func63 Try.ntmps63 fun hb => ?_
  refine sg ?_
  refine as_ ?_
  refine rNil ?_
  refine sg ?_
  refine bsZ ?_
  refine as_ ?_
  refine rNil ?_
  refine awp_ret ?_
  exact ⟨.inr rfl, _, (.cons (by first | exact .v (by ((repeat apply Look.there rfl); exact Look.here)) (.f (.v _)) | exact .v (by ((repeat apply Look.there rfl); exact Look.here)) (.row rfl rfl) | exact .v (by ((repeat apply Look.there rfl); exact Look.here)) (.f .nil) | exact .a (by ((repeat apply Look.there rfl); exact Look.here)) | skip) .nil), rfl⟩ -- LEAF 1: ret

/-- frustum/clip.Distance -/
theorem c114_0 (v : V) : Fn Try.prog 114 [A v, I 0] (.one (I (dist v 0))) := by
  refine fnI Try.func114 Try.ntmps114 fun hb => ?_
  refine sg ?_
  refine bx _ ?_
  refine as_ ?_
  refine rNil ?_
  refine sg ?_
  refine cl (c63) ?_
  refine as_ ?_
  refine rNil ?_
  refine sq ?_
  refine sg ?_
  refine mv ?_
  refine bo (hz := by exact rfl) ?_
  refine mv ?_
  refine gd (fun h1 => ?_) (fun h1 => ?_)
  ·
    exact absurd h1 (by decide) -- END
  ·
    refine mv ?_
    refine mv ?_
    first | refine lnM ?_ | refine ln ?_ | refine lnO ?_ | refine lnN ?_ | refine lnW ?_
    refine bo (hz := by exact rfl) ?_
    refine pkF ?_
    refine rNil ?_
    refine cn (fun h2 => ?_) (fun h2 => ?_)
    ·
      exact absurd h2 (by decide) -- END
    ·
      refine awp_skip ?_
      refine tn ?_
      refine sd mixO ?_
      refine mv ?_
      refine mv ?_
      first | refine xs_ ?_ | refine xo ?_ | refine xw ?_
      first | refine l1f ?_ | refine l1b ?_ | refine l1o ?_
      first | refine ff ?_ | refine fb ?_ | refine fo ?_
      first | refine lAf ?_ | refine lAb ?_ | refine lAo ?_
      refine cl (c96 v.pos) ?_
      refine as_ ?_
      refine rNil ⟨rfl, ?_⟩
      refine awp_ret ?_
      exact ⟨.inr rfl, _, (.cons (by first | exact .v (by ((repeat apply Look.there rfl); exact Look.here)) (.f (.v _)) | exact .v (by ((repeat apply Look.there rfl); exact Look.here)) (.row rfl rfl) | exact .v (by ((repeat apply Look.there rfl); exact Look.here)) (.f .nil) | exact .a (by ((repeat apply Look.there rfl); exact Look.here)) | skip) .nil), oneI (by simp [dist, V.pos])⟩ -- LEAF 1: ret

/-- frustum/clip.Distance -/
theorem c114_1 (v : V) : Fn Try.prog 114 [A v, I 1] (.one (I (dist v 1))) := by
  refine fnI Try.func114 Try.ntmps114 fun hb => ?_
  refine sg ?_
  refine bx _ ?_
  refine as_ ?_
  refine rNil ?_
  refine sg ?_
  refine cl (c63) ?_
  refine as_ ?_
  refine rNil ?_
  refine sq ?_
  refine sg ?_
  refine mv ?_
  refine bo (hz := by exact rfl) ?_
  refine mv ?_
  refine gd (fun h1 => ?_) (fun h1 => ?_)
  ·
    exact absurd h1 (by decide) -- END
  ·
    refine mv ?_
    refine mv ?_
    first | refine lnM ?_ | refine ln ?_ | refine lnO ?_ | refine lnN ?_ | refine lnW ?_
    refine bo (hz := by exact rfl) ?_
    refine pkF ?_
    refine rNil ?_
    refine cn (fun h2 => ?_) (fun h2 => ?_)
    ·
      exact absurd h2 (by decide) -- END
    ·
      refine awp_skip ?_
      refine tn ?_
      refine sd mixO ?_
      refine mv ?_
      refine mv ?_
      first | refine xs_ ?_ | refine xo ?_ | refine xw ?_
      first | refine l1f ?_ | refine l1b ?_ | refine l1o ?_
      first | refine ff ?_ | refine fb ?_ | refine fo ?_
      first | refine lAf ?_ | refine lAb ?_ | refine lAo ?_
      refine cl (c98 v.pos) ?_
      refine as_ ?_
      refine rNil ⟨rfl, ?_⟩
      refine awp_ret ?_
      exact ⟨.inr rfl, _, (.cons (by first | exact .v (by ((repeat apply Look.there rfl); exact Look.here)) (.f (.v _)) | exact .v (by ((repeat apply Look.there rfl); exact Look.here)) (.row rfl rfl) | exact .v (by ((repeat apply Look.there rfl); exact Look.here)) (.f .nil) | exact .a (by ((repeat apply Look.there rfl); exact Look.here)) | skip) .nil), oneI (by simp [dist, V.pos])⟩ -- LEAF 1: ret

/-- frustum/clip.Distance -/
theorem c114_2 (v : V) : Fn Try.prog 114 [A v, I 2] (.one (I (dist v 2))) := by
  refine fnI Try.func114 Try.ntmps114 fun hb => ?_
  refine sg ?_
  refine bx _ ?_
  refine as_ ?_
  refine rNil ?_
  refine sg ?_
  refine cl (c63) ?_
  refine as_ ?_
  refine rNil ?_
  refine sq ?_
  refine sg ?_
  refine mv ?_
  refine bo (hz := by exact rfl) ?_
  refine mv ?_
  refine gd (fun h1 => ?_) (fun h1 => ?_)
  ·
    exact absurd h1 (by decide) -- END
  ·
    refine mv ?_
    refine mv ?_
    first | refine lnM ?_ | refine ln ?_ | refine lnO ?_ | refine lnN ?_ | refine lnW ?_
    refine bo (hz := by exact rfl) ?_
    refine pkF ?_
    refine rNil ?_
    refine cn (fun h2 => ?_) (fun h2 => ?_)
    ·
      exact absurd h2 (by decide) -- END
    ·
      refine awp_skip ?_
      refine tn ?_
      refine sd mixO ?_
      refine mv ?_
      refine mv ?_
      first | refine xs_ ?_ | refine xo ?_ | refine xw ?_
      first | refine l1f ?_ | refine l1b ?_ | refine l1o ?_
      first | refine ff ?_ | refine fb ?_ | refine fo ?_
      first | refine lAf ?_ | refine lAb ?_ | refine lAo ?_
      refine cl (c99 v.pos) ?_
      refine as_ ?_
      refine rNil ⟨rfl, ?_⟩
      refine awp_ret ?_
      exact ⟨.inr rfl, _, (.cons (by first | exact .v (by ((repeat apply Look.there rfl); exact Look.here)) (.f (.v _)) | exact .v (by ((repeat apply Look.there rfl); exact Look.here)) (.row rfl rfl) | exact .v (by ((repeat apply Look.there rfl); exact Look.here)) (.f .nil) | exact .a (by ((repeat apply Look.there rfl); exact Look.here)) | skip) .nil), oneI (by simp [dist, V.pos])⟩ -- LEAF 1: ret

/-- frustum/clip.Distance -/
theorem c114_3 (v : V) : Fn Try.prog 114 [A v, I 3] (.one (I (dist v 3))) := by
  refine fnI Try.func114 Try.ntmps114 fun hb => ?_
  refine sg ?_
  refine bx _ ?_
  refine as_ ?_
  refine rNil ?_
  refine sg ?_
  refine cl (c63) ?_
  refine as_ ?_
  refine rNil ?_
  refine sq ?_
  refine sg ?_
  refine mv ?_
  refine bo (hz := by exact rfl) ?_
  refine mv ?_
  refine gd (fun h1 => ?_) (fun h1 => ?_)
  ·
    exact absurd h1 (by decide) -- END
  ·
    refine mv ?_
    refine mv ?_
    first | refine lnM ?_ | refine ln ?_ | refine lnO ?_ | refine lnN ?_ | refine lnW ?_
    refine bo (hz := by exact rfl) ?_
    refine pkF ?_
    refine rNil ?_
    refine cn (fun h2 => ?_) (fun h2 => ?_)
    ·
      exact absurd h2 (by decide) -- END
    ·
      refine awp_skip ?_
      refine tn ?_
      refine sd mixO ?_
      refine mv ?_
      refine mv ?_
      first | refine xs_ ?_ | refine xo ?_ | refine xw ?_
      first | refine l1f ?_ | refine l1b ?_ | refine l1o ?_
      first | refine ff ?_ | refine fb ?_ | refine fo ?_
      first | refine lAf ?_ | refine lAb ?_ | refine lAo ?_
      refine cl (c100 v.pos) ?_
      refine as_ ?_
      refine rNil ⟨rfl, ?_⟩
      refine awp_ret ?_
      exact ⟨.inr rfl, _, (.cons (by first | exact .v (by ((repeat apply Look.there rfl); exact Look.here)) (.f (.v _)) | exact .v (by ((repeat apply Look.there rfl); exact Look.here)) (.row rfl rfl) | exact .v (by ((repeat apply Look.there rfl); exact Look.here)) (.f .nil) | exact .a (by ((repeat apply Look.there rfl); exact Look.here)) | skip) .nil), oneI (by simp [dist, V.pos])⟩ -- LEAF 1: ret

/-- frustum/clip.Distance -/
theorem c114_4 (v : V) : Fn Try.prog 114 [A v, I 4] (.one (I (dist v 4))) := by
  refine fnI Try.func114 Try.ntmps114 fun hb => ?_
  refine sg ?_
  refine bx _ ?_
  refine as_ ?_
  refine rNil ?_
  refine sg ?_
  refine cl (c63) ?_
  refine as_ ?_
  refine rNil ?_
  refine sq ?_
  refine sg ?_
  refine mv ?_
  refine bo (hz := by exact rfl) ?_
  refine mv ?_
  refine gd (fun h1 => ?_) (fun h1 => ?_)
  ·
    exact absurd h1 (by decide) -- END
  ·
    refine mv ?_
    refine mv ?_
    first | refine lnM ?_ | refine ln ?_ | refine lnO ?_ | refine lnN ?_ | refine lnW ?_
    refine bo (hz := by exact rfl) ?_
    refine pkF ?_
    refine rNil ?_
    refine cn (fun h2 => ?_) (fun h2 => ?_)
    ·
      exact absurd h2 (by decide) -- END
    ·
      refine awp_skip ?_
      refine tn ?_
      refine sd mixO ?_
      refine mv ?_
      refine mv ?_
      first | refine xs_ ?_ | refine xo ?_ | refine xw ?_
      first | refine l1f ?_ | refine l1b ?_ | refine l1o ?_
      first | refine ff ?_ | refine fb ?_ | refine fo ?_
      first | refine lAf ?_ | refine lAb ?_ | refine lAo ?_
      refine cl (c101 v.pos) ?_
      refine as_ ?_
      refine rNil ⟨rfl, ?_⟩
      refine awp_ret ?_
      exact ⟨.inr rfl, _, (.cons (by first | exact .v (by ((repeat apply Look.there rfl); exact Look.here)) (.f (.v _)) | exact .v (by ((repeat apply Look.there rfl); exact Look.here)) (.row rfl rfl) | exact .v (by ((repeat apply Look.there rfl); exact Look.here)) (.f .nil) | exact .a (by ((repeat apply Look.there rfl); exact Look.here)) | skip) .nil), oneI (by simp [dist, V.pos])⟩ -- LEAF 1: ret

/-- frustum/clip.Distance -/
theorem c114_5 (v : V) : Fn Try.prog 114 [A v, I 5] (.one (I (dist v 5))) := by
  refine fnI Try.func114 Try.ntmps114 fun hb => ?_
  refine sg ?_
  refine bx _ ?_
  refine as_ ?_
  refine rNil ?_
  refine sg ?_
  refine cl (c63) ?_
  refine as_ ?_
  refine rNil ?_
  refine sq ?_
  refine sg ?_
  refine mv ?_
  refine bo (hz := by exact rfl) ?_
  refine mv ?_
  refine gd (fun h1 => ?_) (fun h1 => ?_)
  ·
    exact absurd h1 (by decide) -- END
  ·
    refine mv ?_
    refine mv ?_
    first | refine lnM ?_ | refine ln ?_ | refine lnO ?_ | refine lnN ?_ | refine lnW ?_
    refine bo (hz := by exact rfl) ?_
    refine pkF ?_
    refine rNil ?_
    refine cn (fun h2 => ?_) (fun h2 => ?_)
    ·
      exact absurd h2 (by decide) -- END
    ·
      refine awp_skip ?_
      refine tn ?_
      refine sd mixO ?_
      refine mv ?_
      refine mv ?_
      first | refine xs_ ?_ | refine xo ?_ | refine xw ?_
      first | refine l1f ?_ | refine l1b ?_ | refine l1o ?_
      first | refine ff ?_ | refine fb ?_ | refine fo ?_
      first | refine lAf ?_ | refine lAb ?_ | refine lAo ?_
      refine cl (c102 v.pos) ?_
      refine as_ ?_
      refine rNil ⟨rfl, ?_⟩
      refine awp_ret ?_
      exact ⟨.inr rfl, _, (.cons (by first | exact .v (by ((repeat apply Look.there rfl); exact Look.here)) (.f (.v _)) | exact .v (by ((repeat apply Look.there rfl); exact Look.here)) (.row rfl rfl) | exact .v (by ((repeat apply Look.there rfl); exact Look.here)) (.f .nil) | exact .a (by ((repeat apply Look.there rfl); exact Look.here)) | skip) .nil), oneI (by simp [dist, V.pos])⟩ -- LEAF 1: ret

/-- frustum/clip.Distance -/
theorem c114_6 (v : V) : Fn Try.prog 114 [A v, I 6] (.one (I (dist v 6))) := by
  refine fnI Try.func114 Try.ntmps114 fun hb => ?_
  refine sg ?_
  refine bx _ ?_
  refine as_ ?_
  refine rNil ?_
  refine sg ?_
  refine cl (c63) ?_
  refine as_ ?_
  refine rNil ?_
  refine sq ?_
  refine sg ?_
  refine mv ?_
  refine bo (hz := by exact rfl) ?_
  refine mv ?_
  refine gd (fun h1 => ?_) (fun h1 => ?_)
  ·
    exact absurd h1 (by decide) -- END
  ·
    refine mv ?_
    refine mv ?_
    first | refine lnM ?_ | refine ln ?_ | refine lnO ?_ | refine lnN ?_ | refine lnW ?_
    refine bo (hz := by exact rfl) ?_
    refine pkF ?_
    refine rNil ?_
    refine cn (fun h2 => ?_) (fun h2 => ?_)
    ·
      exact absurd h2 (by decide) -- END
    ·
      refine awp_skip ?_
      refine tn ?_
      refine sd mixO ?_
      refine mv ?_
      refine mv ?_
      first | refine xs_ ?_ | refine xo ?_ | refine xw ?_
      first | refine l1f ?_ | refine l1b ?_ | refine l1o ?_
      first | refine ff ?_ | refine fb ?_ | refine fo ?_
      first | refine lAf ?_ | refine lAb ?_ | refine lAo ?_
      refine cl (c103 v.pos) ?_
      refine as_ ?_
      refine rNil ⟨rfl, ?_⟩
      refine awp_ret ?_
      exact ⟨.inr rfl, _, (.cons (by first | exact .v (by ((repeat apply Look.there rfl); exact Look.here)) (.f (.v _)) | exact .v (by ((repeat apply Look.there rfl); exact Look.here)) (.row rfl rfl) | exact .v (by ((repeat apply Look.there rfl); exact Look.here)) (.f .nil) | exact .a (by ((repeat apply Look.there rfl); exact Look.here)) | skip) .nil), oneI (by simp [dist, V.pos])⟩ -- LEAF 1: ret

theorem c114 (v : V) (k : Nat) (hk : k < 7) : Fn Try.prog 114 [A v, I k] (.one (I (dist v k))) := by
  rcases (show k = 0 ∨ k = 1 ∨ k = 2 ∨ k = 3 ∨ k = 4 ∨ k = 5 ∨ k = 6 by omega) with h | h | h | h | h | h | h <;> subst h
  · exact c114_0 v
  · exact c114_1 v
  · exact c114_2 v
  · exact c114_3 v
  · exact c114_4 v
  · exact c114_5 v
  · exact c114_6 v
/-- frustum/frustumref31.Distance -/
theorem c122 (v : V) (k : Nat) : Fn Try.prog 122 [A v, I k] (.one (I (dist v k))) := by
  refine fnI Try.func122 Try.ntmps122 fun hb => ?_
  refine sg ?_
  refine bx _ ?_
  refine as_ ?_
  refine rNil ?_
  refine sg ?_
  first | refine ff ?_ | refine fb ?_ | refine fo ?_
  first | refine lAf ?_ | refine lAb ?_ | refine lAo ?_
  refine al _ ?_
  refine sA ?_
  refine rNil ?_
  refine sq ?_
  refine sg ?_
  refine mv ?_
  refine rNil ?_
  refine bk ?_
  refine sg ?_
  refine bo (hz := by exact rfl) ?_
  refine as_ ?_
  refine rNil ?_
  refine cn (fun h1 => ?_) (fun h1 => ?_)
  ·
    refine sg ?_
    first | refine ff ?_ | refine fb ?_ | refine fo ?_
    first | refine l1f ?_ | refine l1b ?_ | refine l1o ?_
    refine cl (c126 _ _) ?_
    refine as_ ?_
    refine rNil ?_
    refine awp_ret ?_
    refine br ?_
    refine tr ?_
    exact ⟨.inr rfl, _, (.cons (by first | exact .v (by ((repeat apply Look.there rfl); exact Look.here)) (.f (.v _)) | exact .v (by ((repeat apply Look.there rfl); exact Look.here)) (.row rfl rfl) | exact .v (by ((repeat apply Look.there rfl); exact Look.here)) (.f .nil) | exact .a (by ((repeat apply Look.there rfl); exact Look.here)) | skip) .nil), oneI (by simp only [beq_iff_eq, beq_eq_false_iff_ne, ne_eq] at *; unfold dist; repeat (first | rfl | omega | (split; rfl) | (split; omega) | split))⟩ -- LEAF 1: ret
  ·
    refine sg ?_
    refine bo (hz := by exact rfl) ?_
    refine as_ ?_
    refine rNil ?_
    refine cn (fun h2 => ?_) (fun h2 => ?_)
    ·
      refine sg ?_
      first | refine ff ?_ | refine fb ?_ | refine fo ?_
      first | refine l1f ?_ | refine l1b ?_ | refine l1o ?_
      first | refine ff ?_ | refine fb ?_ | refine fo ?_
      first | refine l1f ?_ | refine l1b ?_ | refine l1o ?_
      refine cl (c76 _ _) ?_
      refine as_ ?_
      refine rNil ?_
      refine awp_ret ?_
      refine br ?_
      refine tr ?_
      exact ⟨.inr rfl, _, (.cons (by first | exact .v (by ((repeat apply Look.there rfl); exact Look.here)) (.f (.v _)) | exact .v (by ((repeat apply Look.there rfl); exact Look.here)) (.row rfl rfl) | exact .v (by ((repeat apply Look.there rfl); exact Look.here)) (.f .nil) | exact .a (by ((repeat apply Look.there rfl); exact Look.here)) | skip) .nil), oneI (by simp only [beq_iff_eq, beq_eq_false_iff_ne, ne_eq] at *; unfold dist; repeat (first | rfl | omega | (split; rfl) | (split; omega) | split))⟩ -- LEAF 2: ret
    ·
      refine sg ?_
      refine bo (hz := by exact rfl) ?_
      refine as_ ?_
      refine rNil ?_
      refine cn (fun h3 => ?_) (fun h3 => ?_)
      ·
        refine sg ?_
        first | refine ff ?_ | refine fb ?_ | refine fo ?_
        first | refine l1f ?_ | refine l1b ?_ | refine l1o ?_
        first | refine ff ?_ | refine fb ?_ | refine fo ?_
        first | refine l1f ?_ | refine l1b ?_ | refine l1o ?_
        refine cl (c126 _ _) ?_
        refine as_ ?_
        refine rNil ?_
        refine awp_ret ?_
        refine br ?_
        refine tr ?_
        exact ⟨.inr rfl, _, (.cons (by first | exact .v (by ((repeat apply Look.there rfl); exact Look.here)) (.f (.v _)) | exact .v (by ((repeat apply Look.there rfl); exact Look.here)) (.row rfl rfl) | exact .v (by ((repeat apply Look.there rfl); exact Look.here)) (.f .nil) | exact .a (by ((repeat apply Look.there rfl); exact Look.here)) | skip) .nil), oneI (by simp only [beq_iff_eq, beq_eq_false_iff_ne, ne_eq] at *; unfold dist; repeat (first | rfl | omega | (split; rfl) | (split; omega) | split))⟩ -- LEAF 3: ret
      ·
        refine sg ?_
        refine bo (hz := by exact rfl) ?_
        refine as_ ?_
        refine rNil ?_
        refine cn (fun h4 => ?_) (fun h4 => ?_)
        ·
          refine sg ?_
          first | refine ff ?_ | refine fb ?_ | refine fo ?_
          first | refine l1f ?_ | refine l1b ?_ | refine l1o ?_
          first | refine ff ?_ | refine fb ?_ | refine fo ?_
          first | refine l1f ?_ | refine l1b ?_ | refine l1o ?_
          refine cl (c76 _ _) ?_
          refine as_ ?_
          refine rNil ?_
          refine awp_ret ?_
          refine br ?_
          refine tr ?_
          exact ⟨.inr rfl, _, (.cons (by first | exact .v (by ((repeat apply Look.there rfl); exact Look.here)) (.f (.v _)) | exact .v (by ((repeat apply Look.there rfl); exact Look.here)) (.row rfl rfl) | exact .v (by ((repeat apply Look.there rfl); exact Look.here)) (.f .nil) | exact .a (by ((repeat apply Look.there rfl); exact Look.here)) | skip) .nil), oneI (by simp only [beq_iff_eq, beq_eq_false_iff_ne, ne_eq] at *; unfold dist; repeat (first | rfl | omega | (split; rfl) | (split; omega) | split))⟩ -- LEAF 4: ret
        ·
          refine sg ?_
          refine bo (hz := by exact rfl) ?_
          refine as_ ?_
          refine rNil ?_
          refine cn (fun h5 => ?_) (fun h5 => ?_)
          ·
            refine sg ?_
            first | refine ff ?_ | refine fb ?_ | refine fo ?_
            first | refine l1f ?_ | refine l1b ?_ | refine l1o ?_
            first | refine ff ?_ | refine fb ?_ | refine fo ?_
            first | refine l1f ?_ | refine l1b ?_ | refine l1o ?_
            refine cl (c126 _ _) ?_
            refine as_ ?_
            refine rNil ?_
            refine awp_ret ?_
            refine br ?_
            refine tr ?_
            exact ⟨.inr rfl, _, (.cons (by first | exact .v (by ((repeat apply Look.there rfl); exact Look.here)) (.f (.v _)) | exact .v (by ((repeat apply Look.there rfl); exact Look.here)) (.row rfl rfl) | exact .v (by ((repeat apply Look.there rfl); exact Look.here)) (.f .nil) | exact .a (by ((repeat apply Look.there rfl); exact Look.here)) | skip) .nil), oneI (by simp only [beq_iff_eq, beq_eq_false_iff_ne, ne_eq] at *; unfold dist; repeat (first | rfl | omega | (split; rfl) | (split; omega) | split))⟩ -- LEAF 5: ret
          ·
            refine sg ?_
            refine bo (hz := by exact rfl) ?_
            refine as_ ?_
            refine rNil ?_
            refine cn (fun h6 => ?_) (fun h6 => ?_)
            ·
              refine sg ?_
              first | refine ff ?_ | refine fb ?_ | refine fo ?_
              first | refine l1f ?_ | refine l1b ?_ | refine l1o ?_
              refine cl (c46 _) ?_
              refine as_ ?_
              refine rNil ?_
              refine awp_ret ?_
              refine br ?_
              refine tr ?_
              exact ⟨.inr rfl, _, (.cons (by first | exact .v (by ((repeat apply Look.there rfl); exact Look.here)) (.f (.v _)) | exact .v (by ((repeat apply Look.there rfl); exact Look.here)) (.row rfl rfl) | exact .v (by ((repeat apply Look.there rfl); exact Look.here)) (.f .nil) | exact .a (by ((repeat apply Look.there rfl); exact Look.here)) | skip) .nil), oneI (by simp only [beq_iff_eq, beq_eq_false_iff_ne, ne_eq] at *; unfold dist; repeat (first | rfl | omega | (split; rfl) | (split; omega) | split))⟩ -- LEAF 6: ret
            ·
              refine sg ?_
              refine bo (hz := by exact rfl) ?_
              refine as_ ?_
              refine rNil ?_
              refine cn (fun h7 => ?_) (fun h7 => ?_)
              ·
                refine sg ?_
                first | refine ff ?_ | refine fb ?_ | refine fo ?_
                first | refine l1f ?_ | refine l1b ?_ | refine l1o ?_
                first | refine ff ?_ | refine fb ?_ | refine fo ?_
                first | refine l1f ?_ | refine l1b ?_ | refine l1o ?_
                refine cl (c126 _ _) ?_
                refine as_ ?_
                refine rNil ?_
                refine awp_ret ?_
                refine br ?_
                refine tr ?_
                exact ⟨.inr rfl, _, (.cons (by first | exact .v (by ((repeat apply Look.there rfl); exact Look.here)) (.f (.v _)) | exact .v (by ((repeat apply Look.there rfl); exact Look.here)) (.row rfl rfl) | exact .v (by ((repeat apply Look.there rfl); exact Look.here)) (.f .nil) | exact .a (by ((repeat apply Look.there rfl); exact Look.here)) | skip) .nil), oneI (by simp only [beq_iff_eq, beq_eq_false_iff_ne, ne_eq] at *; unfold dist; repeat (first | rfl | omega | (split; rfl) | (split; omega) | split))⟩ -- LEAF 7: ret
              ·
                refine awp_skip ?_
                refine bn_ ?_
                refine tn ?_
                refine sg ?_
                refine as_ ?_
                refine rNil ?_
                refine awp_ret ?_
                exact ⟨.inr rfl, _, (.cons (by first | exact .v (by ((repeat apply Look.there rfl); exact Look.here)) (.f (.v _)) | exact .v (by ((repeat apply Look.there rfl); exact Look.here)) (.row rfl rfl) | exact .v (by ((repeat apply Look.there rfl); exact Look.here)) (.f .nil) | exact .a (by ((repeat apply Look.there rfl); exact Look.here)) | skip) .nil), oneI (by simp only [beq_iff_eq, beq_eq_false_iff_ne, ne_eq] at *; unfold dist; repeat (first | rfl | omega | (split; rfl) | (split; omega) | split))⟩ -- LEAF 8: ret

/-- frustum/frustumref31.within -/
theorem c116 (v : V) (k : Nat) : Fn Try.prog 116 [A v, I k] (.one (B (decide (dist v k ≥ 0)))) := by
  refine fnI Try.func116 Try.ntmps116 fun hb => ?_
  refine sg ?_
  refine bx _ ?_
  refine as_ ?_
  refine rNil ?_
  refine sg ?_
  first | refine lAf ?_ | refine lAb ?_ | refine lAo ?_
  refine mv ?_
  refine cl (c122 v k) ?_
  refine bo (hz := by exact rfl) ?_
  refine as_ ?_
  refine rNil ?_
  refine awp_ret ?_
  exact ⟨.inr rfl, _, (.cons (by first | exact .v (by ((repeat apply Look.there rfl); exact Look.here)) (.f (.v _)) | exact .v (by ((repeat apply Look.there rfl); exact Look.here)) (.row rfl rfl) | exact .v (by ((repeat apply Look.there rfl); exact Look.here)) (.f .nil) | exact .a (by ((repeat apply Look.there rfl); exact Look.here)) | skip) .nil), rfl⟩ -- LEAF 1: ret

def lerp (a b t : Int) : Int := fadd a (fmul (fsub b a) (clamp t 0 65536))
def lerpQ (a b : V) (t : Int) : Q4 := ⟨lerp a.x b.x t, lerp a.y b.y t, lerp a.z b.z t, lerp a.w b.w t⟩
/-- frustum/fixed.Lerp -/
theorem c121 (a b t : Int) : Fn Try.prog 121 [I a, I b, I t] (.one (I (lerp a b t))) := by
  refine fnI Try.func121 Try.ntmps121 fun hb => ?_
  refine sg ?_
  refine as_ ?_
  refine rNil ?_
  refine sg ?_
  refine mv ?_
  refine mv ?_
  refine mv ?_
  refine cl (c97 _ _) ?_
  refine mv ?_
  refine cl (c66 _ _ _) ?_
  refine cl (c69 _ _) ?_
  refine cl (c68 _ _) ?_
  refine as_ ?_
  refine rNil ?_
  refine awp_ret ?_
  exact ⟨.inr rfl, _, (.cons (by first | exact .v (by ((repeat apply Look.there rfl); exact Look.here)) (.f (.v _)) | exact .v (by ((repeat apply Look.there rfl); exact Look.here)) (.row rfl rfl) | exact .v (by ((repeat apply Look.there rfl); exact Look.here)) (.f .nil) | exact .a (by ((repeat apply Look.there rfl); exact Look.here)) | skip) .nil), rfl⟩ -- LEAF 1: ret

/-- frustum/frustumref01.Lerp -/
theorem c125 (a b t : Int) : Fn Try.prog 125 [I a, I b, I t] (.one (I (lerp a b t))) := by
  refine fnI Try.func125 Try.ntmps125 fun hb => ?_
  refine sg ?_
  refine as_ ?_
  refine rNil ?_
  refine sg ?_
  refine mv ?_
  refine mv ?_
  refine mv ?_
  refine cl (c126 _ _) ?_
  refine mv ?_
  refine cl (c74 _ _ _) ?_
  refine cl (c77 _ _) ?_
  refine cl (c76 _ _) ?_
  refine as_ ?_
  refine rNil ?_
  refine awp_ret ?_
  exact ⟨.inr rfl, _, (.cons (by first | exact .v (by ((repeat apply Look.there rfl); exact Look.here)) (.f (.v _)) | exact .v (by ((repeat apply Look.there rfl); exact Look.here)) (.row rfl rfl) | exact .v (by ((repeat apply Look.there rfl); exact Look.here)) (.f .nil) | exact .a (by ((repeat apply Look.there rfl); exact Look.here)) | skip) .nil), rfl⟩ -- LEAF 1: ret

/-- frustum/vec.Lerp -/
theorem c120 (a b : V) (t : Int) : Fn Try.prog 120 [A a.pos, A b.pos, I t] (.one (A (lerpQ a b t))) := by
  refine fnI Try.func120 Try.ntmps120 fun hb => ?_
  refine sg ?_
  refine bx _ ?_
  refine bx _ ?_
  refine al _ ?_
  refine rNil ?_
  refine sd mixO ?_
  first | refine ff ?_ | refine fb ?_ | refine fo ?_
  first | refine l1f ?_ | refine l1b ?_ | refine l1o ?_
  first | refine ff ?_ | refine fb ?_ | refine fo ?_
  first | refine l1f ?_ | refine l1b ?_ | refine l1o ?_
  refine mv ?_
  refine cl (c121 _ _ _) ?_
  first | refine ff ?_ | refine fb ?_ | refine fo ?_
  first | refine l1f ?_ | refine l1b ?_ | refine l1o ?_
  first | refine ff ?_ | refine fb ?_ | refine fo ?_
  first | refine l1f ?_ | refine l1b ?_ | refine l1o ?_
  refine mv ?_
  refine cl (c121 _ _ _) ?_
  first | refine ff ?_ | refine fb ?_ | refine fo ?_
  first | refine l1f ?_ | refine l1b ?_ | refine l1o ?_
  first | refine ff ?_ | refine fb ?_ | refine fo ?_
  first | refine l1f ?_ | refine l1b ?_ | refine l1o ?_
  refine mv ?_
  refine cl (c121 _ _ _) ?_
  first | refine ff ?_ | refine fb ?_ | refine fo ?_
  first | refine l1f ?_ | refine l1b ?_ | refine l1o ?_
  first | refine ff ?_ | refine fb ?_ | refine fo ?_
  first | refine l1f ?_ | refine l1b ?_ | refine l1o ?_
  refine mv ?_
  refine cl (c121 _ _ _) ?_
  refine buS ?_
  refine sA ?_
  refine rNil ⟨rfl, ?_⟩
  refine awp_ret ?_
  exact ⟨.inr rfl, _, (.cons (resC (by ((repeat apply Look.there rfl); exact Look.here)) (by exact rfl) (by exact rfl) (by ((repeat (apply All2.cons; first | exact .f (.v _) | exact .row rfl (by first | exact rfl | simp) | exact .f .nil | exact .f (.fro rfl (by first | exact rfl | simp)))); exact All2.nil))) .nil), rfl⟩ -- LEAF 1: ret

/-- frustum/frustumref03.Lerp -/
theorem c124 (a b : V) (t : Int) : Fn Try.prog 124 [A a.pos, A b.pos, I t] (.one (A (lerpQ a b t))) := by
  refine fnI Try.func124 Try.ntmps124 fun hb => ?_
  refine sg ?_
  refine bx _ ?_
  refine bx _ ?_
  refine al _ ?_
  refine rNil ?_
  refine sd mixO ?_
  first | refine ff ?_ | refine fb ?_ | refine fo ?_
  first | refine l1f ?_ | refine l1b ?_ | refine l1o ?_
  first | refine ff ?_ | refine fb ?_ | refine fo ?_
  first | refine l1f ?_ | refine l1b ?_ | refine l1o ?_
  refine mv ?_
  refine cl (c125 _ _ _) ?_
  first | refine ff ?_ | refine fb ?_ | refine fo ?_
  first | refine l1f ?_ | refine l1b ?_ | refine l1o ?_
  first | refine ff ?_ | refine fb ?_ | refine fo ?_
  first | refine l1f ?_ | refine l1b ?_ | refine l1o ?_
  refine mv ?_
  refine cl (c125 _ _ _) ?_
  first | refine ff ?_ | refine fb ?_ | refine fo ?_
  first | refine l1f ?_ | refine l1b ?_ | refine l1o ?_
  first | refine ff ?_ | refine fb ?_ | refine fo ?_
  first | refine l1f ?_ | refine l1b ?_ | refine l1o ?_
  refine mv ?_
  refine cl (c125 _ _ _) ?_
  first | refine ff ?_ | refine fb ?_ | refine fo ?_
  first | refine l1f ?_ | refine l1b ?_ | refine l1o ?_
  first | refine ff ?_ | refine fb ?_ | refine fo ?_
  first | refine l1f ?_ | refine l1b ?_ | refine l1o ?_
  refine mv ?_
  refine cl (c125 _ _ _) ?_
  refine buS ?_
  refine sA ?_
  refine rNil ⟨rfl, ?_⟩
  refine awp_ret ?_
  exact ⟨.inr rfl, _, (.cons (resC (by ((repeat apply Look.there rfl); exact Look.here)) (by exact rfl) (by exact rfl) (by ((repeat (apply All2.cons; first | exact .f (.v _) | exact .row rfl (by first | exact rfl | simp) | exact .f .nil | exact .f (.fro rfl (by first | exact rfl | simp)))); exact All2.nil))) .nil), rfl⟩ -- LEAF 1: ret

end Go.Proofs.Ytlmecogidnbpjaa.VS
