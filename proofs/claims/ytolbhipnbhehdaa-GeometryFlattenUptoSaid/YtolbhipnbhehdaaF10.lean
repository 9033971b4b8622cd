/- The walks of functions: what each computes, by itself. Conditions: none. -/
import Derived.Test.YtolbhipnbhehdaaF9
set_option linter.unusedVariables false
set_option linter.unusedSimpArgs false
namespace Go.Proofs.Ytolbhipnbhehdaa.VS
open Go
abbrev r0 : LR := ⟨[], false, [[0, 0, 0, 1], [1, 0, 0, 1], [0, 1, 0, 1, 9], [1, 1, 0, 1]], [3]⟩
abbrev s0 : List (List V) := [[⟨0, 0, 0, 1, []⟩, ⟨1, 0, 0, 1, []⟩, ⟨0, 1, 0, 1, [9]⟩], [⟨1, 1, 0, 1, []⟩]]
theorem strips_r0 : strips r0 = s0 := rfl
theorem r0_small : Small r0 := ⟨by decide, by decide, by decide⟩
theorem exp_r0 : (expandL (strips r0)).length = 1 := rfl
theorem ampl_r0 : ampl [r0, r0] = 2 := rfl
/-- frustum/frustumlaw30.example -/
theorem c17 : Fn Try.prog 17 [] (.one (B true)) := by
  have s18 : Fn Try.prog 18 [A r0] (.one (L s0)) := strips_r0 ▸ c18 r0 (by decide) (by decide) r0_small.2.2
  have s21 := c21 r0 (by decide) (by decide) r0_small.2.2
  have s23 : Fn Try.prog 23 [L [r0, r0]] (.one (I 2)) := by
    have h := c23 [r0, r0] (by decide) (by intro r hr; simp at hr; subst hr; exact r0_small)
    rw [ampl_r0] at h
    exact h
  refine fnI Try.func17 Try.ntmps17 fun hb => ?_
  refine sg ?_
  refine as_ ?_
  refine rNil ?_
  refine sg ?_
  refine bs ?_
  refine bs ?_
  refine bs ?_
  refine bs ?_
  refine bs ?_
  refine bs ?_
  refine buS ?_
  refine al _ ?_
  refine sA ?_
  refine rNil ?_
  refine sg ?_
  first | refine lAf ?_ | refine lAb ?_ | refine lAo ?_
  refine cl (s18) ?_
  refine as_ ?_
  refine rNil ?_
  refine sg ?_
  refine mv ?_
  first | refine lnM ?_ | refine ln ?_ | refine lnO ?_ | refine lnN ?_ | refine lnW ?_
  refine bo ?_
  refine mv ?_
  refine gd (fun h1 => ?_) (fun h1 => ?_)
  ·
    refine mv ?_
    first | refine xs_ ?_ | refine xo ?_ | refine xw ?_
    first | refine l1f ?_ | refine l1b ?_ | refine l1o ?_
    first | refine lnM ?_ | refine ln ?_ | refine lnO ?_ | refine lnN ?_ | refine lnW ?_
    refine bo ?_
    refine pkT ?_
    refine mv ?_
    refine gd (fun h2 => ?_) (fun h2 => ?_)
    ·
      refine mv ?_
      first | refine xs_ ?_ | refine xo ?_ | refine xw ?_
      first | refine l1f ?_ | refine l1b ?_ | refine l1o ?_
      first | refine lnM ?_ | refine ln ?_ | refine lnO ?_ | refine lnN ?_ | refine lnW ?_
      refine bo ?_
      refine pkT ?_
      refine mv ?_
      refine gd (fun h3 => ?_) (fun h3 => ?_)
      ·
        first | refine lAf ?_ | refine lAb ?_ | refine lAo ?_
        refine cl (s21) ?_
        first | refine lnM ?_ | refine ln ?_ | refine lnO ?_ | refine lnN ?_ | refine lnW ?_
        refine bo ?_
        refine pkT ?_
        refine mv ?_
        refine gd (fun h4 => ?_) (fun h4 => ?_)
        ·
          first | refine lAf ?_ | refine lAb ?_ | refine lAo ?_
          first | refine lAf ?_ | refine lAb ?_ | refine lAo ?_
          refine bs ?_
          refine cl (s23) ?_
          refine bo ?_
          refine pkT ?_
          refine as_ ?_
          refine rNil ?_
          refine awp_ret ?_
          exact ⟨.inr rfl, _, (.cons (by first | exact .v (by ((repeat apply Look.there rfl); exact Look.here)) (.f (.v _)) | exact .v (by ((repeat apply Look.there rfl); exact Look.here)) (.row rfl rfl) | exact .v (by ((repeat apply Look.there rfl); exact Look.here)) (.f .nil) | exact .a (by ((repeat apply Look.there rfl); exact Look.here)) | skip) .nil), oneB (by decide)⟩ -- LEAF 1: ret
        ·
          rw [exp_r0] at h4; exact absurd h4 (by decide) -- END
      ·
        exact absurd h3 (by decide) -- END
    ·
      exact absurd h2 (by decide) -- END
  ·
    exact absurd h1 (by decide) -- END

end Go.Proofs.Ytolbhipnbhehdaa.VS
