/- The walks of functions: what each computes, by itself. Conditions: none. -/
import Derived.Test.YtolbhipnbhehdaaF5
set_option linter.unusedVariables false
set_option linter.unusedSimpArgs false
namespace Go.Proofs.Ytolbhipnbhehdaa.VS
open Go
/-- frustum/assemble.Valid -/
theorem c47 : Fn Try.prog 47 [I 2] (.one (B true)) := by
  refine fnI Try.func47 Try.ntmps47 fun hb => ?_
  refine sg ?_
  refine as_ ?_
  refine rNil ?_
  refine sg ?_
  refine mv ?_
  refine bo ?_
  refine mv ?_
  refine gd (fun h1 => ?_) (fun h1 => ?_)
  ·
    refine mv ?_
    refine bo ?_
    refine pkT ?_
    refine as_ ?_
    refine rNil ?_
    refine awp_ret ?_
    exact ⟨.inr rfl, _, (.cons (by first | exact .v (by ((repeat apply Look.there rfl); exact Look.here)) (.f (.v _)) | exact .v (by ((repeat apply Look.there rfl); exact Look.here)) (.row rfl rfl) | exact .v (by ((repeat apply Look.there rfl); exact Look.here)) (.f .nil) | exact .a (by ((repeat apply Look.there rfl); exact Look.here)) | skip) .nil), oneB (by decide)⟩ -- LEAF 1: ret
  ·
    exact absurd h1 (by decide) -- END

/-- frustum/frustumref16.Valid -/
theorem c48 : Fn Try.prog 48 [I 2] (.one (B true)) := by
  refine fnI Try.func48 Try.ntmps48 fun hb => ?_
  refine sg ?_
  refine as_ ?_
  refine rNil ?_
  refine sg ?_
  refine mv ?_
  refine bo ?_
  refine mv ?_
  refine gd (fun h1 => ?_) (fun h1 => ?_)
  ·
    exact absurd h1 (by decide) -- END
  ·
    refine mv ?_
    refine bo ?_
    refine pkF ?_
    refine mv ?_
    refine gd (fun h2 => ?_) (fun h2 => ?_)
    ·
      refine no ?_
      refine no ?_
      refine pkT ?_
      refine as_ ?_
      refine rNil ?_
      refine awp_ret ?_
      exact ⟨.inr rfl, _, (.cons (by first | exact .v (by ((repeat apply Look.there rfl); exact Look.here)) (.f (.v _)) | exact .v (by ((repeat apply Look.there rfl); exact Look.here)) (.row rfl rfl) | exact .v (by ((repeat apply Look.there rfl); exact Look.here)) (.f .nil) | exact .a (by ((repeat apply Look.there rfl); exact Look.here)) | skip) .nil), oneB (by decide)⟩ -- LEAF 1: ret
    ·
      exact absurd h2 (by decide) -- END

/-- frustum/assemble.Count -/
theorem c42 (n : Nat) (hn : n ≤ 300) : Fn Try.prog 42 [I 2, I n] (.one (I ((n - 2 : Nat) : Int))) := by
  refine fnI Try.func42 Try.ntmps42 fun hb => ?_
  refine sg ?_
  refine as_ ?_
  refine rNil ?_
  refine sq ?_
  refine bk ?_
  refine sg ?_
  refine mv ?_
  refine bo ?_
  refine mv ?_
  refine gd (fun h1 => ?_) (fun h1 => ?_)
  ·
    simp at h1; omega -- END
  ·
    refine mv ?_
    refine cl (c47) ?_
    refine nt ?_
    refine pkF ?_
    refine as_ ?_
    refine rNil ?_
    refine cn (fun h2 => ?_) (fun h2 => ?_)
    ·
      exact absurd h2 (by decide) -- END
    ·
      refine sg ?_
      refine mv ?_
      refine bo ?_
      refine as_ ?_
      refine rNil ?_
      refine cn (fun h3 => ?_) (fun h3 => ?_)
      ·
        exact absurd h3 (by decide) -- END
      ·
        refine awp_skip ?_
        refine bn_ ?_
        refine tn ?_
        refine sg ?_
        refine mv ?_
        refine bo ?_
        refine mx2 ?_
        refine as_ ?_
        refine rNil ?_
        refine awp_ret ?_
        exact ⟨.inr rfl, _, (.cons (by first | exact .v (by ((repeat apply Look.there rfl); exact Look.here)) (.f (.v _)) | exact .v (by ((repeat apply Look.there rfl); exact Look.here)) (.row rfl rfl) | exact .v (by ((repeat apply Look.there rfl); exact Look.here)) (.f .nil) | exact .a (by ((repeat apply Look.there rfl); exact Look.here)) | skip) .nil), oneI (by simp only [mx]; split <;> omega)⟩ -- LEAF 1: ret

/-- frustum/frustumref16.Count -/
theorem c45 (n : Nat) (hn : n ≤ 300) : Fn Try.prog 45 [I 2, I n] (.one (I ((n - 2 : Nat) : Int))) := by
  refine fnI Try.func45 Try.ntmps45 fun hb => ?_
  refine sg ?_
  refine as_ ?_
  refine rNil ?_
  refine sq ?_
  refine sg ?_
  refine mv ?_
  refine bo ?_
  refine mv ?_
  refine gd (fun h1 => ?_) (fun h1 => ?_)
  ·
    simp at h1; omega -- END
  ·
    refine mv ?_
    refine cl (c48) ?_
    refine nt ?_
    refine pkF ?_
    refine rNil ?_
    refine cn (fun h2 => ?_) (fun h2 => ?_)
    ·
      exact absurd h2 (by decide) -- END
    ·
      refine awp_skip ?_
      refine tn ?_
      refine sq ?_
      refine sg ?_
      refine mv ?_
      refine bo ?_
      refine rNil ?_
      refine cn (fun h3 => ?_) (fun h3 => ?_)
      ·
        exact absurd h3 (by decide) -- END
      ·
        refine awp_skip ?_
        refine tn ?_
        refine sg ?_
        refine mv ?_
        refine bo ?_
        refine mx2 ?_
        refine as_ ?_
        refine rNil ?_
        refine awp_ret ?_
        exact ⟨.inr rfl, _, (.cons (by first | exact .v (by ((repeat apply Look.there rfl); exact Look.here)) (.f (.v _)) | exact .v (by ((repeat apply Look.there rfl); exact Look.here)) (.row rfl rfl) | exact .v (by ((repeat apply Look.there rfl); exact Look.here)) (.f .nil) | exact .a (by ((repeat apply Look.there rfl); exact Look.here)) | skip) .nil), oneI (by simp only [mx]; split <;> omega)⟩ -- LEAF 1: ret

def tri (i : Nat) : T3 Int := if i % 2 = 1 then ⟨i, i + 2, i + 1⟩ else ⟨i, i + 1, i + 2⟩
theorem iota_get1 {n i : Nat} (h : i + 1 < n) : (iota n)[i + 1]? = some ((i : Int) + 1) := iota_get h
theorem iota_get2 {n i : Nat} (h : i + 2 < n) : (iota n)[i + 2]? = some ((i : Int) + 2) := iota_get h
/-- frustum/assemble.Triangle -/
theorem c43 (n i : Nat) (hn : n ≤ 300) (hi : i < n - 2) : Fn Try.prog 43 [I 2, L (iota n), I i] (.many [A (tri i), B true]) := by
  refine fnI Try.func43 Try.ntmps43 fun hb => ?_
  have hl := iota_len n
  have g0 : (iota n)[i]? = some (i : Int) := iota_get (by omega)
  have g1 : (iota n)[i + 1]? = some ((i : Int) + 1) := iota_get1 (by omega)
  have g2 : (iota n)[i + 2]? = some ((i : Int) + 2) := iota_get2 (by omega)
  refine sg ?_
  refine al _ ?_
  refine as_ ?_
  refine rNil ?_
  refine sq ?_
  rw [← hl] at hn hi
  refine sg ?_
  refine mv ?_
  refine bo ?_
  refine mv ?_
  refine gd (fun h1 => ?_) (fun h1 => ?_)
  ·
    simp at h1; omega -- END
  ·
    refine mv ?_
    refine mv ?_
    refine mv ?_
    first | refine lnM ?_ | refine ln ?_ | refine lnO ?_ | refine lnN ?_ | refine lnW ?_
    refine cl (c42 (iota n).length hn) ?_
    refine bo ?_
    refine pkF ?_
    refine rNil ?_
    refine cn (fun h2 => ?_) (fun h2 => ?_)
    ·
      simp at h2; omega -- END
    ·
      refine awp_skip ?_
      refine tn ?_
      refine sq ?_
      refine bk ?_
      refine sg ?_
      refine mv ?_
      refine bo ?_
      refine as_ ?_
      refine rNil ?_
      refine cn (fun h3 => ?_) (fun h3 => ?_)
      ·
        exact absurd h3 (by decide) -- END
      ·
        refine sg ?_
        refine mv ?_
        refine bo ?_
        refine as_ ?_
        refine rNil ?_
        refine cn (fun h4 => ?_) (fun h4 => ?_)
        ·
          exact absurd h4 (by decide) -- END
        ·
          refine sg ?_
          refine mv ?_
          refine bo ?_
          refine bo ?_
          refine as_ ?_
          refine rNil ?_
          refine cn (fun h5 => ?_) (fun h5 => ?_)
          ·
            have hm : i % 2 = 1 := by simp at h5; omega
            refine sd mixO ?_
            refine mv ?_
            refine mv ?_
            first | refine xs_ ?_ | refine xo ?_ | refine xw ?_
            first | refine l1f ?_ | refine l1b ?_ | refine l1o ?_
            refine mv ?_
            refine mv ?_
            refine bo ?_
            first | refine xs_ ?_ | refine xo ?_ | refine xw ?_
            first | refine l1f ?_ | refine l1b ?_ | refine l1o ?_
            refine mv ?_
            refine mv ?_
            refine bo ?_
            first | refine xs_ ?_ | refine xo ?_ | refine xw ?_
            first | refine l1f ?_ | refine l1b ?_ | refine l1o ?_
            refine buA ?_
            refine sA ?_
            refine as_ ?_
            refine rNil ⟨rfl, ?_⟩
            refine awp_ret ?_
            refine br ?_
            refine tr ?_
            exact ⟨.inr rfl, _, (.cons (resC (by ((repeat apply Look.there rfl); exact Look.here)) (by exact rfl) (by exact rfl) (by ((repeat (apply All2.cons; first | exact .f (.v _) | exact .row rfl (by first | exact rfl | simp) | exact .f .nil | exact .f (.fro rfl (by first | exact rfl | simp)))); exact All2.nil))) (.cons (by first | exact .v (by ((repeat apply Look.there rfl); exact Look.here)) (.f (.v _)) | exact .v (by ((repeat apply Look.there rfl); exact Look.here)) (.row rfl rfl) | exact .v (by ((repeat apply Look.there rfl); exact Look.here)) (.f .nil) | exact .a (by ((repeat apply Look.there rfl); exact Look.here)) | skip) .nil)), by simp only [tri, if_pos hm]; rfl⟩ -- LEAF 1: ret
          ·
            have hm : ¬ i % 2 = 1 := by simp at h5; omega
            refine awp_skip ?_
            refine bn_ ?_
            refine tn ?_
            refine sd mixO ?_
            refine mv ?_
            refine mv ?_
            first | refine xs_ ?_ | refine xo ?_ | refine xw ?_
            first | refine l1f ?_ | refine l1b ?_ | refine l1o ?_
            refine mv ?_
            refine mv ?_
            refine bo ?_
            first | refine xs_ ?_ | refine xo ?_ | refine xw ?_
            first | refine l1f ?_ | refine l1b ?_ | refine l1o ?_
            refine mv ?_
            refine mv ?_
            refine bo ?_
            first | refine xs_ ?_ | refine xo ?_ | refine xw ?_
            first | refine l1f ?_ | refine l1b ?_ | refine l1o ?_
            refine buA ?_
            refine sA ?_
            refine as_ ?_
            refine rNil ⟨rfl, ?_⟩
            refine awp_ret ?_
            exact ⟨.inr rfl, _, (.cons (resC (by ((repeat apply Look.there rfl); exact Look.here)) (by exact rfl) (by exact rfl) (by ((repeat (apply All2.cons; first | exact .f (.v _) | exact .row rfl (by first | exact rfl | simp) | exact .f .nil | exact .f (.fro rfl (by first | exact rfl | simp)))); exact All2.nil))) (.cons (by first | exact .v (by ((repeat apply Look.there rfl); exact Look.here)) (.f (.v _)) | exact .v (by ((repeat apply Look.there rfl); exact Look.here)) (.row rfl rfl) | exact .v (by ((repeat apply Look.there rfl); exact Look.here)) (.f .nil) | exact .a (by ((repeat apply Look.there rfl); exact Look.here)) | skip) .nil)), by simp only [tri, if_neg hm]; rfl⟩ -- LEAF 2: ret

/-- frustum/frustumref16.corners -/
theorem c49 (i : Nat) (hi : i ≤ 300) : Fn Try.prog 49 [I 2, I i] (.one (A (tri i))) := by
  refine fnI Try.func49 Try.ntmps49 fun hb => ?_
  refine sg ?_
  refine al _ ?_
  refine rNil ?_
  refine sq ?_
  refine sg ?_
  refine mv ?_
  refine rNil ?_
  refine bk ?_
  refine sg ?_
  refine bo ?_
  refine as_ ?_
  refine rNil ?_
  refine cn (fun h1 => ?_) (fun h1 => ?_)
  ·
    exact absurd h1 (by decide) -- END
  ·
    refine sg ?_
    refine bo ?_
    refine as_ ?_
    refine rNil ?_
    refine cn (fun h2 => ?_) (fun h2 => ?_)
    ·
      exact absurd h2 (by decide) -- END
    ·
      refine awp_skip ?_
      refine bn_ ?_
      refine tn ?_
      refine sq ?_
      refine sg ?_
      refine mv ?_
      refine bo ?_
      refine bo ?_
      refine rNil ?_
      refine cn (fun h3 => ?_) (fun h3 => ?_)
      ·
        have hm : ¬ i % 2 = 1 := by simp at h3; omega
        refine sg ?_
        refine mv ?_
        refine mv ?_
        refine bo ?_
        refine mv ?_
        refine bo ?_
        refine buA ?_
        refine sA ?_
        refine rNil ?_
        refine awp_ret ?_
        refine tr ?_
        exact ⟨.inr rfl, _, (.cons (resC (by ((repeat apply Look.there rfl); exact Look.here)) (by exact rfl) (by exact rfl) (by ((repeat (apply All2.cons; first | exact .f (.v _) | exact .row rfl (by first | exact rfl | simp) | exact .f .nil | exact .f (.fro rfl (by first | exact rfl | simp)))); exact All2.nil))) .nil), by simp only [tri, if_neg hm]; rfl⟩ -- LEAF 1: ret
      ·
        have hm : i % 2 = 1 := by simp at h3; omega
        refine awp_skip ?_
        refine tn ?_
        refine sg ?_
        refine mv ?_
        refine mv ?_
        refine bo ?_
        refine mv ?_
        refine bo ?_
        refine buA ?_
        refine sA ?_
        refine rNil ?_
        refine awp_ret ?_
        exact ⟨.inr rfl, _, (.cons (resC (by ((repeat apply Look.there rfl); exact Look.here)) (by exact rfl) (by exact rfl) (by ((repeat (apply All2.cons; first | exact .f (.v _) | exact .row rfl (by first | exact rfl | simp) | exact .f .nil | exact .f (.fro rfl (by first | exact rfl | simp)))); exact All2.nil))) .nil), by simp only [tri, if_pos hm]; rfl⟩ -- LEAF 2: ret

end Go.Proofs.Ytolbhipnbhehdaa.VS
