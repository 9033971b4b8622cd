/- The walks of functions: what each computes, by itself. Conditions: none. -/
import Derived.Test.YtlmecogidnbpjaaF5
set_option linter.unusedVariables false
set_option linter.unusedSimpArgs false
namespace Go.Proofs.Ytlmecogidnbpjaa.VS
open Go
def fdv (n d : Int) : Int := sat (rdiv (sat n * 65536) (sat d))
theorem sat_pos {d : Int} (h : 1 ≤ d) : 1 ≤ sat d := by unfold sat clamp mx mn; repeat (first | omega | split)
theorem mx256 (w : Int) : 1 ≤ mx w 256 := by unfold mx; split <;> omega
/-- frustum/fixed.Div -/
theorem c38 (n d : Int) (hd : 1 ≤ d) : Fn Try.prog 38 [I n, I d] (.one (I (fdv n d))) := by
  refine fnI Try.func38 Try.ntmps38 fun hb => ?_
  have hs := sat_pos hd
  have hn := sat_bd n
  refine sg ?_
  refine as_ ?_
  refine rNil ?_
  refine sg ?_
  refine mv ?_
  refine cl (c35 _) ?_
  refine mv ?_
  refine cl (c35 _) ?_
  refine as_ ?_
  refine as_ ?_
  refine rNil ?_
  refine sq ?_
  refine bk ?_
  refine sg ?_
  refine mv ?_
  refine bo (hz := by exact rfl) ?_
  refine as_ ?_
  refine rNil ?_
  refine cn (fun h1 => ?_) (fun h1 => ?_)
  ·
    refine sg ?_
    refine mv ?_
    refine bo (hz := by first | exact bop_mul (by omega) (by omega) | exact rfl) ?_
    refine mv ?_
    refine cl (c67 _ _) ?_
    refine cl (c35 _) ?_
    refine as_ ?_
    refine rNil ?_
    refine awp_ret ?_
    refine br ?_
    refine tr ?_
    exact ⟨.inr rfl, _, (.cons (by first | exact .v (by ((repeat apply Look.there rfl); exact Look.here)) (.f (.v _)) | exact .v (by ((repeat apply Look.there rfl); exact Look.here)) (.row rfl rfl) | exact .v (by ((repeat apply Look.there rfl); exact Look.here)) (.f .nil) | exact .a (by ((repeat apply Look.there rfl); exact Look.here)) | skip) .nil), rfl⟩ -- LEAF 1: ret
  ·
    simp at h1; omega -- END

/-- frustum/frustumref01.Div -/
theorem c49 (n d : Int) (hd : 1 ≤ d) : Fn Try.prog 49 [I n, I d] (.one (I (fdv n d))) := by
  refine fnI Try.func49 Try.ntmps49 fun hb => ?_
  have hs := sat_pos hd
  have hn := sat_bd n
  refine sg ?_
  refine as_ ?_
  refine rNil ?_
  refine sg ?_
  refine mv ?_
  refine cl (c46 _) ?_
  refine bo (hz := by first | exact bop_mul (by omega) (by omega) | exact rfl) ?_
  refine mv ?_
  refine cl (c46 _) ?_
  refine as_ ?_
  refine as_ ?_
  refine rNil ?_
  refine sq ?_
  refine sg ?_
  refine mv ?_
  refine bo (hz := by exact rfl) ?_
  refine rNil ?_
  refine cn (fun h1 => ?_) (fun h1 => ?_)
  ·
    simp at h1; omega -- END
  ·
    refine awp_skip ?_
    refine tn ?_
    refine sq ?_
    refine sg ?_
    refine mv ?_
    refine bo (hz := by exact rfl) ?_
    refine rNil ?_
    refine cn (fun h2 => ?_) (fun h2 => ?_)
    ·
      simp at h2; omega -- END
    ·
      refine awp_skip ?_
      refine tn ?_
      refine sg ?_
      refine mv ?_
      refine mv ?_
      refine cl (c75 _ _) ?_
      refine cl (c46 _) ?_
      refine as_ ?_
      refine rNil ?_
      refine awp_ret ?_
      exact ⟨.inr rfl, _, (.cons (by first | exact .v (by ((repeat apply Look.there rfl); exact Look.here)) (.f (.v _)) | exact .v (by ((repeat apply Look.there rfl); exact Look.here)) (.row rfl rfl) | exact .v (by ((repeat apply Look.there rfl); exact Look.here)) (.f .nil) | exact .a (by ((repeat apply Look.there rfl); exact Look.here)) | skip) .nil), rfl⟩ -- LEAF 1: ret

def crd (low size n w : Int) : Int := clamp low 0 64 * 256 + rdiv ((clamp (fdv n (mx w 256)) (-65536) 65536 + 65536) * clamp size 0 64 * 256) 131072
theorem pb64 {x y : Int} (hx : 0 ≤ x ∧ x ≤ 131072) (hy : 0 ≤ y ∧ y ≤ 64) : 0 ≤ x * y ∧ x * y ≤ 8388608 :=
  ⟨Int.mul_nonneg hx.1 hy.1, Int.mul_le_mul hx.2 hy.2 hy.1 (by decide)⟩
/-- frustum/viewport.Coordinate -/
theorem c36 (low size n w : Int) : Fn Try.prog 36 [I low, I size, I n, I w] (.one (I (crd low size n w))) := by
  refine fnI Try.func36 Try.ntmps36 fun hb => ?_
  have h1 := clamp_bd (fdv n (mx w 256)) (show (-65536 : Int) ≤ 65536 by decide)
  have h2 := clamp_bd low (show (0 : Int) ≤ 64 by decide)
  have h3 := clamp_bd size (show (0 : Int) ≤ 64 by decide)
  have h4 := pb64 (x := clamp (fdv n (mx w 256)) (-65536) 65536 + 65536) (y := clamp size 0 64) (by omega) h3
  have h5 := rdiv_bd ((clamp (fdv n (mx w 256)) (-65536) 65536 + 65536) * clamp size 0 64 * 256) 131072
  refine sg ?_
  refine as_ ?_
  refine rNil ?_
  refine sg ?_
  refine mv ?_
  refine mv ?_
  refine mx2 ?_
  refine cl (c38 n (mx w 256) (mx256 w)) ?_
  refine cl (c66 _ _ _) ?_
  refine as_ ?_
  refine rNil ?_
  refine sg ?_
  refine mv ?_
  refine cl (c66 _ _ _) ?_
  refine mv ?_
  refine cl (c66 _ _ _) ?_
  refine as_ ?_
  refine as_ ?_
  refine rNil ?_
  refine sg ?_
  refine mv ?_
  refine bo (hz := by first | exact bop_mul (by omega) (by omega) | exact rfl) ?_
  refine mv ?_
  refine bo (hz := by first | exact bop_add (by omega) (by omega) | exact rfl) ?_
  refine mv ?_
  refine bo (hz := by first | exact bop_mul (by omega) (by omega) | exact rfl) ?_
  refine bo (hz := by first | exact bop_mul (by omega) (by omega) | exact rfl) ?_
  refine cl (c67 _ _) ?_
  refine bo (hz := by first | exact bop_add (by omega) (by omega) | exact rfl) ?_
  refine as_ ?_
  refine rNil ?_
  refine awp_ret ?_
  exact ⟨.inr rfl, _, (.cons (by first | exact .v (by ((repeat apply Look.there rfl); exact Look.here)) (.f (.v _)) | exact .v (by ((repeat apply Look.there rfl); exact Look.here)) (.row rfl rfl) | exact .v (by ((repeat apply Look.there rfl); exact Look.here)) (.f .nil) | exact .a (by ((repeat apply Look.there rfl); exact Look.here)) | skip) .nil), rfl⟩ -- LEAF 1: ret

/-- frustum/frustumref32.Coordinate -/
theorem c47 (low size n w : Int) : Fn Try.prog 47 [I low, I size, I n, I w] (.one (I (crd low size n w))) := by
  refine fnI Try.func47 Try.ntmps47 fun hb => ?_
  have h1 := clamp_bd (fdv n (mx w 256)) (show (-65536 : Int) ≤ 65536 by decide)
  have h2 := clamp_bd low (show (0 : Int) ≤ 64 by decide)
  have h3 := clamp_bd size (show (0 : Int) ≤ 64 by decide)
  have h4 := pb64 (x := clamp (fdv n (mx w 256)) (-65536) 65536 + 65536) (y := clamp size 0 64) (by omega) h3
  have h5 := rdiv_bd ((clamp (fdv n (mx w 256)) (-65536) 65536 + 65536) * clamp size 0 64 * 256) 131072
  refine sg ?_
  refine as_ ?_
  refine rNil ?_
  refine sg ?_
  refine mv ?_
  refine mv ?_
  refine mx2 ?_
  refine cl (c49 n (mx w 256) (mx256 w)) ?_
  refine cl (c74 _ _ _) ?_
  refine as_ ?_
  refine rNil ?_
  refine sg ?_
  refine mv ?_
  refine cl (c74 _ _ _) ?_
  refine as_ ?_
  refine rNil ?_
  refine sg ?_
  refine mv ?_
  refine cl (c74 _ _ _) ?_
  refine as_ ?_
  refine rNil ?_
  refine sg ?_
  refine mv ?_
  refine bo (hz := by first | exact bop_mul (by omega) (by omega) | exact rfl) ?_
  refine mv ?_
  refine bo (hz := by first | exact bop_add (by omega) (by omega) | exact rfl) ?_
  refine mv ?_
  refine bo (hz := by first | exact bop_mul (by omega) (by omega) | exact rfl) ?_
  refine bo (hz := by first | exact bop_mul (by omega) (by omega) | exact rfl) ?_
  refine cl (c75 _ _) ?_
  refine bo (hz := by first | exact bop_add (by omega) (by omega) | exact rfl) ?_
  refine as_ ?_
  refine rNil ?_
  refine awp_ret ?_
  exact ⟨.inr rfl, _, (.cons (by first | exact .v (by ((repeat apply Look.there rfl); exact Look.here)) (.f (.v _)) | exact .v (by ((repeat apply Look.there rfl); exact Look.here)) (.row rfl rfl) | exact .v (by ((repeat apply Look.there rfl); exact Look.here)) (.f .nil) | exact .a (by ((repeat apply Look.there rfl); exact Look.here)) | skip) .nil), rfl⟩ -- LEAF 1: ret

/-- frustum/viewport.difference -/
theorem c70 (a b : Int) (ha : 0 ≤ a ∧ a ≤ 65536) (hb' : 0 ≤ b ∧ b ≤ 65536) : Fn Try.prog 70 [I a, I b] (.one (I (sat (a - b)))) := by
  refine fnI Try.func70 Try.ntmps70 fun hb => ?_
  refine sg ?_
  refine as_ ?_
  refine rNil ?_
  refine sg ?_
  refine mv ?_
  refine mv ?_
  refine bo (hz := by first | exact bop_sub (by omega) (by omega) | exact rfl) ?_
  refine as_ ?_
  refine rNil ?_
  refine bk ?_
  refine sg ?_
  refine mv ?_
  refine bo (hz := by exact rfl) ?_
  refine mv ?_
  refine gd (fun h1 => ?_) (fun h1 => ?_)
  ·
    refine mv ?_
    refine bo (hz := by exact rfl) ?_
    refine pkT ?_
    refine mv ?_
    refine gd (fun h2 => ?_) (fun h2 => ?_)
    ·
      simp at h2; omega -- END
    ·
      refine no ?_
      refine no ?_
      refine pkF ?_
      refine as_ ?_
      refine rNil ?_
      refine cn (fun h3 => ?_) (fun h3 => ?_)
      ·
        exact absurd h3 (by decide)
      ·
        refine sg ?_
        refine mv ?_
        refine bo (hz := by exact rfl) ?_
        refine mv ?_
        refine gd (fun h4 => ?_) (fun h4 => ?_)
        ·
          simp at h4; omega -- END
        ·
          refine no ?_
          refine no ?_
          refine pkF ?_
          refine mv ?_
          refine no ?_
          refine no ?_
          refine pkF ?_
          refine as_ ?_
          refine rNil ?_
          refine cn (fun h5 => ?_) (fun h5 => ?_)
          ·
            exact absurd h5 (by decide)
          ·
            refine sg ?_
            refine mv ?_
            refine cl (c35 _) ?_
            refine as_ ?_
            refine rNil ?_
            refine awp_ret ?_
            refine br ?_
            exact ⟨.inr rfl, _, (.cons (by first | exact .v (by ((repeat apply Look.there rfl); exact Look.here)) (.f (.v _)) | exact .v (by ((repeat apply Look.there rfl); exact Look.here)) (.row rfl rfl) | exact .v (by ((repeat apply Look.there rfl); exact Look.here)) (.f .nil) | exact .a (by ((repeat apply Look.there rfl); exact Look.here)) | skip) .nil), rfl⟩ -- LEAF 1: ret
  ·
    simp at h1; omega -- END

/-- frustum/frustumref32.difference -/
theorem c78 (a b : Int) (ha : 0 ≤ a ∧ a ≤ 65536) (hb' : 0 ≤ b ∧ b ≤ 65536) : Fn Try.prog 78 [I a, I b] (.one (I (sat (a - b)))) := by
  refine fnI Try.func78 Try.ntmps78 fun hb => ?_
  refine sg ?_
  refine as_ ?_
  refine rNil ?_
  refine sq ?_
  refine sg ?_
  refine mv ?_
  refine bo (hz := by exact rfl) ?_
  refine mv ?_
  refine gd (fun h1 => ?_) (fun h1 => ?_)
  ·
    refine mv ?_
    refine bo (hz := by exact rfl) ?_
    refine pkT ?_
    refine mv ?_
    refine gd (fun h2 => ?_) (fun h2 => ?_)
    ·
      simp at h2; omega -- END
    ·
      refine no ?_
      refine no ?_
      refine no ?_
      refine noU ?_
      refine noU ?_
      refine no ?_
      refine pkF ?_
      refine rNil ?_
      refine cn (fun h3 => ?_) (fun h3 => ?_)
      ·
        exact absurd h3 (by decide)
      ·
        refine awp_skip ?_
        refine tn ?_
        refine sq ?_
        refine sg ?_
        refine mv ?_
        refine bo (hz := by exact rfl) ?_
        refine mv ?_
        refine gd (fun h4 => ?_) (fun h4 => ?_)
        ·
          simp at h4; omega -- END
        ·
          refine no ?_
          refine no ?_
          refine pkF ?_
          refine mv ?_
          refine no ?_
          refine no ?_
          refine no ?_
          refine noU ?_
          refine noU ?_
          refine no ?_
          refine pkF ?_
          refine rNil ?_
          refine cn (fun h5 => ?_) (fun h5 => ?_)
          ·
            exact absurd h5 (by decide)
          ·
            refine awp_skip ?_
            refine tn ?_
            refine sg ?_
            refine mv ?_
            refine mv ?_
            refine bo (hz := by first | exact bop_sub (by omega) (by omega) | exact rfl) ?_
            refine cl (c46 _) ?_
            refine as_ ?_
            refine rNil ?_
            refine awp_ret ?_
            exact ⟨.inr rfl, _, (.cons (by first | exact .v (by ((repeat apply Look.there rfl); exact Look.here)) (.f (.v _)) | exact .v (by ((repeat apply Look.there rfl); exact Look.here)) (.row rfl rfl) | exact .v (by ((repeat apply Look.there rfl); exact Look.here)) (.f .nil) | exact .a (by ((repeat apply Look.there rfl); exact Look.here)) | skip) .nil), rfl⟩ -- LEAF 1: ret
  ·
    simp at h1; omega -- END

end Go.Proofs.Ytlmecogidnbpjaa.VS
