/- The walks of functions: what each computes, by itself. Conditions: none. -/
import Derived.Test.YtnhljpbpfaablaaF17
set_option linter.unusedVariables false
set_option linter.unusedSimpArgs false
namespace Go.Proofs.Ytnhljpbpfaablaa.VS
open Go
theorem ivF_smp : ivF smp = [⟨0, 2⟩, ⟨1, 2⟩, ⟨2, 3⟩] := by decide
theorem pres_smp : pres [⟨0, 2⟩, ⟨1, 2⟩, ⟨2, 3⟩] 4 = 3 := by decide
theorem ord_smp : ordF [⟨0, 2⟩, ⟨1, 2⟩, ⟨2, 3⟩] = [0, 1, 2] := by
  have e : ordK [⟨0, 2⟩, ⟨1, 2⟩, ⟨2, 3⟩] 3 = [0, 1, 2] := by decide
  show lexs _ (ordK _ 3) = _
  rw [e]
  exact lexs_self (by unfold LX; simp only [lxb_iff]; decide)
theorem asg_smp : asg [⟨0, 2⟩, ⟨1, 2⟩, ⟨2, 3⟩] = [0, 1, 2] := by
  unfold asg
  rw [ord_smp]
  decide
theorem c11smp : Fn Try.prog 11 [A smp] (.one (L [(⟨0, 2⟩ : Pr), ⟨1, 2⟩, ⟨2, 3⟩])) := by rw [← ivF_smp]; exact c11 smp
theorem c14smp : Fn Try.prog 14 [A smp] (.one (I 3)) := by have := c14 smp (by decide); rwa [ivF_smp, show smp.code.length = 4 from rfl, pres_smp] at this
theorem c17smp : Fn Try.prog 17 [A smp] (.one (L [(0 : Int), 1, 2])) := by have := c17 smp; rwa [ivF_smp, asg_smp] at this
/-- frustum/frustumlaw25.example -/
theorem c13 : Fn Try.prog 13 [] (.one (B true)) := by
  refine fnI Try.func13 Try.ntmps13 fun hb => ?_
  refine sg ?_
  refine as_ ?_
  refine rNil ?_
  refine sg ?_
  refine cl (c32) ?_
  refine cl (c14smp) ?_
  refine bo (hz := by exact rfl) ?_
  refine mv ?_
  refine gd (fun h1 => ?_) (fun h1 => ?_)
  ·
    refine cl (c32) ?_
    refine cl (c17smp) ?_
    refine bs ?_
    refine cl (c16 [0, 1, 2]) ?_
    refine pkT ?_
    refine mv ?_
    refine gd (fun h2 => ?_) (fun h2 => ?_)
    ·
      refine cl (c32) ?_
      refine cl (c11smp) ?_
      refine buA ?_
      refine buA ?_
      refine buA ?_
      refine bs ?_
      refine cl (c10 [⟨0, 2⟩, ⟨1, 2⟩, ⟨2, 3⟩]) ?_
      refine pkT ?_
      refine as_ ?_
      refine rNil ?_
      refine awp_ret ?_
      exact ⟨.inr rfl, _, (.cons (by first | exact .v (by ((repeat apply Look.there rfl); exact Look.here)) (.f (.v _)) | exact .v (by ((repeat apply Look.there rfl); exact Look.here)) (.row rfl (by first | exact rfl | (simp; done) | (simp; omega))) | exact .v (by ((repeat apply Look.there rfl); exact Look.here)) (.f .nil) | exact .a (by ((repeat apply Look.there rfl); exact Look.here)) | skip) .nil), rfl⟩ -- LEAF 1: ret
    ·
      exact absurd h2 (by decide) -- END
  ·
    exact absurd h1 (by decide) -- END

/-- frustum/frustumlaw25.RegallocIntervals -/
theorem c3 (p : Prg) : Fn Try.prog 3 [A p] (.one (B true)) := by
  refine fnI Try.func3 Try.ntmps3 fun hb => ?_
  refine sg ?_
  refine bx _ ?_
  refine as_ ?_
  refine rNil ?_
  refine sd mixO ?_
  first | refine lAf ?_ | refine lAb ?_ | refine lAo ?_
  refine cl (c9 p) ?_
  refine nt ?_
  refine mv ?_
  refine gd (fun h1 => ?_) (fun h1 => ?_)
  ·
    refine no ?_
    refine no ?_
    refine no ?_
    refine no ?_
    refine no ?_
    refine pkT ?_
    refine mv ?_
    refine cl (c13) ?_
    refine pkT ?_
    refine as_ ?_
    refine rNil ⟨rfl, ?_⟩
    refine awp_ret ?_
    exact ⟨.inr rfl, _, (.cons (by first | exact .v (by ((repeat apply Look.there rfl); exact Look.here)) (.f (.v _)) | exact .v (by ((repeat apply Look.there rfl); exact Look.here)) (.row rfl (by first | exact rfl | (simp; done) | (simp; omega))) | exact .v (by ((repeat apply Look.there rfl); exact Look.here)) (.f .nil) | exact .a (by ((repeat apply Look.there rfl); exact Look.here)) | skip) .nil), rfl⟩ -- LEAF 1: ret
  ·
    first | refine lAf ?_ | refine lAb ?_ | refine lAo ?_
    refine cl (c11 p) ?_
    first | refine lAf ?_ | refine lAb ?_ | refine lAo ?_
    refine cl (c12 p) ?_
    refine cl (c10 (ivF p)) ?_
    refine pkF ?_
    refine mv ?_
    refine gd (fun h2 => ?_) (fun h2 => ?_)
    ·
      refine cl (c13) ?_
      refine pkT ?_
      refine as_ ?_
      refine rNil ⟨rfl, ?_⟩
      refine awp_ret ?_
      exact ⟨.inr rfl, _, (.cons (by first | exact .v (by ((repeat apply Look.there rfl); exact Look.here)) (.f (.v _)) | exact .v (by ((repeat apply Look.there rfl); exact Look.here)) (.row rfl (by first | exact rfl | (simp; done) | (simp; omega))) | exact .v (by ((repeat apply Look.there rfl); exact Look.here)) (.f .nil) | exact .a (by ((repeat apply Look.there rfl); exact Look.here)) | skip) .nil), rfl⟩ -- LEAF 2: ret
    ·
      exact absurd h2 (by decide) -- END

end Go.Proofs.Ytnhljpbpfaablaa.VS
