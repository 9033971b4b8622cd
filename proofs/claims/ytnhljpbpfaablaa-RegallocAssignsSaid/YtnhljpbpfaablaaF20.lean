/- RegallocAssigns: Pressure and Assign return what the reference returns, for any program (of at most 200 registers and 400 instructions). Conditions: none. -/
import Derived.Test.YtnhljpbpfaablaaPL
import Derived.Test.YtnhljpbpfaablaaVD
set_option linter.unusedVariables false
set_option linter.unusedSimpArgs false
namespace Go.Proofs.Ytnhljpbpfaablaa.VS
open Go Go.RowKit Go.ChangeShapes Go.WideShapes Go.ChangeAt
theorem c14' (p : Prg) (h : p.code.length ≤ 16384) : Fn Try.prog 14 [A p] (.one (I (rpres (ivF p)))) := by
  have hf := fin_of (ivF_okL h)
  rw [rpres_eq hf, ← pres_eq hf]
  exact c14 p (by omega)
theorem c18' (p : Prg) (h : p.code.length ≤ 16384) : Fn Try.prog 18 [A p] (.one (L (asg (ivF p)))) := by
  rw [(asg_main (ivF_okL h)).1]
  exact c18 p h
/-- frustum/frustumlaw25.RegallocAssigns -/
theorem c4 (p : Prg) : Fn Try.prog 4 [A p] (.one (B true)) := by
  refine fnI Try.func4 Try.ntmps4 fun hb => ?_
  refine sg ?_
  refine bx _ ?_
  refine as_ ?_
  refine rNil ?_
  refine sd mixO ?_
  first | refine lAf ?_ | refine lAb ?_ | refine lAo ?_
  refine cl (c9 p) ?_
  refine nt ?_
  refine mv ?_
  refine gd (fun h1 => ?_) (fun h1 => ?_)
  ·
    refine no ?_
    refine no ?_
    refine no ?_
    refine no ?_
    refine no ?_
    refine no ?_
    refine noU ?_
    refine noU ?_
    refine noU ?_
    refine noU ?_
    refine noU ?_
    refine no ?_
    refine pkT ?_
    refine mv ?_
    refine cl (c13) ?_
    refine pkT ?_
    refine as_ ?_
    refine rNil ⟨rfl, ?_⟩
    refine awp_ret ?_
    exact ⟨.inr rfl, _, (.cons (by first | exact .v (by ((repeat apply Look.there rfl); exact Look.here)) (.f (.v _)) | exact .v (by ((repeat apply Look.there rfl); exact Look.here)) (.row rfl (by first | exact rfl | (simp; done) | (simp; omega))) | exact .v (by ((repeat apply Look.there rfl); exact Look.here)) (.f .nil) | exact .a (by ((repeat apply Look.there rfl); exact Look.here)) | skip) .nil), rfl⟩ -- LEAF 1: ret
  ·
    have hsm : p.code.length ≤ 16384 := by simp at h1; omega
    first | refine lAf ?_ | refine lAb ?_ | refine lAo ?_
    refine cl (c14' p hsm) ?_
    first | refine lAf ?_ | refine lAb ?_ | refine lAo ?_
    refine cl (c15 p) ?_
    refine bo (hz := by exact rfl) ?_
    refine mv ?_
    refine gd (fun h2 => ?_) (fun h2 => ?_)
    ·
      first | refine lAf ?_ | refine lAb ?_ | refine lAo ?_
      refine cl (c17 p) ?_
      first | refine lAf ?_ | refine lAb ?_ | refine lAo ?_
      refine cl (c18' p hsm) ?_
      refine cl (c16 (asg (ivF p))) ?_
      refine pkT ?_
      refine pkF ?_
      refine mv ?_
      refine gd (fun h3 => ?_) (fun h3 => ?_)
      ·
        refine cl (c13) ?_
        refine pkT ?_
        refine as_ ?_
        refine rNil ⟨rfl, ?_⟩
        refine awp_ret ?_
        exact ⟨.inr rfl, _, (.cons (by first | exact .v (by ((repeat apply Look.there rfl); exact Look.here)) (.f (.v _)) | exact .v (by ((repeat apply Look.there rfl); exact Look.here)) (.row rfl (by first | exact rfl | (simp; done) | (simp; omega))) | exact .v (by ((repeat apply Look.there rfl); exact Look.here)) (.f .nil) | exact .a (by ((repeat apply Look.there rfl); exact Look.here)) | skip) .nil), rfl⟩ -- LEAF 2: ret
      ·
        exact absurd h3 (by decide) -- END
    ·
      simp at h2 -- END

set_option maxRecDepth 100000 in
theorem va_lifted (os : Os) (started : os.Started) (H : Type) (enc : TypeId × Value → H) :
    ReturnsInHanded {} Try.checked os 4 .any (Rows.regallocAssignsSpec.pre6 enc Try.prog Try.f4 Rows.regallocAssignsRow.domain false) (Rows.regallocAssignsSpec.post enc Try.prog Try.f4 false true false false) := by
  refine returnsInHanded_of_change_sized (C := Try.checked) own started (by kernel_rfl) Try.func4
    (ChangeSpec.witness6 (enc := enc) (C := Try.checked) false ⟨#[], #[.agg #[.int .i64 0, .int .i64 0, .int .i64 0, .int .i64 0, .int .i64 0, .int .i64 0, .int .i64 0, .slice none 0 0]], []⟩ 8 (by kernel_rfl) (by kernel_rfl) (by kernel_rfl) (by kernel_rfl)) ?_
  intro W base args ds gs before hval hW _ hw _
  refine law_contract (n := 20) (tb := 4) closedF laid rfl (by kernel_rfl) (by kernel_rfl) Try.underlying4 ?_ (by kernel_rfl) (all_P (f := 4) fun p hp => c4 p) hval hW (weights_in hw)
  intro ds h
  match ds, h with
  | [d1], _ => exact ⟨rfl, rfl, rfl⟩

theorem regallocAssigns_holds : Rows.RegallocAssignsSaid :=
  OpenClaim.holds_of_wide 4 Try.f4 rfl rfl rfl rfl rfl rfl rfl ⟨rfl, rfl, rfl, rfl, rfl⟩ rfl rfl rfl rfl rfl (by kernel_rfl) Try.func4 (by kernel_rfl)
    (of_decide_eq_true (by kernel_rfl)) (by unfold Func.isWrapper; first | (rw [if_pos (by decide +kernel)]; kernel_rfl) | (rw [if_neg (by decide +kernel)]; exact ⟨rfl, rfl⟩))
    (fun os started H enc _ => va_lifted os started H enc)
#print axioms regallocAssigns_holds
end Go.Proofs.Ytnhljpbpfaablaa.VS
