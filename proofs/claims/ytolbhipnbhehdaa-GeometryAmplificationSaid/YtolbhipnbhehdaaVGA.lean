/- GeometryAmplification: Amplification returns the number of triangles of all results. Conditions: none. -/
import Derived.Test.YtolbhipnbhehdaaGD
import Derived.Test.YtolbhipnbhehdaaF12
namespace Go.Proofs.Ytolbhipnbhehdaa.VS
open Go Go.RowKit Go.ChangeShapes Go.WideShapes Go.ChangeAt

theorem ga_fn (xs : List RV) (h : All2 (Top bdF) [(false, [.sl 80 [.sl 8 [.i .i64], .b, .sl 24 [.sl 8 [.i .i64]], .sl 8 [.i .i64]]])] xs) : Fn Try.prog 6 xs (.one (.v (.b true))) := by
  cases h with
  | cons h1 h =>
  cases h
  cases h1 with
  | one h1 =>
  obtain ⟨rs, rfl, _, _, hl⟩ := has_list dec_LR h1
  exact c6 rs (fun r hr l hm => by have := hl r hr l hm; simp only [bdF] at this; omega)

set_option maxRecDepth 100000 in
theorem ga_lifted (os : Os) (started : os.Started) (H : Type) (enc : TypeId × Value → H) :
    ReturnsInHanded {} Try.checked os 6 .any (Rows.geometryAmplificationSpec.pre6 enc Try.prog Try.f6 Rows.geometryAmplificationRow.domain false) (Rows.geometryAmplificationSpec.post enc Try.prog Try.f6 false true false false) := by
  refine returnsInHanded_of_change_sized (C := Try.checked) own started (by kernel_rfl) Try.func6
    (ChangeSpec.witness6 (enc := enc) (C := Try.checked) false ⟨#[], #[.slice none 0 0], []⟩ 8 (by kernel_rfl) (by kernel_rfl) (by kernel_rfl) (by kernel_rfl)) ?_
  intro W base args ds gs before hval hW _ hw _
  refine law_contract (n := 20) (tb := 4) closedF laid rfl (by kernel_rfl) (by kernel_rfl) Try.underlying4 ?_ (by kernel_rfl) ga_fn hval hW (weights_in hw)
  intro ds h
  match ds, h with
  | [d1], _ => exact ⟨rfl, rfl, rfl⟩

theorem geometryAmplification_holds : Rows.GeometryAmplificationSaid :=
  OpenClaim.holds_of_wide 6 Try.f6 rfl rfl rfl rfl rfl rfl rfl ⟨rfl, rfl, rfl, rfl, rfl⟩ rfl rfl rfl rfl rfl (by kernel_rfl) Try.func6 (by kernel_rfl)
    (of_decide_eq_true (by kernel_rfl)) (by unfold Func.isWrapper; first | (rw [if_pos (by decide +kernel)]; kernel_rfl) | (rw [if_neg (by decide +kernel)]; exact ⟨rfl, rfl⟩))
    (fun os started H enc _ => ga_lifted os started H enc)
#print axioms geometryAmplification_holds
end Go.Proofs.Ytolbhipnbhehdaa.VS
