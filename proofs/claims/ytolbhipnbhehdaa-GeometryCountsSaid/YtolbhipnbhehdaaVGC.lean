/- GeometryCounts: no strip is empty, the strips hold all emitted vertices, each has as many triangles as vertices minus two. Conditions: none. -/
import Derived.Test.YtolbhipnbhehdaaGD
import Derived.Test.YtolbhipnbhehdaaF12
namespace Go.Proofs.Ytolbhipnbhehdaa.VS
open Go Go.RowKit Go.ChangeShapes Go.WideShapes Go.ChangeAt

theorem gc_fn (xs : List RV) (h : All2 (Top bdF) [(true, [.sl 8 [.i .i64], .b, .sl 24 [.sl 8 [.i .i64]], .sl 8 [.i .i64]])] xs) : Fn Try.prog 7 xs (.one (.v (.b true))) := by
  cases h with
  | cons h1 h =>
  cases h
  cases h1 with
  | agg h1 =>
  obtain ⟨r, rfl, hl⟩ := dec_LR _ h1
  exact c7 r (fun l hm => by have := hl l hm; simp only [bdF] at this; omega)

set_option maxRecDepth 100000 in
theorem gc_lifted (os : Os) (started : os.Started) (H : Type) (enc : TypeId × Value → H) :
    ReturnsInHanded {} Try.checked os 7 .any (Rows.geometryCountsSpec.pre6 enc Try.prog Try.f7 Rows.geometryCountsRow.domain false) (Rows.geometryCountsSpec.post enc Try.prog Try.f7 false true false false) := by
  refine returnsInHanded_of_change_sized (C := Try.checked) own started (by kernel_rfl) Try.func7
    (ChangeSpec.witness6 (enc := enc) (C := Try.checked) false ⟨#[], #[.agg #[.slice none 0 0, .bool false, .slice none 0 0, .slice none 0 0]], []⟩ 8 (by kernel_rfl) (by kernel_rfl) (by kernel_rfl) (by kernel_rfl)) ?_
  intro W base args ds gs before hval hW _ hw _
  refine law_contract (n := 20) (tb := 4) closedF laid rfl (by kernel_rfl) (by kernel_rfl) Try.underlying4 ?_ (by kernel_rfl) gc_fn hval hW (weights_in hw)
  intro ds h
  match ds, h with
  | [d1], _ => exact ⟨rfl, rfl, rfl⟩

theorem geometryCounts_holds : Rows.GeometryCountsSaid :=
  OpenClaim.holds_of_wide 7 Try.f7 rfl rfl rfl rfl rfl rfl rfl ⟨rfl, rfl, rfl, rfl, rfl⟩ rfl rfl rfl rfl rfl (by kernel_rfl) Try.func7 (by kernel_rfl)
    (of_decide_eq_true (by kernel_rfl)) (by unfold Func.isWrapper; first | (rw [if_pos (by decide +kernel)]; kernel_rfl) | (rw [if_neg (by decide +kernel)]; exact ⟨rfl, rfl⟩))
    (fun os started H enc _ => gc_lifted os started H enc)
#print axioms geometryCounts_holds
end Go.Proofs.Ytolbhipnbhehdaa.VS
