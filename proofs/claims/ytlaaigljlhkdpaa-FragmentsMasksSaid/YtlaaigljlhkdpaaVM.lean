/- FragmentsMasks: each fragment lies in the rectangle, after the previous one, and covers a sample; its depths. Conditions: none. -/
import Derived.Test.YtlaaigljlhkdpaaVD
import Derived.Test.YtlaaigljlhkdpaaF13
namespace Go.Proofs.Ytlaaigljlhkdpaa.VS
open Go Go.RowKit Go.ChangeShapes Go.WideShapes Go.ChangeAt

theorem vm_fn (xs : List RV) (h : All2 (Top bdF) [(true, ctA)] xs) : Fn Try.prog 5 xs (.one (.v (.b true))) := by
  cases h with
  | cons h1 h =>
  cases h
  cases h1 with
  | agg h1 =>
  obtain ⟨a, rfl, _⟩ := dec_A _ h1
  exact c5 a

set_option maxRecDepth 100000 in
theorem vm_lifted (os : Os) (started : os.Started) (H : Type) (enc : TypeId × Value → H) :
    ReturnsInHanded {} Try.checked os 5 .any (Rows.fragmentsMasksSpec.pre6 enc Try.prog Try.f5 Rows.fragmentsMasksRow.domain false) (Rows.fragmentsMasksSpec.post enc Try.prog Try.f5 false true false false) := by
  refine returnsInHanded_of_change_sized (C := Try.checked) own started (by kernel_rfl) Try.func5
    (ChangeSpec.witness6 (enc := enc) (C := Try.checked) false ⟨#[], #[.agg #[.int .i64 0, .int .i64 0, .int .i64 0, .int .i64 0, .slice none 0 0, .int .i64 0, .int .i64 0, .int .i64 0, .int .i64 0, .slice none 0 0, .int .i64 0, .int .i64 0, .int .i64 0, .int .i64 0, .slice none 0 0, .int .i64 0, .bool false, .int .i64 0, .int .i64 0, .int .i64 0, .int .i64 0, .int .i64 0]], []⟩ 8 (by kernel_rfl) (by kernel_rfl) (by kernel_rfl) (by kernel_rfl)) ?_
  intro W base args ds gs before hval hW _ hw _
  refine law_contract (n := 20) (tb := 4) closedF laid rfl (by kernel_rfl) (by kernel_rfl) Try.underlying4 ?_ (by kernel_rfl) vm_fn hval hW (weights_in hw)
  intro ds h
  match ds, h with
  | [d1], _ => exact ⟨rfl, rfl, rfl⟩

theorem fragmentsMasks_holds : Rows.FragmentsMasksSaid :=
  OpenClaim.holds_of_wide 5 Try.f5 rfl rfl rfl rfl rfl rfl rfl ⟨rfl, rfl, rfl, rfl, rfl⟩ rfl rfl rfl rfl rfl (by kernel_rfl) Try.func5 (by kernel_rfl)
    (of_decide_eq_true (by kernel_rfl)) (by unfold Func.isWrapper; first | (rw [if_pos (by decide +kernel)]; kernel_rfl) | (rw [if_neg (by decide +kernel)]; exact ⟨rfl, rfl⟩))
    (fun os started H enc _ => vm_lifted os started H enc)
#print axioms fragmentsMasks_holds
end Go.Proofs.Ytlaaigljlhkdpaa.VS
