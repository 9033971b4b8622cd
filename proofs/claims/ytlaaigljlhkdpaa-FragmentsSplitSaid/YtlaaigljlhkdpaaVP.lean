/- FragmentsSplit: the fragments of a rectangle that is divided by a vertical line are those of its two parts. Conditions: none. -/
import Derived.Test.YtlaaigljlhkdpaaVD
import Derived.Test.YtlaaigljlhkdpaaF12
namespace Go.Proofs.Ytlaaigljlhkdpaa.VS
open Go Go.RowKit Go.ChangeShapes Go.WideShapes Go.ChangeAt

theorem vp_fn (xs : List RV) (h : All2 (Top bdF) [(true, ctA), (false, [.i .i64])] xs) : Fn Try.prog 4 xs (.one (.v (.b true))) := by
  cases h with
  | cons h1 h =>
  cases h with
  | cons h2 h =>
  cases h
  cases h1 with
  | agg h1 =>
  cases h2 with
  | one h2 =>
  obtain ⟨a, rfl, _⟩ := dec_A _ h1
  obtain ⟨c, rfl, _⟩ := has_int h2
  exact c4 a c

set_option maxRecDepth 100000 in
theorem vp_lifted (os : Os) (started : os.Started) (H : Type) (enc : TypeId × Value → H) :
    ReturnsInHanded {} Try.checked os 4 .any (Rows.fragmentsSplitSpec.pre6 enc Try.prog Try.f4 Rows.fragmentsSplitRow.domain false) (Rows.fragmentsSplitSpec.post enc Try.prog Try.f4 false true false false) := by
  refine returnsInHanded_of_change_sized (C := Try.checked) own started (by kernel_rfl) Try.func4
    (ChangeSpec.witness6 (enc := enc) (C := Try.checked) false ⟨#[], #[.agg #[.int .i64 0, .int .i64 0, .int .i64 0, .int .i64 0, .slice none 0 0, .int .i64 0, .int .i64 0, .int .i64 0, .int .i64 0, .slice none 0 0, .int .i64 0, .int .i64 0, .int .i64 0, .int .i64 0, .slice none 0 0, .int .i64 0, .bool false, .int .i64 0, .int .i64 0, .int .i64 0, .int .i64 0, .int .i64 0], .int .i64 0], []⟩ 8 (by kernel_rfl) (by kernel_rfl) (by kernel_rfl) (by kernel_rfl)) ?_
  intro W base args ds gs before hval hW _ hw _
  refine law_contract (n := 20) (tb := 4) closedF laid rfl (by kernel_rfl) (by kernel_rfl) Try.underlying4 ?_ (by kernel_rfl) vp_fn hval hW (weights_in hw)
  intro ds h
  match ds, h with
  | [d1, d2], _ => exact ⟨rfl, rfl, rfl⟩

theorem fragmentsSplit_holds : Rows.FragmentsSplitSaid :=
  OpenClaim.holds_of_wide 4 Try.f4 rfl rfl rfl rfl rfl rfl rfl ⟨rfl, rfl, rfl, rfl, rfl⟩ rfl rfl rfl rfl rfl (by kernel_rfl) Try.func4 (by kernel_rfl)
    (of_decide_eq_true (by kernel_rfl)) (by unfold Func.isWrapper; first | (rw [if_pos (by decide +kernel)]; kernel_rfl) | (rw [if_neg (by decide +kernel)]; exact ⟨rfl, rfl⟩))
    (fun os started H enc _ => vp_lifted os started H enc)
#print axioms fragmentsSplit_holds
end Go.Proofs.Ytlaaigljlhkdpaa.VS
