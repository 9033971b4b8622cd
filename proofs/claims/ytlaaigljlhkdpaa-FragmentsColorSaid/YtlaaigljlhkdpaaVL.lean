/- FragmentsColor: ColorOf, Samples and Equal return the specified results for all results of lanes and fragments. Conditions: none. -/
import Derived.Test.YtlaaigljlhkdpaaVD
import Derived.Test.YtlaaigljlhkdpaaF14
namespace Go.Proofs.Ytlaaigljlhkdpaa.VS
open Go Go.RowKit Go.ChangeShapes Go.WideShapes Go.ChangeAt

theorem dec_LR {bd : Nat → Nat → Prop} : Dec bd [.sl 8 [.i .i64], .b, .sl 24 [.sl 8 [.i .i64]], .sl 8 [.i .i64]] LR (fun _ => True) := by
  intro x h
  cases h with
  | cons h1 h =>
  cases h with
  | cons h2 h =>
  cases h with
  | cons h3 h =>
  cases h with
  | cons h4 h =>
  cases h
  obtain ⟨a, rfl, _⟩ := has_list dec_int h1
  obtain ⟨b, rfl⟩ := has_bool h2
  obtain ⟨c, rfl, _⟩ := has_list (dec_list dec_int) h3
  obtain ⟨d, rfl, _⟩ := has_list dec_int h4
  exact ⟨⟨a, b, c, d⟩, rfl, trivial⟩
theorem dec_F {bd : Nat → Nat → Prop} : Dec bd [.i .i64, .i .i64, .i .i64, .i .i64, .b, .sl 8 [.i .i64], .sl 8 [.i .i64]] Frag (fun _ => True) := by
  intro x h
  cases h with
  | cons h1 h =>
  cases h with
  | cons h2 h =>
  cases h with
  | cons h3 h =>
  cases h with
  | cons h4 h =>
  cases h with
  | cons h5 h =>
  cases h with
  | cons h6 h =>
  cases h with
  | cons h7 h =>
  cases h
  obtain ⟨a, rfl, _⟩ := has_int h1
  obtain ⟨b, rfl, _⟩ := has_int h2
  obtain ⟨c, rfl, _⟩ := has_int h3
  obtain ⟨d, rfl, _⟩ := has_int h4
  obtain ⟨e, rfl⟩ := has_bool h5
  obtain ⟨f, rfl, _⟩ := has_list dec_int h6
  obtain ⟨g, rfl, _⟩ := has_list dec_int h7
  exact ⟨⟨a, b, c, d, e, f, g⟩, rfl, trivial⟩
theorem vl_fn (xs : List RV) (h : All2 (Top bdF) [(true, [.sl 8 [.i .i64], .b, .sl 24 [.sl 8 [.i .i64]], .sl 8 [.i .i64]]), (false, [.sl 88 [.i .i64, .i .i64, .i .i64, .i .i64, .b, .sl 8 [.i .i64], .sl 8 [.i .i64]]])] xs) : Fn Try.prog 6 xs (.one (.v (.b true))) := by
  cases h with
  | cons h1 h =>
  cases h with
  | cons h2 h =>
  cases h
  cases h1 with
  | agg h1 =>
  cases h2 with
  | one h2 =>
  obtain ⟨r, rfl, _⟩ := dec_LR _ h1
  obtain ⟨l, rfl, _⟩ := has_list dec_F h2
  exact c6 r l

set_option maxRecDepth 100000 in
theorem vl_lifted (os : Os) (started : os.Started) (H : Type) (enc : TypeId × Value → H) :
    ReturnsInHanded {} Try.checked os 6 .any (Rows.fragmentsColorSpec.pre6 enc Try.prog Try.f6 Rows.fragmentsColorRow.domain false) (Rows.fragmentsColorSpec.post enc Try.prog Try.f6 false true false false) := by
  refine returnsInHanded_of_change_sized (C := Try.checked) own started (by kernel_rfl) Try.func6
    (ChangeSpec.witness6 (enc := enc) (C := Try.checked) false ⟨#[], #[.agg #[.slice none 0 0, .bool false, .slice none 0 0, .slice none 0 0], .slice none 0 0], []⟩ 8 (by kernel_rfl) (by kernel_rfl) (by kernel_rfl) (by kernel_rfl)) ?_
  intro W base args ds gs before hval hW _ hw _
  refine law_contract (n := 20) (tb := 4) closedF laid rfl (by kernel_rfl) (by kernel_rfl) Try.underlying4 ?_ (by kernel_rfl) vl_fn hval hW (weights_in hw)
  intro ds h
  match ds, h with
  | [d1, d2], _ => exact ⟨rfl, rfl, rfl⟩

theorem fragmentsColor_holds : Rows.FragmentsColorSaid :=
  OpenClaim.holds_of_wide 6 Try.f6 rfl rfl rfl rfl rfl rfl rfl ⟨rfl, rfl, rfl, rfl, rfl⟩ rfl rfl rfl rfl rfl (by kernel_rfl) Try.func6 (by kernel_rfl)
    (of_decide_eq_true (by kernel_rfl)) (by unfold Func.isWrapper; first | (rw [if_pos (by decide +kernel)]; kernel_rfl) | (rw [if_neg (by decide +kernel)]; exact ⟨rfl, rfl⟩))
    (fun os started H enc _ => vl_lifted os started H enc)
#print axioms fragmentsColor_holds
end Go.Proofs.Ytlaaigljlhkdpaa.VS
