/- VertexstageVertices: VertexOf and Equal return what the reference returns, for any outputs and vertices. Conditions: none. -/
import Derived.Test.YtolbhipnbhehdaaR3
import Derived.Test.YtolbhipnbhehdaaF1
namespace Go.Proofs.Ytolbhipnbhehdaa.VS
open Go Go.RowKit Go.ChangeShapes Go.WideShapes Go.ChangeAt

theorem own : ownKnob Try.prog.godebug = none := by kernel_rfl
theorem laid : laidOutB Try.prog = true := by kernel_rfl
theorem dec_V {bd : Nat → Nat → Prop} : Dec bd [.i .i64, .i .i64, .i .i64, .i .i64, .sl 8 [.i .i64]] V (fun v => bd 8 v.vs.length) := by
  intro x h
  cases h with
  | cons h1 h =>
  cases h with
  | cons h2 h =>
  cases h with
  | cons h3 h =>
  cases h with
  | cons h4 h =>
  cases h with
  | cons h5 h =>
  cases h
  obtain ⟨a, rfl, _⟩ := has_int h1
  obtain ⟨b, rfl, _⟩ := has_int h2
  obtain ⟨c, rfl, _⟩ := has_int h3
  obtain ⟨d, rfl, _⟩ := has_int h4
  obtain ⟨l, rfl, hl, _⟩ := has_list dec_int h5
  exact ⟨⟨a, b, c, d, l⟩, rfl, hl⟩
theorem vv_fn (xs : List RV) (h : All2 (Top bdF) [(false, [.sl 8 [.i .i64]]), (true, [.i .i64, .i .i64, .i .i64, .i .i64, .sl 8 [.i .i64]]), (true, [.i .i64, .i .i64, .i .i64, .i .i64, .sl 8 [.i .i64]])] xs) : Fn Try.prog 3 xs (.one (.v (.b true))) := by
  cases h with
  | cons h1 h =>
  cases h with
  | cons h2 h =>
  cases h with
  | cons h3 h =>
  cases h
  cases h1 with
  | one h1 =>
  cases h2 with
  | agg h2 =>
  cases h3 with
  | agg h3 =>
  obtain ⟨l, rfl, hl, _⟩ := has_list dec_int h1
  obtain ⟨a, rfl, _⟩ := dec_V _ h2
  obtain ⟨b, rfl, _⟩ := dec_V _ h3
  exact c3 l a b (by simp only [bdF] at hl; omega)

set_option maxRecDepth 100000 in
theorem vv_lifted (os : Os) (started : os.Started) (H : Type) (enc : TypeId × Value → H) :
    ReturnsInHanded {} Try.checked os 3 .any (Rows.vertexstageVerticesSpec.pre6 enc Try.prog Try.f3 Rows.vertexstageVerticesRow.domain false) (Rows.vertexstageVerticesSpec.post enc Try.prog Try.f3 false true false false) := by
  refine returnsInHanded_of_change_sized (C := Try.checked) own started (by kernel_rfl) Try.func3
    (ChangeSpec.witness6 (enc := enc) (C := Try.checked) false ⟨#[], #[.slice none 0 0, .agg #[.int .i64 0, .int .i64 0, .int .i64 0, .int .i64 0, .slice none 0 0], .agg #[.int .i64 0, .int .i64 0, .int .i64 0, .int .i64 0, .slice none 0 0]], []⟩ 8 (by kernel_rfl) (by kernel_rfl) (by kernel_rfl) (by kernel_rfl)) ?_
  intro W base args ds gs before hval hW _ hw _
  refine law_contract (n := 20) (tb := 4) closedF laid rfl (by kernel_rfl) (by kernel_rfl) Try.underlying4 ?_ (by kernel_rfl) vv_fn hval hW (weights_in hw)
  intro ds h
  match ds, h with
  | [d1, d2, d3], _ => exact ⟨rfl, rfl, rfl⟩

theorem vertexstageVertices_holds : Rows.VertexstageVerticesSaid :=
  OpenClaim.holds_of_wide 3 Try.f3 rfl rfl rfl rfl rfl rfl rfl ⟨rfl, rfl, rfl, rfl, rfl⟩ rfl rfl rfl rfl rfl (by kernel_rfl) Try.func3 (by kernel_rfl)
    (of_decide_eq_true (by kernel_rfl)) (by unfold Func.isWrapper; first | (rw [if_pos (by decide +kernel)]; kernel_rfl) | (rw [if_neg (by decide +kernel)]; exact ⟨rfl, rfl⟩))
    (fun os started H enc _ => vv_lifted os started H enc)
#print axioms vertexstageVertices_holds
end Go.Proofs.Ytolbhipnbhehdaa.VS
