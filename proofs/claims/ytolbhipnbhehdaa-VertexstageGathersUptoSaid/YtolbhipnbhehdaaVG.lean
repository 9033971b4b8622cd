/- VertexstageGathers, where what it reads is of bulk at most 1048576: Gather returns what the reference returns, for any vertices and positions. Conditions: none. -/
import Derived.Test.YtolbhipnbhehdaaVD
import Derived.Test.YtolbhipnbhehdaaF2
namespace Go.Proofs.Ytolbhipnbhehdaa.VS
open Go Go.RowKit Go.ChangeShapes Go.WideShapes Go.ChangeAt

theorem dec_T3I {bd : Nat → Nat → Prop} : Dec bd [.i .i64, .i .i64, .i .i64] (T3 Int) (fun _ => True) := by
  intro x h
  cases h with
  | cons h1 h =>
  cases h with
  | cons h2 h =>
  cases h with
  | cons h3 h =>
  cases h
  obtain ⟨a, rfl, _⟩ := has_int h1
  obtain ⟨b, rfl, _⟩ := has_int h2
  obtain ⟨c, rfl, _⟩ := has_int h3
  exact ⟨⟨a, b, c⟩, rfl, trivial⟩
theorem vg_fn (xs : List RV) (h : All2 (Top bdU) [(false, [.sl 56 [.i .i64, .i .i64, .i .i64, .i .i64, .sl 8 [.i .i64]]]), (false, [.sl 24 [.i .i64, .i .i64, .i .i64]])] xs) : Fn Try.prog 4 xs (.one (.v (.b true))) := by
  cases h with
  | cons h1 h =>
  cases h with
  | cons h2 h =>
  cases h
  cases h1 with
  | one h1 =>
  cases h2 with
  | one h2 =>
  obtain ⟨l, rfl, _, _, hl⟩ := has_list dec_V h1
  obtain ⟨ps, rfl, hp, _, _⟩ := has_list dec_T3I h2
  exact c4 l ps hp hl

set_option maxRecDepth 100000 in
theorem vg_lifted (os : Os) (started : os.Started) (H : Type) (enc : TypeId × Value → H) (F : Stop.Interp) :
    ReturnsInHanded {} Try.checked os 4 .any ((Rows.OpenSpec.upto Rows.vertexstageGathersSpec).pre6 enc Try.prog Try.f4 Rows.vertexstageGathersUptoRow.domain false) (((Rows.OpenSpec.upto Rows.vertexstageGathersSpec).at F).post enc Try.prog Try.f4 false true false false) := by
  refine returnsInHanded_of_cond (C := Try.checked) (s := Rows.OpenSpec.upto Rows.vertexstageGathersSpec) (k := Rows.uptoSmall) rfl own started (by kernel_rfl) Try.func4
    (OpenSpec.witness (enc := enc) (C := Try.checked) (s := Rows.OpenSpec.upto Rows.vertexstageGathersSpec) (k := Rows.uptoSmall) rfl false ⟨#[], #[.slice none 0 0, .slice none 0 0], []⟩ 8 (by kernel_rfl) (by kernel_rfl) (by kernel_rfl)
      (x := ([.nil, .nil], [], [])) (by kernel_rfl) rfl (by kernel_rfl)) ?_
  intro W base args ds gs before hval hW _ hk _
  refine law_contract (n := 20) (tb := 4) closedU laid rfl (by kernel_rfl) (by kernel_rfl) Try.underlying4 ?_ (by kernel_rfl) vg_fn hval hW (bulk_in hk _)
  intro ds h
  match ds, h with
  | [d1, d2], _ => exact ⟨rfl, rfl, rfl⟩

theorem vertexstageGathersUpto_holds : Rows.VertexstageGathersUptoSaid :=
  OpenClaim.holds_of_cond 4 Try.f4 rfl rfl rfl rfl rfl rfl rfl ⟨rfl, rfl, rfl, rfl, rfl⟩ rfl rfl rfl rfl rfl (by kernel_rfl) Try.func4 (by kernel_rfl)
    (of_decide_eq_true (by kernel_rfl)) (by unfold Func.isWrapper; first | (rw [if_pos (by decide +kernel)]; kernel_rfl) | (rw [if_neg (by decide +kernel)]; exact ⟨rfl, rfl⟩))
    (fun os started H enc _ F => vg_lifted os started H enc F)
#print axioms vertexstageGathersUpto_holds
end Go.Proofs.Ytolbhipnbhehdaa.VS
