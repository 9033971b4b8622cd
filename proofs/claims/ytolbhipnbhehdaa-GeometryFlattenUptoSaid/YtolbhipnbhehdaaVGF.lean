/- GeometryFlatten, where what it reads is of bulk at most 1048576: Flatten returns the inputs for every triangle. Conditions: none. -/
import Derived.Test.YtolbhipnbhehdaaGD
import Derived.Test.YtolbhipnbhehdaaF13
namespace Go.Proofs.Ytolbhipnbhehdaa.VS
open Go Go.RowKit Go.ChangeShapes Go.WideShapes Go.ChangeAt

theorem split5 {bd : Nat → Nat → Prop} {l : List CT} {x : List FV} (h : All2 (Has bd) ([.i .i64, .i .i64, .i .i64, .i .i64, .sl 8 [.i .i64]] ++ l) x) : ∃ (v : V) (y : List FV), x = Enc.c v ++ y ∧ bd 8 v.vs.length ∧ All2 (Has bd) l y := by
  cases h with
  | cons h1 h =>
  cases h with
  | cons h2 h =>
  cases h with
  | cons h3 h =>
  cases h with
  | cons h4 h =>
  cases h with
  | cons h5 h =>
  obtain ⟨a, rfl, _⟩ := has_int h1
  obtain ⟨b, rfl, _⟩ := has_int h2
  obtain ⟨c, rfl, _⟩ := has_int h3
  obtain ⟨d, rfl, _⟩ := has_int h4
  obtain ⟨e, rfl, he, _⟩ := has_list dec_int h5
  exact ⟨⟨a, b, c, d, e⟩, _, rfl, he, h⟩
theorem gf_fn (xs : List RV) (h : All2 (Top bdU) [(true, [.i .i64, .i .i64, .i .i64, .i .i64, .sl 8 [.i .i64], .i .i64, .i .i64, .i .i64, .i .i64, .sl 8 [.i .i64], .i .i64, .i .i64, .i .i64, .i .i64, .sl 8 [.i .i64]])] xs) : Fn Try.prog 8 xs (.one (.v (.b true))) := by
  cases h with
  | cons h1 h =>
  cases h
  cases h1 with
  | agg h1 =>
  obtain ⟨a, y, rfl, ha, h2⟩ := split5 h1
  obtain ⟨b, z, rfl, hb, h3⟩ := split5 h2
  obtain ⟨c, u, rfl, hc, h4⟩ := split5 (l := []) h3
  cases h4
  rw [List.append_nil]
  exact c8 ⟨a, b, c⟩ ⟨ha, hb, hc⟩

set_option maxRecDepth 100000 in
theorem gf_lifted (os : Os) (started : os.Started) (H : Type) (enc : TypeId × Value → H) (F : Stop.Interp) :
    ReturnsInHanded {} Try.checked os 8 .any ((Rows.OpenSpec.upto Rows.geometryFlattenSpec).pre6 enc Try.prog Try.f8 Rows.geometryFlattenUptoRow.domain false) (((Rows.OpenSpec.upto Rows.geometryFlattenSpec).at F).post enc Try.prog Try.f8 false true false false) := by
  refine returnsInHanded_of_cond (C := Try.checked) (s := Rows.OpenSpec.upto Rows.geometryFlattenSpec) (k := Rows.uptoSmall) rfl own started (by kernel_rfl) Try.func8
    (OpenSpec.witness (enc := enc) (C := Try.checked) (s := Rows.OpenSpec.upto Rows.geometryFlattenSpec) (k := Rows.uptoSmall) rfl false ⟨#[], #[.agg #[.int .i64 0, .int .i64 0, .int .i64 0, .int .i64 0, .slice none 0 0, .int .i64 0, .int .i64 0, .int .i64 0, .int .i64 0, .slice none 0 0, .int .i64 0, .int .i64 0, .int .i64 0, .int .i64 0, .slice none 0 0]], []⟩ 8 (by kernel_rfl) (by kernel_rfl) (by kernel_rfl)
      (x := ([.agg [.agg [.agg [.lit (.int .i64 0), .lit (.int .i64 0), .lit (.int .i64 0), .lit (.int .i64 0)], .nil], .agg [.agg [.lit (.int .i64 0), .lit (.int .i64 0), .lit (.int .i64 0), .lit (.int .i64 0)], .nil], .agg [.agg [.lit (.int .i64 0), .lit (.int .i64 0), .lit (.int .i64 0), .lit (.int .i64 0)], .nil]]], [], [])) (by kernel_rfl) rfl (by kernel_rfl)) ?_
  intro W base args ds gs before hval hW _ hk _
  refine law_contract (n := 20) (tb := 4) closedU laid rfl (by kernel_rfl) (by kernel_rfl) Try.underlying4 ?_ (by kernel_rfl) gf_fn hval hW (bulk_in hk _)
  intro ds h
  match ds, h with
  | [d1], _ => exact ⟨rfl, rfl, rfl⟩

theorem geometryFlattenUpto_holds : Rows.GeometryFlattenUptoSaid :=
  OpenClaim.holds_of_cond 8 Try.f8 rfl rfl rfl rfl rfl rfl rfl ⟨rfl, rfl, rfl, rfl, rfl⟩ rfl rfl rfl rfl rfl (by kernel_rfl) Try.func8 (by kernel_rfl)
    (of_decide_eq_true (by kernel_rfl)) (by unfold Func.isWrapper; first | (rw [if_pos (by decide +kernel)]; kernel_rfl) | (rw [if_neg (by decide +kernel)]; exact ⟨rfl, rfl⟩))
    (fun os started H enc _ F => gf_lifted os started H enc F)
#print axioms geometryFlattenUpto_holds
end Go.Proofs.Ytolbhipnbhehdaa.VS
