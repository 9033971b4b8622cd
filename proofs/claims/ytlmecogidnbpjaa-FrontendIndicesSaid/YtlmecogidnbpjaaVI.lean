/- FrontendIndices: Indices returns what the reference returns, for any index buffer and any range. Conditions: none. -/
import Derived.Test.YtlmecogidnbpjaaVD
import Derived.Test.YtlmecogidnbpjaaF11
namespace Go.Proofs.Ytlmecogidnbpjaa.VS
open Go Go.RowKit Go.ChangeShapes Go.WideShapes Go.ChangeAt

theorem dec_byt {bd : Nat → Nat → Prop} : Dec bd [.i .u8] Byt (fun b => b.n < 256) := by
  intro x h
  cases h with
  | cons h t =>
  cases t
  cases h with
  | i k n h =>
  have h2 : (0 : Int) ≤ n ∧ n ≤ 255 := by simpa [Lit.wf, IntKind.min, IntKind.max, IntKind.signed, IntKind.bits] using h
  exact ⟨⟨n.toNat⟩, by show _ = [FV.i .u8 (n.toNat : Nat)]; rw [Int.toNat_of_nonneg h2.1], by show n.toNat < 256; omega⟩

theorem vi_fn (xs : List RV) (h : All2 (Top bdF) [(false, [.sl 1 [.i .u8]]), (false, [.i .i64]), (false, [.i .i64]), (false, [.i .i64])] xs) : Fn Try.prog 4 xs (.one (.v (.b true))) := by
  cases h with
  | cons h1 h =>
  cases h with
  | cons h2 h =>
  cases h with
  | cons h3 h =>
  cases h with
  | cons h4 h =>
  cases h
  cases h1 with
  | one h1 =>
  cases h2 with
  | one h2 =>
  cases h3 with
  | one h3 =>
  cases h4 with
  | one h4 =>
  obtain ⟨l, rfl, _, _, hf⟩ := has_list dec_byt h1
  obtain ⟨t, rfl, _⟩ := has_int h2
  obtain ⟨f, rfl, _⟩ := has_int h3
  obtain ⟨c, rfl, _⟩ := has_int h4
  exact c4 l t f c hf

set_option maxRecDepth 100000 in
theorem vi_lifted (os : Os) (started : os.Started) (H : Type) (enc : TypeId × Value → H) :
    ReturnsInHanded {} Try.checked os 4 .any (Rows.frontendIndicesSpec.pre6 enc Try.prog Try.f4 Rows.frontendIndicesRow.domain false) (Rows.frontendIndicesSpec.post enc Try.prog Try.f4 false true false false) := by
  refine returnsInHanded_of_change_sized (C := Try.checked) own started (by kernel_rfl) Try.func4
    (ChangeSpec.witness6 (enc := enc) (C := Try.checked) false ⟨#[], #[.slice none 0 0, .int .i64 0, .int .i64 0, .int .i64 0], []⟩ 8 (by kernel_rfl) (by kernel_rfl) (by kernel_rfl) (by kernel_rfl)) ?_
  intro W base args ds gs before hval hW _ hw _
  refine law_contract (n := 20) (tb := 4) closedF laid rfl (by kernel_rfl) (by kernel_rfl) Try.underlying4 ?_ (by kernel_rfl) vi_fn hval hW (weights_in hw)
  intro ds h
  match ds, h with
  | [d1, d2, d3, d4], _ => exact ⟨rfl, rfl, rfl⟩

theorem frontendIndices_holds : Rows.FrontendIndicesSaid :=
  OpenClaim.holds_of_wide 4 Try.f4 rfl rfl rfl rfl rfl rfl rfl ⟨rfl, rfl, rfl, rfl, rfl⟩ rfl rfl rfl rfl rfl (by kernel_rfl) Try.func4 (by kernel_rfl)
    (of_decide_eq_true (by kernel_rfl)) (by unfold Func.isWrapper; first | (rw [if_pos (by decide +kernel)]; kernel_rfl) | (rw [if_neg (by decide +kernel)]; exact ⟨rfl, rfl⟩))
    (fun os started H enc _ => vi_lifted os started H enc)
#print axioms frontendIndices_holds
end Go.Proofs.Ytlmecogidnbpjaa.VS
