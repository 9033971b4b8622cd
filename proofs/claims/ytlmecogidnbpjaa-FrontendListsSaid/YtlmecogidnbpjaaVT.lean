/- FrontendLists: EqualTriangle and Primitives return what the reference returns, for any triangles. Conditions: none. -/
import Derived.Test.YtlmecogidnbpjaaVD
import Derived.Test.YtlmecogidnbpjaaF12
namespace Go.Proofs.Ytlmecogidnbpjaa.VS
open Go Go.RowKit Go.ChangeShapes Go.WideShapes Go.ChangeAt

abbrev ctTri : List CT := ctT ++ [.i .i64, .b]
theorem dec_tri {bd : Nat → Nat → Prop} : Dec bd ctTri Tri (fun _ => True) := by
  intro x h
  obtain ⟨l1, r1, rfl, h1, k1⟩ := All2.split h
  obtain ⟨t, rfl, _⟩ := dec_T _ h1
  cases k1 with
  | cons h2 k2 =>
  cases k2 with
  | cons h3 k3 =>
  cases k3
  obtain ⟨n, rfl, _⟩ := has_int h2
  obtain ⟨b, rfl⟩ := has_bool h3
  exact ⟨⟨t, n, b⟩, rfl, trivial⟩

theorem vt_fn (xs : List RV) (h : All2 (Top bdF) [(false, [.sl 184 ctTri])] xs) : Fn Try.prog 5 xs (.one (.v (.b true))) := by
  cases h with
  | cons h1 h =>
  cases h
  cases h1 with
  | one h1 =>
  obtain ⟨l, rfl, hl, _, _⟩ := has_list dec_tri h1
  simp only [bdF] at hl
  exact c5 l (by omega)

set_option maxRecDepth 100000 in
theorem vt_lifted (os : Os) (started : os.Started) (H : Type) (enc : TypeId × Value → H) :
    ReturnsInHanded {} Try.checked os 5 .any (Rows.frontendListsSpec.pre6 enc Try.prog Try.f5 Rows.frontendListsRow.domain false) (Rows.frontendListsSpec.post enc Try.prog Try.f5 false true false false) := by
  refine returnsInHanded_of_change_sized (C := Try.checked) own started (by kernel_rfl) Try.func5
    (ChangeSpec.witness6 (enc := enc) (C := Try.checked) false ⟨#[], #[.slice none 0 0], []⟩ 8 (by kernel_rfl) (by kernel_rfl) (by kernel_rfl) (by kernel_rfl)) ?_
  intro W base args ds gs before hval hW _ hw _
  refine law_contract (n := 20) (tb := 4) closedF laid rfl (by kernel_rfl) (by kernel_rfl) Try.underlying4 ?_ (by kernel_rfl) vt_fn hval hW (weights_in hw)
  intro ds h
  match ds, h with
  | [d1], _ => exact ⟨rfl, rfl, rfl⟩

theorem frontendLists_holds : Rows.FrontendListsSaid :=
  OpenClaim.holds_of_wide 5 Try.f5 rfl rfl rfl rfl rfl rfl rfl ⟨rfl, rfl, rfl, rfl, rfl⟩ rfl rfl rfl rfl rfl (by kernel_rfl) Try.func5 (by kernel_rfl)
    (of_decide_eq_true (by kernel_rfl)) (by unfold Func.isWrapper; first | (rw [if_pos (by decide +kernel)]; kernel_rfl) | (rw [if_neg (by decide +kernel)]; exact ⟨rfl, rfl⟩))
    (fun os started H enc _ => vt_lifted os started H enc)
#print axioms frontendLists_holds
end Go.Proofs.Ytlmecogidnbpjaa.VS
