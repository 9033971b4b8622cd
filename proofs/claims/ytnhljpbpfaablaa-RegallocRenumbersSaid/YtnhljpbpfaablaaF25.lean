/- RegallocRenumbers: the program's Renumber gives what the reference's gives. Conditions: none. -/
import Derived.Test.YtnhljpbpfaablaaF23
import Derived.Test.YtnhljpbpfaablaaVD
set_option linter.unusedVariables false
set_option linter.unusedSimpArgs false
namespace Go.Proofs.Ytnhljpbpfaablaa.VS
open Go Go.RowKit Go.ChangeShapes Go.WideShapes Go.ChangeAt
theorem ren_len (p : Prg) (nums : List Int) (m : Int) : (renF p nums m).1.code.length ≤ 16384 := by
  unfold renF
  split
  · simp [zP]
  rename_i h
  obtain ⟨_, hl, _⟩ := valid_of (show validF p = 0 by simpa using h)
  repeat' split
  all_goals first | simp [zP]; done | (simp; exact hl)
/-- frustum/frustumlaw25.RegallocRenumbers -/
theorem c7 (p : Prg) (nums : List Int) (m : Int) : Fn Try.prog 7 [A p, L nums, I m] (.one (B true)) := by
  refine fnI Try.func7 Try.ntmps7 fun hb => ?_
  have k20 := c20 p nums m
  have k21 := c21 p nums m
  have hlen := ren_len p nums m
  generalize renF p nums m = R at *
  obtain ⟨r, e⟩ := R
  have k22 := c22 r hlen
  dsimp only at *
  refine sg ?_
  refine bx _ ?_
  refine as_ ?_
  refine rNil ?_
  refine sq ?_
  refine sg ?_
  first | refine lAf ?_ | refine lAb ?_ | refine lAo ?_
  refine cl (c9 p) ?_
  refine nt ?_
  refine rNil ?_
  refine cn (fun h1 => ?_) (fun h1 => ?_)
  ·
    refine sg ?_
    refine cl (c13) ?_
    refine as_ ?_
    refine rNil ?_
    refine awp_ret ?_
    refine tr ?_
    exact ⟨.inr rfl, _, (.cons (by first | exact .v (by ((repeat apply Look.there rfl); exact Look.here)) (.f (.v _)) | exact .v (by ((repeat apply Look.there rfl); exact Look.here)) (.row rfl (by first | exact rfl | (simp; done) | (simp; omega))) | exact .v (by ((repeat apply Look.there rfl); exact Look.here)) (.f .nil) | exact .a (by ((repeat apply Look.there rfl); exact Look.here)) | skip) .nil), rfl⟩ -- LEAF 1: ret
  ·
    refine awp_skip ?_
    refine tn ?_
    refine sg ?_
    first | refine lAf ?_ | refine lAb ?_ | refine lAo ?_
    refine mv ?_
    refine mv ?_
    refine cl (k20) ?_
    refine mv ?_
    refine ex ?_
    refine ex ?_
    refine al _ ?_
    refine sA ?_
    refine as_ ?_
    refine rNil ?_
    refine sg ?_
    first | refine lAf ?_ | refine lAb ?_ | refine lAo ?_
    refine mv ?_
    refine mv ?_
    refine cl (k21) ?_
    refine mv ?_
    refine ex ?_
    refine ex ?_
    refine al _ ?_
    refine sA ?_
    refine as_ ?_
    refine rNil ?_
    refine sg ?_
    refine mv ?_
    refine mv ?_
    refine bo (hz := by exact rfl) ?_
    refine mv ?_
    refine gd (fun h2 => ?_) (fun h2 => ?_)
    ·
      first | refine lAf ?_ | refine lAb ?_ | refine lAo ?_
      first | refine lAf ?_ | refine lAb ?_ | refine lAo ?_
      refine cl (k22) ?_
      refine pkT ?_
      refine mv ?_
      refine gd (fun h3 => ?_) (fun h3 => ?_)
      ·
        refine cl (c13) ?_
        refine pkT ?_
        refine as_ ?_
        refine rNil ?_
        refine awp_ret ?_
        exact ⟨.inr rfl, _, (.cons (by first | exact .v (by ((repeat apply Look.there rfl); exact Look.here)) (.f (.v _)) | exact .v (by ((repeat apply Look.there rfl); exact Look.here)) (.row rfl (by first | exact rfl | (simp; done) | (simp; omega))) | exact .v (by ((repeat apply Look.there rfl); exact Look.here)) (.f .nil) | exact .a (by ((repeat apply Look.there rfl); exact Look.here)) | skip) .nil), rfl⟩ -- LEAF 2: ret
      ·
        exact absurd h3 (by decide) -- END
    ·
      simp at h2 -- END

theorem c7_fn (xs : List RV) (h : All2 (Top bdF) [(true, ctP), (false, [.sl 8 [.i .i64]]), (false, [.i .i64])] xs) : Fn Try.prog 7 xs (.one (.v (.b true))) := by
  cases h with
  | cons h1 h =>
  cases h with
  | cons h2 h =>
  cases h with
  | cons h3 h =>
  cases h
  cases h1 with
  | agg h1 =>
  cases h2 with
  | one h2 =>
  cases h3 with
  | one h3 =>
  obtain ⟨p, rfl, _⟩ := dec_P _ h1
  obtain ⟨l, rfl, _, _, _⟩ := has_list dec_int h2
  obtain ⟨m, rfl, _⟩ := has_int h3
  exact c7 p l m
set_option maxRecDepth 100000 in
theorem vn_lifted (os : Os) (started : os.Started) (H : Type) (enc : TypeId × Value → H) :
    ReturnsInHanded {} Try.checked os 7 .any (Rows.regallocRenumbersSpec.pre6 enc Try.prog Try.f7 Rows.regallocRenumbersRow.domain false) (Rows.regallocRenumbersSpec.post enc Try.prog Try.f7 false true false false) := by
  refine returnsInHanded_of_change_sized (C := Try.checked) own started (by kernel_rfl) Try.func7
    (ChangeSpec.witness6 (enc := enc) (C := Try.checked) false ⟨#[], #[.agg #[.int .i64 0, .int .i64 0, .int .i64 0, .int .i64 0, .int .i64 0, .int .i64 0, .int .i64 0, .slice none 0 0], .slice none 0 0, .int .i64 0], []⟩ 8 (by kernel_rfl) (by kernel_rfl) (by kernel_rfl) (by kernel_rfl)) ?_
  intro W base args ds gs before hval hW _ hw _
  refine law_contract (n := 20) (tb := 4) closedF laid rfl (by kernel_rfl) (by kernel_rfl) Try.underlying4 ?_ (by kernel_rfl) c7_fn hval hW (weights_in hw)
  intro ds h
  match ds, h with
  | [d1, d2, d3], _ => exact ⟨rfl, rfl, rfl⟩

theorem regallocRenumbers_holds : Rows.RegallocRenumbersSaid :=
  OpenClaim.holds_of_wide 7 Try.f7 rfl rfl rfl rfl rfl rfl rfl ⟨rfl, rfl, rfl, rfl, rfl⟩ rfl rfl rfl rfl rfl (by kernel_rfl) Try.func7 (by kernel_rfl)
    (of_decide_eq_true (by kernel_rfl)) (by unfold Func.isWrapper; first | (rw [if_pos (by decide +kernel)]; kernel_rfl) | (rw [if_neg (by decide +kernel)]; exact ⟨rfl, rfl⟩))
    (fun os started H enc _ => vn_lifted os started H enc)
#print axioms regallocRenumbers_holds
end Go.Proofs.Ytnhljpbpfaablaa.VS
