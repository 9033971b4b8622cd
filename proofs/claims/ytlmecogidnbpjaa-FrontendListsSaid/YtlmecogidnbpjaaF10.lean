/- The walks of functions: what each computes, by itself. Conditions: none. -/
import Derived.Test.YtlmecogidnbpjaaF9
import Derived.Test.YtlmecogidnbpjaaV21
set_option linter.unusedVariables false
set_option linter.unusedSimpArgs false
namespace Go.Proofs.Ytlmecogidnbpjaa.VS
open Go
def cellsD : List FV := [.i .i64 1, .i .i64 4, .i .i64 4, .i .i64 4, .i .i64 0, .i .i64 0, .i .i64 0, .sl [[.i .i64 37, .i .i64 0, .i .i64 0, .i .i64 0, .i .i64 0, .i .i64 0], [.i .i64 39, .i .i64 0, .i .i64 0, .i .i64 0, .i .i64 0, .i .i64 0], [.i .i64 37, .i .i64 1, .i .i64 0, .i .i64 0, .i .i64 0, .i .i64 1], [.i .i64 39, .i .i64 0, .i .i64 1, .i .i64 0, .i .i64 0, .i .i64 1], [.i .i64 37, .i .i64 2, .i .i64 0, .i .i64 0, .i .i64 0, .i .i64 2], [.i .i64 39, .i .i64 0, .i .i64 2, .i .i64 0, .i .i64 0, .i .i64 2], [.i .i64 37, .i .i64 3, .i .i64 0, .i .i64 0, .i .i64 0, .i .i64 3], [.i .i64 39, .i .i64 0, .i .i64 3, .i .i64 0, .i .i64 0, .i .i64 3]], .i .i64 0, .i .i64 0, .i .i64 0, .i .i64 0, .i .i64 0, .i .i64 0, .i .i64 0, .sl [], .i .i64 3, .i .i64 1, .i .i64 0, .i .i64 4, .i .i64 0, .i .i64 0, .i .i64 0, .sl [[.i .i64 1, .i .i64 0, .i .i64 0, .i .i64 0, .i .i64 0, .i .i64 65536], [.i .i64 39, .i .i64 0, .i .i64 0, .i .i64 0, .i .i64 0, .i .i64 0], [.i .i64 39, .i .i64 0, .i .i64 0, .i .i64 0, .i .i64 0, .i .i64 1], [.i .i64 39, .i .i64 0, .i .i64 0, .i .i64 0, .i .i64 0, .i .i64 2], [.i .i64 39, .i .i64 0, .i .i64 0, .i .i64 0, .i .i64 0, .i .i64 3]], .b false, .sl [[.i .i64 0, .i .i64 0, .i .i64 16, .i .i64 4]], .i .i64 1, .i .i64 1, .b false, .i .i64 0, .i .i64 0, .i .i64 64, .i .i64 64, .i .i64 0, .i .i64 65536, .b false, .b false, .i .i64 8, .i .i64 0, .b false, .i .i64 8, .i .i64 1, .i .i64 1, .i .i64 1, .i .i64 8, .i .i64 1, .i .i64 1, .i .i64 1, .i .i64 0, .i .i64 255, .i .i64 255, .b false, .i .i64 2, .i .i64 1, .i .i64 1, .i .i64 2, .i .i64 1, .i .i64 1, .i .i64 15, .i .i64 1, .i .i64 2, .i .i64 1]
def gD (k : Nat) : FV := cellsD.getD k .zz
def vpD : VP := ⟨0, 0, 64, 64, 0, 65536⟩
set_option maxRecDepth 100000 in
set_option maxHeartbeats 4000000 in
/-- frustum/pipeline.Default -/
theorem c23 : Fn Try.prog 23 [] (.one (.agg (plC gD 1 false vpD))) := by
  refine fnI Try.func23 Try.ntmps23 fun hb => ?_
  refine sg ?_
  refine al _ ?_
  refine rNil ?_
  refine sg ?_
  refine buSz ?_
  refine al _ ?_
  refine sA ?_
  refine rNil ?_
  refine sg ?_
  refine buS ?_
  refine bsL ?_
  refine buS ?_
  refine al _ ?_
  refine sA ?_
  refine rNil ?_
  refine sq ?_
  refine sg ?_
  refine mv ?_
  refine rNil ?_
  refine bk ?_
  refine adB 3 1 96 6 7 25 ?_
  refine lu ?_
  refine lr ?_
  refine sg ?_
  refine bo (hz := by exact rfl) ?_
  refine rNil ?_
  refine sq ?_
  refine cn (fun h1 => ?_) (fun h1 => ?_)
  ·
    refine awp_skip ?_
    refine tn ?_
    refine sq ?_
    refine bk ?_
    refine sg ?_
    refine mv ?_
    refine as_ ?_
    refine rNil ?_
    refine sg ?_
    first | refine ff ?_ | refine fb ?_ | refine fo ?_
    first | refine l1f ?_ | refine l1b ?_ | refine l1o ?_
    refine mv ?_
    refine mv ?_
    refine buS ?_
    refine mv ?_
    refine mv ?_
    refine buS ?_
    refine bs ?_
    refine ap (hys := by decide) ?_
    first | refine ff ?_ | refine fb ?_ | refine fo ?_
    first | refine s1 ?_ | refine s1w ?_
    refine rNil ?_
    refine rg ?_
    first | refine ff ?_ | refine fb ?_ | refine fo ?_
    first | refine l1f ?_ | refine l1b ?_ | refine l1o ?_
    refine mv ?_
    refine buS ?_
    refine bs ?_
    first | refine ap ?_ | refine (apF _) ?_
    first | refine ff ?_ | refine fb ?_ | refine fo ?_
    first | refine s1 ?_ | refine s1w ?_
    refine rNil ?_
    refine bn_ ?_
    refine tn ?_
    refine rg ?_
    refine bo (hz := by first | exact bop_add (by omega) (by omega) | exact rfl) ?_
    refine mv ?_
    refine rNil ?_
    refine tn ?_
    refine lr ?_
    refine sg ?_
    refine bo (hz := by exact rfl) ?_
    refine rNil ?_
    refine sq ?_
    refine cn (fun h2 => ?_) (fun h2 => ?_)
    ·
      refine awp_skip ?_
      refine tn ?_
      refine sq ?_
      refine bk ?_
      refine sg ?_
      refine mv ?_
      refine as_ ?_
      refine rNil ?_
      refine sg ?_
      first | refine ff ?_ | refine fb ?_ | refine fo ?_
      first | refine l1f ?_ | refine l1b ?_ | refine l1o ?_
      refine mv ?_
      refine mv ?_
      refine buS ?_
      refine mv ?_
      refine mv ?_
      refine buS ?_
      refine bs ?_
      refine ap (hys := by decide) ?_
      first | refine ff ?_ | refine fb ?_ | refine fo ?_
      first | refine s1 ?_ | refine s1w ?_
      refine rNil ?_
      refine rg ?_
      first | refine ff ?_ | refine fb ?_ | refine fo ?_
      first | refine l1f ?_ | refine l1b ?_ | refine l1o ?_
      refine mv ?_
      refine buS ?_
      refine bs ?_
      first | refine ap ?_ | refine (apF _) ?_
      first | refine ff ?_ | refine fb ?_ | refine fo ?_
      first | refine s1 ?_ | refine s1w ?_
      refine rNil ?_
      refine bn_ ?_
      refine tn ?_
      refine rg ?_
      refine bo (hz := by first | exact bop_add (by omega) (by omega) | exact rfl) ?_
      refine mv ?_
      refine rNil ?_
      refine tn ?_
      refine lr ?_
      refine sg ?_
      refine bo (hz := by exact rfl) ?_
      refine rNil ?_
      refine sq ?_
      refine cn (fun h3 => ?_) (fun h3 => ?_)
      ·
        refine awp_skip ?_
        refine tn ?_
        refine sq ?_
        refine bk ?_
        refine sg ?_
        refine mv ?_
        refine as_ ?_
        refine rNil ?_
        refine sg ?_
        first | refine ff ?_ | refine fb ?_ | refine fo ?_
        first | refine l1f ?_ | refine l1b ?_ | refine l1o ?_
        refine mv ?_
        refine mv ?_
        refine buS ?_
        refine mv ?_
        refine mv ?_
        refine buS ?_
        refine bs ?_
        refine ap (hys := by decide) ?_
        first | refine ff ?_ | refine fb ?_ | refine fo ?_
        first | refine s1 ?_ | refine s1w ?_
        refine rNil ?_
        refine rg ?_
        first | refine ff ?_ | refine fb ?_ | refine fo ?_
        first | refine l1f ?_ | refine l1b ?_ | refine l1o ?_
        refine mv ?_
        refine buS ?_
        refine bs ?_
        first | refine ap ?_ | refine (apF _) ?_
        first | refine ff ?_ | refine fb ?_ | refine fo ?_
        first | refine s1 ?_ | refine s1w ?_
        refine rNil ?_
        refine bn_ ?_
        refine tn ?_
        refine rg ?_
        refine bo (hz := by first | exact bop_add (by omega) (by omega) | exact rfl) ?_
        refine mv ?_
        refine rNil ?_
        refine tn ?_
        refine lr ?_
        refine sg ?_
        refine bo (hz := by exact rfl) ?_
        refine rNil ?_
        refine sq ?_
        refine cn (fun h4 => ?_) (fun h4 => ?_)
        ·
          refine awp_skip ?_
          refine tn ?_
          refine sq ?_
          refine bk ?_
          refine sg ?_
          refine mv ?_
          refine as_ ?_
          refine rNil ?_
          refine sg ?_
          first | refine ff ?_ | refine fb ?_ | refine fo ?_
          first | refine l1f ?_ | refine l1b ?_ | refine l1o ?_
          refine mv ?_
          refine mv ?_
          refine buS ?_
          refine mv ?_
          refine mv ?_
          refine buS ?_
          refine bs ?_
          refine ap (hys := by decide) ?_
          first | refine ff ?_ | refine fb ?_ | refine fo ?_
          first | refine s1 ?_ | refine s1w ?_
          refine rNil ?_
          refine rg ?_
          first | refine ff ?_ | refine fb ?_ | refine fo ?_
          first | refine l1f ?_ | refine l1b ?_ | refine l1o ?_
          refine mv ?_
          refine buS ?_
          refine bs ?_
          first | refine ap ?_ | refine (apF _) ?_
          first | refine ff ?_ | refine fb ?_ | refine fo ?_
          first | refine s1 ?_ | refine s1w ?_
          refine rNil ?_
          refine bn_ ?_
          refine tn ?_
          refine rg ?_
          refine bo (hz := by first | exact bop_add (by omega) (by omega) | exact rfl) ?_
          refine mv ?_
          refine rNil ?_
          refine tn ?_
          refine lr ?_
          refine sg ?_
          refine bo (hz := by exact rfl) ?_
          refine rNil ?_
          refine sq ?_
          refine cn (fun h5 => ?_) (fun h5 => ?_)
          ·
            exact absurd h5 (by decide)
          ·
            refine awp_exit ?_
            refine te ?_
            refine te ?_
            refine xbk ?_
            refine tn ?_
            refine sg ?_
            refine buS ?_
            refine al _ ?_
            refine sA ?_
            refine rNil ?_
            refine fz 3 ?_
            refine fz 4 ?_
            refine sg ?_
            refine lAbF 1 [3] ?_
            refine lAbF 2 [4] ?_
            refine buS ?_
            refine bs ?_
            refine buS ?_
            refine buS ?_
            first | refine lAf ?_ | refine lAb ?_ | refine lAo ?_
            first | refine lAf ?_ | refine lAb ?_ | refine lAo ?_
            refine buS ?_
            refine buS ?_
            refine buS ?_
            refine sA ?_
            refine rNil ?_
            refine awp_ret ?_
            exact ⟨.inr rfl, _, (.cons (resC (by ((repeat apply Look.there rfl); exact Look.here)) (by exact rfl) (by exact rfl) (by ((repeat (apply All2.cons; first | exact .f (.v _) | exact .row rfl (by first | exact rfl | simp) | exact .f .nil | exact .f (.fro rfl (by first | exact rfl | simp)))); exact All2.nil))) .nil), rfl⟩ -- LEAF 1: ret
        ·
          exact absurd h4 (by decide)
      ·
        exact absurd h3 (by decide)
    ·
      exact absurd h2 (by decide)
  ·
    exact absurd h1 (by decide)

def cn0 (x y : Int) : V := ⟨x, y, 32768, 65536, []⟩
def ex1 : T3 V := ⟨cn0 0 0, cn0 65536 0, cn0 0 65536⟩
def ex2 : T3 V := ⟨cn0 0 0, cn0 65536 0, cn0 (-65536) 0⟩
set_option maxRecDepth 100000 in
theorem ex1_eq : (match scrF vpD 1 false 7 ex1 with | [x] => decide (x.prim = 7) && valid x | _ => false) = true := by decide +kernel
set_option maxRecDepth 100000 in
theorem ex2_eq : (scrF vpD 1 false 7 ex2).isEmpty = true := by decide +kernel
theorem cn0_few (x y : Int) : Few (cn0 x y) := by show (0 : Nat) ≤ _; omega
set_option maxRecDepth 100000 in
set_option maxHeartbeats 4000000 in
/-- frustum/frustumlaw44.example -/
theorem c9 : Fn Try.prog 9 [] (.one (B true)) := by
  obtain ⟨x, hx, hp, hv⟩ : ∃ x, scrF vpD 1 false 7 ex1 = [x] ∧ x.prim = 7 ∧ valid x = true := by
    have h := ex1_eq
    split at h
    · rename_i x hx
      simp only [Bool.and_eq_true, decide_eq_true_eq] at h
      exact ⟨x, hx, h.1, h.2⟩
    · cases h
  have hx2 : scrF vpD 1 false 7 ex2 = [] := by have := ex2_eq; simpa using this
  have e1 : Fn Try.prog 7 [.agg (plC gD 1 false vpD), A ex1, I 7] (.one (L [x])) := by
    have h := c7 gD 1 false vpD ex1 7 ⟨cn0_few _ _, cn0_few _ _, cn0_few _ _⟩
    rw [hx] at h; exact h
  have e2 : Fn Try.prog 7 [.agg (plC gD 1 false vpD), A ex2, I 7] (.one (L ([] : List Tri))) := by
    have h := c7 gD 1 false vpD ex2 7 ⟨cn0_few _ _, cn0_few _ _, cn0_few _ _⟩
    rw [hx2] at h; exact h
  refine fnI Try.func9 Try.ntmps9 fun hb => ?_
  refine sg ?_
  refine as_ ?_
  refine rNil ?_
  refine sg ?_
  refine cl (c23) ?_
  refine al _ ?_
  refine sA ?_
  refine rNil ?_
  refine sd mixO ?_
  first | refine lAf ?_ | refine lAb ?_ | refine lAo ?_
  refine cl (c24 _ _) ?_
  refine cl (c24 _ _) ?_
  refine cl (c24 _ _) ?_
  refine buA ?_
  refine cl (e1) ?_
  refine as_ ?_
  refine rNil ⟨rfl, ?_⟩
  refine sd mixO ?_
  refine mv ?_
  first | refine lnM ?_ | refine ln ?_ | refine lnO ?_ | refine lnN ?_ | refine lnW ?_
  refine bo (hz := by exact rfl) ?_
  refine mv ?_
  refine gd (fun h1 => ?_) (fun h1 => ?_)
  ·
    refine mv ?_
    first | refine xs_ ?_ | refine xo ?_ | refine xw ?_
    first | refine ff ?_ | refine fb ?_ | refine fo ?_
    first | refine l1f ?_ | refine l1b ?_ | refine l1o ?_
    refine bo (hz := by exact rfl) ?_
    refine pkT ?_
    refine mv ?_
    refine gd (fun h2 => ?_) (fun h2 => ?_)
    ·
      refine mv ?_
      first | refine xs_ ?_ | refine xo ?_ | refine xw ?_
      first | refine lAf ?_ | refine lAb ?_ | refine lAo ?_
      refine cl (c25 x) ?_
      refine pkT ?_
      refine mv ?_
      refine gd (fun h3 => ?_) (fun h3 => ?_)
      ·
        first | refine lAf ?_ | refine lAb ?_ | refine lAo ?_
        refine cl (c24 _ _) ?_
        refine cl (c24 _ _) ?_
        refine cl (c24 _ _) ?_
        refine buA ?_
        refine cl (e2) ?_
        first | refine lnM ?_ | refine ln ?_ | refine lnO ?_ | refine lnN ?_ | refine lnW ?_
        refine bo (hz := by exact rfl) ?_
        refine pkT ?_
        refine as_ ?_
        refine rNil ⟨rfl, ?_⟩
        refine awp_ret ?_
        exact ⟨.inr rfl, _, (.cons (by first | exact .v (by ((repeat apply Look.there rfl); exact Look.here)) (.f (.v _)) | exact .v (by ((repeat apply Look.there rfl); exact Look.here)) (.row rfl rfl) | exact .v (by ((repeat apply Look.there rfl); exact Look.here)) (.f .nil) | exact .a (by ((repeat apply Look.there rfl); exact Look.here)) | skip) .nil), oneB (by decide)⟩ -- LEAF 1: ret
      ·
        rw [hv] at h3; cases h3 -- END
    ·
      simp [hp] at h2 -- END
  ·
    simp at h1 -- END

set_option maxRecDepth 100000 in
set_option maxHeartbeats 4000000 in
/-- frustum/frustumlaw44.FrontendScreens -/
theorem c3 (g : Nat → FV) (m : Int) (cw : Bool) (p : VP) (t : T3 V) (pr : Int) (hf : FewT t) : Fn Try.prog 3 [.agg (plC g m cw p), A t, I pr] (.one (B true)) := by
  refine fnI Try.func3 Try.ntmps3 fun hb => ?_
  refine sg ?_
  refine bx _ ?_
  refine bx _ ?_
  refine as_ ?_
  refine rNil ?_
  refine sd mixO ?_
  first | refine lAf ?_ | refine lAb ?_ | refine lAo ?_
  first | refine lAf ?_ | refine lAb ?_ | refine lAo ?_
  refine mv ?_
  refine cl (c7 g m cw p t pr hf) ?_
  first | refine lAf ?_ | refine lAb ?_ | refine lAo ?_
  first | refine lAf ?_ | refine lAb ?_ | refine lAo ?_
  refine mv ?_
  refine cl (c8 g m cw p t pr hf) ?_
  refine cl (c6 (scrF p m cw pr t)) ?_
  refine mv ?_
  refine gd (fun h1 => ?_) (fun h1 => ?_)
  ·
    refine cl (c9) ?_
    refine pkT ?_
    refine as_ ?_
    refine rNil ⟨rfl, ?_⟩
    refine awp_ret ?_
    exact ⟨.inr rfl, _, (.cons (by first | exact .v (by ((repeat apply Look.there rfl); exact Look.here)) (.f (.v _)) | exact .v (by ((repeat apply Look.there rfl); exact Look.here)) (.row rfl rfl) | exact .v (by ((repeat apply Look.there rfl); exact Look.here)) (.f .nil) | exact .a (by ((repeat apply Look.there rfl); exact Look.here)) | skip) .nil), rfl⟩ -- LEAF 1: ret
  ·
    cases h1 -- END

end Go.Proofs.Ytlmecogidnbpjaa.VS
