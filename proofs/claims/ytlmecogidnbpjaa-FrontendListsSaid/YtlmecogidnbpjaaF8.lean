/- The walks of functions: what each computes, by itself. Conditions: none. -/
import Derived.Test.YtlmecogidnbpjaaF7
set_option linter.unusedVariables false
set_option linter.unusedSimpArgs false
namespace Go.Proofs.Ytlmecogidnbpjaa.VS
open Go
def onP (v : V) : Prop := 0 ≤ v.x ∧ v.x ≤ 16384 ∧ 0 ≤ v.y ∧ v.y ≤ 16384
instance (v : V) : Decidable (onP v) := inferInstanceAs (Decidable (_ ∧ _))
def inP (t : T3 V) : Prop := onP t.a ∧ onP t.b ∧ onP t.c
instance (t : T3 V) : Decidable (inP t) := inferInstanceAs (Decidable (_ ∧ _))
def inR (t : T3 V) : Bool := decide (inP t)
def area (t : T3 V) : Int := if inP t then crs t.a.x t.a.y t.b.x t.b.y t.c.x t.c.y else 0
/-- frustum/cull.InRange -/
theorem c54 (t : T3 V) : Fn Try.prog 54 [A t] (.one (B (inR t))) := by
  refine fnI Try.func54 Try.ntmps54 fun hb => ?_
  refine sg ?_
  refine bx _ ?_
  refine as_ ?_
  refine rNil ?_
  refine sq ?_
  refine sg ?_
  first | refine lAf ?_ | refine lAb ?_ | refine lAo ?_
  refine mv ?_
  refine rNil ?_
  refine bk ?_
  refine lu ?_
  refine lr ?_
  refine sg ?_
  refine bo (hz := by exact rfl) ?_
  refine rNil ?_
  refine sq ?_
  refine cn (fun h1 => ?_) (fun h1 => ?_)
  ·
    refine awp_skip ?_
    refine tn ?_
    refine sq ?_
    refine bk ?_
    refine sg ?_
    refine ixA ?_
    refine al _ ?_
    refine sA ?_
    refine rNil ?_
    refine sg ?_
    first | refine ff ?_ | refine fb ?_ | refine fo ?_
    first | refine l1f ?_ | refine l1b ?_ | refine l1o ?_
    refine bo (hz := by exact rfl) ?_
    refine mv ?_
    refine gd (fun h2 => ?_) (fun h2 => ?_)
    ·
      refine no ?_
      refine no ?_
      refine no ?_
      refine pkT ?_
      refine mv ?_
      refine no ?_
      refine no ?_
      refine no ?_
      refine pkT ?_
      refine mv ?_
      refine no ?_
      refine no ?_
      refine no ?_
      refine pkT ?_
      refine rNil ?_
      refine cn (fun h3 => ?_) (fun h3 => ?_)
      ·
        refine sg ?_
        refine as_ ?_
        refine rNil ?_
        refine awp_ret ?_
        refine br ?_
        refine tr ?_
        refine tr ?_
        refine br ?_
        refine tr ?_
        exact ⟨.inr rfl, _, (.cons (by first | exact .v (by ((repeat apply Look.there rfl); exact Look.here)) (.f (.v _)) | exact .v (by ((repeat apply Look.there rfl); exact Look.here)) (.row rfl rfl) | exact .v (by ((repeat apply Look.there rfl); exact Look.here)) (.f .nil) | exact .a (by ((repeat apply Look.there rfl); exact Look.here)) | skip) .nil), oneB (by simp only [decide_eq_true_eq, decide_eq_false_iff_not] at *; unfold inR inP onP; first | exact (decide_eq_true (by omega)).symm | exact (decide_eq_false (by omega)).symm)⟩ -- LEAF 1: ret
      ·
        exact absurd h3 (by decide)
    ·
      first | refine ff ?_ | refine fb ?_ | refine fo ?_
      first | refine l1f ?_ | refine l1b ?_ | refine l1o ?_
      refine bo (hz := by exact rfl) ?_
      refine pkF ?_
      refine mv ?_
      refine gd (fun h4 => ?_) (fun h4 => ?_)
      ·
        refine no ?_
        refine no ?_
        refine no ?_
        refine pkT ?_
        refine mv ?_
        refine no ?_
        refine no ?_
        refine no ?_
        refine pkT ?_
        refine rNil ?_
        refine cn (fun h5 => ?_) (fun h5 => ?_)
        ·
          refine sg ?_
          refine as_ ?_
          refine rNil ?_
          refine awp_ret ?_
          refine br ?_
          refine tr ?_
          refine tr ?_
          refine br ?_
          refine tr ?_
          exact ⟨.inr rfl, _, (.cons (by first | exact .v (by ((repeat apply Look.there rfl); exact Look.here)) (.f (.v _)) | exact .v (by ((repeat apply Look.there rfl); exact Look.here)) (.row rfl rfl) | exact .v (by ((repeat apply Look.there rfl); exact Look.here)) (.f .nil) | exact .a (by ((repeat apply Look.there rfl); exact Look.here)) | skip) .nil), oneB (by simp only [decide_eq_true_eq, decide_eq_false_iff_not] at *; unfold inR inP onP; first | exact (decide_eq_true (by omega)).symm | exact (decide_eq_false (by omega)).symm)⟩ -- LEAF 2: ret
        ·
          exact absurd h5 (by decide)
      ·
        first | refine ff ?_ | refine fb ?_ | refine fo ?_
        first | refine l1f ?_ | refine l1b ?_ | refine l1o ?_
        refine bo (hz := by exact rfl) ?_
        refine pkF ?_
        refine mv ?_
        refine gd (fun h6 => ?_) (fun h6 => ?_)
        ·
          refine no ?_
          refine no ?_
          refine no ?_
          refine pkT ?_
          refine rNil ?_
          refine cn (fun h7 => ?_) (fun h7 => ?_)
          ·
            refine sg ?_
            refine as_ ?_
            refine rNil ?_
            refine awp_ret ?_
            refine br ?_
            refine tr ?_
            refine tr ?_
            refine br ?_
            refine tr ?_
            exact ⟨.inr rfl, _, (.cons (by first | exact .v (by ((repeat apply Look.there rfl); exact Look.here)) (.f (.v _)) | exact .v (by ((repeat apply Look.there rfl); exact Look.here)) (.row rfl rfl) | exact .v (by ((repeat apply Look.there rfl); exact Look.here)) (.f .nil) | exact .a (by ((repeat apply Look.there rfl); exact Look.here)) | skip) .nil), oneB (by simp only [decide_eq_true_eq, decide_eq_false_iff_not] at *; unfold inR inP onP; first | exact (decide_eq_true (by omega)).symm | exact (decide_eq_false (by omega)).symm)⟩ -- LEAF 3: ret
          ·
            exact absurd h7 (by decide)
        ·
          first | refine ff ?_ | refine fb ?_ | refine fo ?_
          first | refine l1f ?_ | refine l1b ?_ | refine l1o ?_
          refine bo (hz := by exact rfl) ?_
          refine pkF ?_
          refine rNil ?_
          refine cn (fun h8 => ?_) (fun h8 => ?_)
          ·
            refine sg ?_
            refine as_ ?_
            refine rNil ?_
            refine awp_ret ?_
            refine br ?_
            refine tr ?_
            refine tr ?_
            refine br ?_
            refine tr ?_
            exact ⟨.inr rfl, _, (.cons (by first | exact .v (by ((repeat apply Look.there rfl); exact Look.here)) (.f (.v _)) | exact .v (by ((repeat apply Look.there rfl); exact Look.here)) (.row rfl rfl) | exact .v (by ((repeat apply Look.there rfl); exact Look.here)) (.f .nil) | exact .a (by ((repeat apply Look.there rfl); exact Look.here)) | skip) .nil), oneB (by simp only [decide_eq_true_eq, decide_eq_false_iff_not] at *; unfold inR inP onP; first | exact (decide_eq_true (by omega)).symm | exact (decide_eq_false (by omega)).symm)⟩ -- LEAF 4: ret
          ·
            refine awp_skip ?_
            refine bn_ ?_
            refine tn ?_
            refine rg ?_
            refine bo (hz := by first | exact bop_add (by omega) (by omega) | exact rfl) ?_
            refine mv ?_
            refine rNil ?_
            refine tn ?_
            refine lr ?_
            refine sg ?_
            refine bo (hz := by exact rfl) ?_
            refine rNil ?_
            refine sq ?_
            refine cn (fun h9 => ?_) (fun h9 => ?_)
            ·
              refine awp_skip ?_
              refine tn ?_
              refine sq ?_
              refine bk ?_
              refine sg ?_
              refine ixA ?_
              refine al _ ?_
              refine sA ?_
              refine rNil ?_
              refine sg ?_
              first | refine ff ?_ | refine fb ?_ | refine fo ?_
              first | refine l1f ?_ | refine l1b ?_ | refine l1o ?_
              refine bo (hz := by exact rfl) ?_
              refine mv ?_
              refine gd (fun h10 => ?_) (fun h10 => ?_)
              ·
                refine no ?_
                refine no ?_
                refine no ?_
                refine pkT ?_
                refine mv ?_
                refine no ?_
                refine no ?_
                refine no ?_
                refine pkT ?_
                refine mv ?_
                refine no ?_
                refine no ?_
                refine no ?_
                refine pkT ?_
                refine rNil ?_
                refine cn (fun h11 => ?_) (fun h11 => ?_)
                ·
                  refine sg ?_
                  refine as_ ?_
                  refine rNil ?_
                  refine awp_ret ?_
                  refine br ?_
                  refine tr ?_
                  refine tr ?_
                  refine br ?_
                  refine tr ?_
                  exact ⟨.inr rfl, _, (.cons (by first | exact .v (by ((repeat apply Look.there rfl); exact Look.here)) (.f (.v _)) | exact .v (by ((repeat apply Look.there rfl); exact Look.here)) (.row rfl rfl) | exact .v (by ((repeat apply Look.there rfl); exact Look.here)) (.f .nil) | exact .a (by ((repeat apply Look.there rfl); exact Look.here)) | skip) .nil), oneB (by simp only [decide_eq_true_eq, decide_eq_false_iff_not] at *; unfold inR inP onP; first | exact (decide_eq_true (by omega)).symm | exact (decide_eq_false (by omega)).symm)⟩ -- LEAF 5: ret
                ·
                  exact absurd h11 (by decide)
              ·
                first | refine ff ?_ | refine fb ?_ | refine fo ?_
                first | refine l1f ?_ | refine l1b ?_ | refine l1o ?_
                refine bo (hz := by exact rfl) ?_
                refine pkF ?_
                refine mv ?_
                refine gd (fun h12 => ?_) (fun h12 => ?_)
                ·
                  refine no ?_
                  refine no ?_
                  refine no ?_
                  refine pkT ?_
                  refine mv ?_
                  refine no ?_
                  refine no ?_
                  refine no ?_
                  refine pkT ?_
                  refine rNil ?_
                  refine cn (fun h13 => ?_) (fun h13 => ?_)
                  ·
                    refine sg ?_
                    refine as_ ?_
                    refine rNil ?_
                    refine awp_ret ?_
                    refine br ?_
                    refine tr ?_
                    refine tr ?_
                    refine br ?_
                    refine tr ?_
                    exact ⟨.inr rfl, _, (.cons (by first | exact .v (by ((repeat apply Look.there rfl); exact Look.here)) (.f (.v _)) | exact .v (by ((repeat apply Look.there rfl); exact Look.here)) (.row rfl rfl) | exact .v (by ((repeat apply Look.there rfl); exact Look.here)) (.f .nil) | exact .a (by ((repeat apply Look.there rfl); exact Look.here)) | skip) .nil), oneB (by simp only [decide_eq_true_eq, decide_eq_false_iff_not] at *; unfold inR inP onP; first | exact (decide_eq_true (by omega)).symm | exact (decide_eq_false (by omega)).symm)⟩ -- LEAF 6: ret
                  ·
                    exact absurd h13 (by decide)
                ·
                  first | refine ff ?_ | refine fb ?_ | refine fo ?_
                  first | refine l1f ?_ | refine l1b ?_ | refine l1o ?_
                  refine bo (hz := by exact rfl) ?_
                  refine pkF ?_
                  refine mv ?_
                  refine gd (fun h14 => ?_) (fun h14 => ?_)
                  ·
                    refine no ?_
                    refine no ?_
                    refine no ?_
                    refine pkT ?_
                    refine rNil ?_
                    refine cn (fun h15 => ?_) (fun h15 => ?_)
                    ·
                      refine sg ?_
                      refine as_ ?_
                      refine rNil ?_
                      refine awp_ret ?_
                      refine br ?_
                      refine tr ?_
                      refine tr ?_
                      refine br ?_
                      refine tr ?_
                      exact ⟨.inr rfl, _, (.cons (by first | exact .v (by ((repeat apply Look.there rfl); exact Look.here)) (.f (.v _)) | exact .v (by ((repeat apply Look.there rfl); exact Look.here)) (.row rfl rfl) | exact .v (by ((repeat apply Look.there rfl); exact Look.here)) (.f .nil) | exact .a (by ((repeat apply Look.there rfl); exact Look.here)) | skip) .nil), oneB (by simp only [decide_eq_true_eq, decide_eq_false_iff_not] at *; unfold inR inP onP; first | exact (decide_eq_true (by omega)).symm | exact (decide_eq_false (by omega)).symm)⟩ -- LEAF 7: ret
                    ·
                      exact absurd h15 (by decide)
                  ·
                    first | refine ff ?_ | refine fb ?_ | refine fo ?_
                    first | refine l1f ?_ | refine l1b ?_ | refine l1o ?_
                    refine bo (hz := by exact rfl) ?_
                    refine pkF ?_
                    refine rNil ?_
                    refine cn (fun h16 => ?_) (fun h16 => ?_)
                    ·
                      refine sg ?_
                      refine as_ ?_
                      refine rNil ?_
                      refine awp_ret ?_
                      refine br ?_
                      refine tr ?_
                      refine tr ?_
                      refine br ?_
                      refine tr ?_
                      exact ⟨.inr rfl, _, (.cons (by first | exact .v (by ((repeat apply Look.there rfl); exact Look.here)) (.f (.v _)) | exact .v (by ((repeat apply Look.there rfl); exact Look.here)) (.row rfl rfl) | exact .v (by ((repeat apply Look.there rfl); exact Look.here)) (.f .nil) | exact .a (by ((repeat apply Look.there rfl); exact Look.here)) | skip) .nil), oneB (by simp only [decide_eq_true_eq, decide_eq_false_iff_not] at *; unfold inR inP onP; first | exact (decide_eq_true (by omega)).symm | exact (decide_eq_false (by omega)).symm)⟩ -- LEAF 8: ret
                    ·
                      refine awp_skip ?_
                      refine bn_ ?_
                      refine tn ?_
                      refine rg ?_
                      refine bo (hz := by first | exact bop_add (by omega) (by omega) | exact rfl) ?_
                      refine mv ?_
                      refine rNil ?_
                      refine tn ?_
                      refine lr ?_
                      refine sg ?_
                      refine bo (hz := by exact rfl) ?_
                      refine rNil ?_
                      refine sq ?_
                      refine cn (fun h17 => ?_) (fun h17 => ?_)
                      ·
                        refine awp_skip ?_
                        refine tn ?_
                        refine sq ?_
                        refine bk ?_
                        refine sg ?_
                        refine ixA ?_
                        refine al _ ?_
                        refine sA ?_
                        refine rNil ?_
                        refine sg ?_
                        first | refine ff ?_ | refine fb ?_ | refine fo ?_
                        first | refine l1f ?_ | refine l1b ?_ | refine l1o ?_
                        refine bo (hz := by exact rfl) ?_
                        refine mv ?_
                        refine gd (fun h18 => ?_) (fun h18 => ?_)
                        ·
                          refine no ?_
                          refine no ?_
                          refine no ?_
                          refine pkT ?_
                          refine mv ?_
                          refine no ?_
                          refine no ?_
                          refine no ?_
                          refine pkT ?_
                          refine mv ?_
                          refine no ?_
                          refine no ?_
                          refine no ?_
                          refine pkT ?_
                          refine rNil ?_
                          refine cn (fun h19 => ?_) (fun h19 => ?_)
                          ·
                            refine sg ?_
                            refine as_ ?_
                            refine rNil ?_
                            refine awp_ret ?_
                            refine br ?_
                            refine tr ?_
                            refine tr ?_
                            refine br ?_
                            refine tr ?_
                            exact ⟨.inr rfl, _, (.cons (by first | exact .v (by ((repeat apply Look.there rfl); exact Look.here)) (.f (.v _)) | exact .v (by ((repeat apply Look.there rfl); exact Look.here)) (.row rfl rfl) | exact .v (by ((repeat apply Look.there rfl); exact Look.here)) (.f .nil) | exact .a (by ((repeat apply Look.there rfl); exact Look.here)) | skip) .nil), oneB (by simp only [decide_eq_true_eq, decide_eq_false_iff_not] at *; unfold inR inP onP; first | exact (decide_eq_true (by omega)).symm | exact (decide_eq_false (by omega)).symm)⟩ -- LEAF 9: ret
                          ·
                            exact absurd h19 (by decide)
                        ·
                          first | refine ff ?_ | refine fb ?_ | refine fo ?_
                          first | refine l1f ?_ | refine l1b ?_ | refine l1o ?_
                          refine bo (hz := by exact rfl) ?_
                          refine pkF ?_
                          refine mv ?_
                          refine gd (fun h20 => ?_) (fun h20 => ?_)
                          ·
                            refine no ?_
                            refine no ?_
                            refine no ?_
                            refine pkT ?_
                            refine mv ?_
                            refine no ?_
                            refine no ?_
                            refine no ?_
                            refine pkT ?_
                            refine rNil ?_
                            refine cn (fun h21 => ?_) (fun h21 => ?_)
                            ·
                              refine sg ?_
                              refine as_ ?_
                              refine rNil ?_
                              refine awp_ret ?_
                              refine br ?_
                              refine tr ?_
                              refine tr ?_
                              refine br ?_
                              refine tr ?_
                              exact ⟨.inr rfl, _, (.cons (by first | exact .v (by ((repeat apply Look.there rfl); exact Look.here)) (.f (.v _)) | exact .v (by ((repeat apply Look.there rfl); exact Look.here)) (.row rfl rfl) | exact .v (by ((repeat apply Look.there rfl); exact Look.here)) (.f .nil) | exact .a (by ((repeat apply Look.there rfl); exact Look.here)) | skip) .nil), oneB (by simp only [decide_eq_true_eq, decide_eq_false_iff_not] at *; unfold inR inP onP; first | exact (decide_eq_true (by omega)).symm | exact (decide_eq_false (by omega)).symm)⟩ -- LEAF 10: ret
                            ·
                              exact absurd h21 (by decide)
                          ·
                            first | refine ff ?_ | refine fb ?_ | refine fo ?_
                            first | refine l1f ?_ | refine l1b ?_ | refine l1o ?_
                            refine bo (hz := by exact rfl) ?_
                            refine pkF ?_
                            refine mv ?_
                            refine gd (fun h22 => ?_) (fun h22 => ?_)
                            ·
                              refine no ?_
                              refine no ?_
                              refine no ?_
                              refine pkT ?_
                              refine rNil ?_
                              refine cn (fun h23 => ?_) (fun h23 => ?_)
                              ·
                                refine sg ?_
                                refine as_ ?_
                                refine rNil ?_
                                refine awp_ret ?_
                                refine br ?_
                                refine tr ?_
                                refine tr ?_
                                refine br ?_
                                refine tr ?_
                                exact ⟨.inr rfl, _, (.cons (by first | exact .v (by ((repeat apply Look.there rfl); exact Look.here)) (.f (.v _)) | exact .v (by ((repeat apply Look.there rfl); exact Look.here)) (.row rfl rfl) | exact .v (by ((repeat apply Look.there rfl); exact Look.here)) (.f .nil) | exact .a (by ((repeat apply Look.there rfl); exact Look.here)) | skip) .nil), oneB (by simp only [decide_eq_true_eq, decide_eq_false_iff_not] at *; unfold inR inP onP; first | exact (decide_eq_true (by omega)).symm | exact (decide_eq_false (by omega)).symm)⟩ -- LEAF 11: ret
                              ·
                                exact absurd h23 (by decide)
                            ·
                              first | refine ff ?_ | refine fb ?_ | refine fo ?_
                              first | refine l1f ?_ | refine l1b ?_ | refine l1o ?_
                              refine bo (hz := by exact rfl) ?_
                              refine pkF ?_
                              refine rNil ?_
                              refine cn (fun h24 => ?_) (fun h24 => ?_)
                              ·
                                refine sg ?_
                                refine as_ ?_
                                refine rNil ?_
                                refine awp_ret ?_
                                refine br ?_
                                refine tr ?_
                                refine tr ?_
                                refine br ?_
                                refine tr ?_
                                exact ⟨.inr rfl, _, (.cons (by first | exact .v (by ((repeat apply Look.there rfl); exact Look.here)) (.f (.v _)) | exact .v (by ((repeat apply Look.there rfl); exact Look.here)) (.row rfl rfl) | exact .v (by ((repeat apply Look.there rfl); exact Look.here)) (.f .nil) | exact .a (by ((repeat apply Look.there rfl); exact Look.here)) | skip) .nil), oneB (by simp only [decide_eq_true_eq, decide_eq_false_iff_not] at *; unfold inR inP onP; first | exact (decide_eq_true (by omega)).symm | exact (decide_eq_false (by omega)).symm)⟩ -- LEAF 12: ret
                              ·
                                refine awp_skip ?_
                                refine bn_ ?_
                                refine tn ?_
                                refine rg ?_
                                refine bo (hz := by first | exact bop_add (by omega) (by omega) | exact rfl) ?_
                                refine mv ?_
                                refine rNil ?_
                                refine tn ?_
                                refine lr ?_
                                refine sg ?_
                                refine bo (hz := by exact rfl) ?_
                                refine rNil ?_
                                refine sq ?_
                                refine cn (fun h25 => ?_) (fun h25 => ?_)
                                ·
                                  exact absurd h25 (by decide)
                                ·
                                  refine awp_exit ?_
                                  refine te ?_
                                  refine te ?_
                                  refine xbk ?_
                                  refine tn ?_
                                  refine sg ?_
                                  refine as_ ?_
                                  refine rNil ?_
                                  refine awp_ret ?_
                                  exact ⟨.inr rfl, _, (.cons (by first | exact .v (by ((repeat apply Look.there rfl); exact Look.here)) (.f (.v _)) | exact .v (by ((repeat apply Look.there rfl); exact Look.here)) (.row rfl rfl) | exact .v (by ((repeat apply Look.there rfl); exact Look.here)) (.f .nil) | exact .a (by ((repeat apply Look.there rfl); exact Look.here)) | skip) .nil), oneB (by simp only [decide_eq_true_eq, decide_eq_false_iff_not] at *; unfold inR inP onP; first | exact (decide_eq_true (by omega)).symm | exact (decide_eq_false (by omega)).symm)⟩ -- LEAF 13: ret
                      ·
                        exact absurd h17 (by decide)
            ·
              exact absurd h9 (by decide)
  ·
    exact absurd h1 (by decide)

/-- frustum/cull.Area -/
theorem c39 (t : T3 V) : Fn Try.prog 39 [A t] (.one (I (area t))) := by
  refine fnI Try.func39 Try.ntmps39 fun hb => ?_
  refine sg ?_
  refine bx _ ?_
  refine as_ ?_
  refine rNil ?_
  refine sq ?_
  refine sg ?_
  first | refine lAf ?_ | refine lAb ?_ | refine lAo ?_
  refine cl (c54 _) ?_
  refine nt ?_
  refine rNil ?_
  refine cn (fun h1 => ?_) (fun h1 => ?_)
  ·
    have g : ¬ inP t := by simpa [inR] using h1
    refine sg ?_
    refine as_ ?_
    refine rNil ?_
    refine awp_ret ?_
    refine tr ?_
    exact ⟨.inr rfl, _, (.cons (by first | exact .v (by ((repeat apply Look.there rfl); exact Look.here)) (.f (.v _)) | exact .v (by ((repeat apply Look.there rfl); exact Look.here)) (.row rfl rfl) | exact .v (by ((repeat apply Look.there rfl); exact Look.here)) (.f .nil) | exact .a (by ((repeat apply Look.there rfl); exact Look.here)) | skip) .nil), by rw [area, if_neg g]; rfl⟩ -- LEAF 1: ret
  ·
    have g : inP t := by simpa [inR] using h1
    have g' := g
    unfold inP onP at g
    have p1 := prod_bd (dif_bd (x := t.b.x) (y := t.a.x) (by omega) (by omega)) (dif_bd (x := t.c.y) (y := t.a.y) (by omega) (by omega))
    have p2 := prod_bd (dif_bd (x := t.b.y) (y := t.a.y) (by omega) (by omega)) (dif_bd (x := t.c.x) (y := t.a.x) (by omega) (by omega))
    refine awp_skip ?_
    refine tn ?_
    refine sd mixO ?_
    first | refine xf ?_ | refine xb ?_ | refine xoa ?_
    first | refine lAf ?_ | refine lAb ?_ | refine lAo ?_
    first | refine xf ?_ | refine xb ?_ | refine xoa ?_
    first | refine lAf ?_ | refine lAb ?_ | refine lAo ?_
    first | refine xf ?_ | refine xb ?_ | refine xoa ?_
    first | refine lAf ?_ | refine lAb ?_ | refine lAo ?_
    refine al _ ?_
    refine al _ ?_
    refine al _ ?_
    refine sA ?_
    refine sA ?_
    refine sA ?_
    refine rNil ⟨rfl, ?_⟩
    refine sg ?_
    first | refine ff ?_ | refine fb ?_ | refine fo ?_
    first | refine l1f ?_ | refine l1b ?_ | refine l1o ?_
    first | refine ff ?_ | refine fb ?_ | refine fo ?_
    first | refine l1f ?_ | refine l1b ?_ | refine l1o ?_
    refine bo (hz := by first | exact bop_sub (by omega) (by omega) | exact rfl) ?_
    first | refine ff ?_ | refine fb ?_ | refine fo ?_
    first | refine l1f ?_ | refine l1b ?_ | refine l1o ?_
    first | refine ff ?_ | refine fb ?_ | refine fo ?_
    first | refine l1f ?_ | refine l1b ?_ | refine l1o ?_
    refine bo (hz := by first | exact bop_sub (by omega) (by omega) | exact rfl) ?_
    refine bo (hz := by first | exact bop_mul (by omega) (by omega) | exact rfl) ?_
    first | refine ff ?_ | refine fb ?_ | refine fo ?_
    first | refine l1f ?_ | refine l1b ?_ | refine l1o ?_
    first | refine ff ?_ | refine fb ?_ | refine fo ?_
    first | refine l1f ?_ | refine l1b ?_ | refine l1o ?_
    refine bo (hz := by first | exact bop_sub (by omega) (by omega) | exact rfl) ?_
    first | refine ff ?_ | refine fb ?_ | refine fo ?_
    first | refine l1f ?_ | refine l1b ?_ | refine l1o ?_
    first | refine ff ?_ | refine fb ?_ | refine fo ?_
    first | refine l1f ?_ | refine l1b ?_ | refine l1o ?_
    refine bo (hz := by first | exact bop_sub (by omega) (by omega) | exact rfl) ?_
    refine bo (hz := by first | exact bop_mul (by omega) (by omega) | exact rfl) ?_
    refine bo (hz := by first | exact bop_sub (by omega) (by omega) | exact rfl) ?_
    refine as_ ?_
    refine rNil ?_
    refine awp_ret ?_
    exact ⟨.inr rfl, _, (.cons (by first | exact .v (by ((repeat apply Look.there rfl); exact Look.here)) (.f (.v _)) | exact .v (by ((repeat apply Look.there rfl); exact Look.here)) (.row rfl rfl) | exact .v (by ((repeat apply Look.there rfl); exact Look.here)) (.f .nil) | exact .a (by ((repeat apply Look.there rfl); exact Look.here)) | skip) .nil), by rw [area, if_pos g']; rfl⟩ -- LEAF 2: ret

/-- frustum/frustumref33.InRange -/
theorem c79 (t : T3 V) : Fn Try.prog 79 [A t] (.one (B (inR t))) := by
  refine fnI Try.func79 Try.ntmps79 fun hb => ?_
  refine sg ?_
  refine bx _ ?_
  refine as_ ?_
  refine rNil ?_
  refine sq ?_
  refine sg ?_
  refine as_ ?_
  refine rNil ?_
  refine bk ?_
  refine lu ?_
  refine lr ?_
  refine sq ?_
  refine sg ?_
  refine mv ?_
  refine bo (hz := by exact rfl) ?_
  refine rNil ?_
  refine cn (fun h1 => ?_) (fun h1 => ?_)
  ·
    refine awp_skip ?_
    refine tn ?_
    refine sq ?_
    refine bk ?_
    refine sg ?_
    refine mv ?_
    first | refine xf ?_ | refine xb ?_ | refine xoa ?_
    first | refine ff ?_ | refine fb ?_ | refine fo ?_
    first | refine l1f ?_ | refine l1b ?_ | refine l1o ?_
    refine bo (hz := by exact rfl) ?_
    refine mv ?_
    refine gd (fun h2 => ?_) (fun h2 => ?_)
    ·
      refine no ?_
      refine no ?_
      refine no ?_
      refine no ?_
      refine no ?_
      refine pkT ?_
      refine mv ?_
      refine no ?_
      refine no ?_
      refine no ?_
      refine no ?_
      refine no ?_
      refine pkT ?_
      refine mv ?_
      refine no ?_
      refine no ?_
      refine no ?_
      refine no ?_
      refine no ?_
      refine pkT ?_
      refine rNil ?_
      refine cn (fun h3 => ?_) (fun h3 => ?_)
      ·
        refine sg ?_
        refine as_ ?_
        refine rNil ?_
        refine awp_ret ?_
        refine br ?_
        refine tr ?_
        refine tr ?_
        refine br ?_
        refine tr ?_
        exact ⟨.inr rfl, _, (.cons (by first | exact .v (by ((repeat apply Look.there rfl); exact Look.here)) (.f (.v _)) | exact .v (by ((repeat apply Look.there rfl); exact Look.here)) (.row rfl rfl) | exact .v (by ((repeat apply Look.there rfl); exact Look.here)) (.f .nil) | exact .a (by ((repeat apply Look.there rfl); exact Look.here)) | skip) .nil), oneB (by simp only [decide_eq_true_eq, decide_eq_false_iff_not] at *; unfold inR inP onP; first | exact (decide_eq_true (by omega)).symm | exact (decide_eq_false (by omega)).symm)⟩ -- LEAF 1: ret
      ·
        exact absurd h3 (by decide)
    ·
      refine mv ?_
      first | refine xf ?_ | refine xb ?_ | refine xoa ?_
      first | refine ff ?_ | refine fb ?_ | refine fo ?_
      first | refine l1f ?_ | refine l1b ?_ | refine l1o ?_
      refine bo (hz := by exact rfl) ?_
      refine pkF ?_
      refine mv ?_
      refine gd (fun h4 => ?_) (fun h4 => ?_)
      ·
        refine no ?_
        refine no ?_
        refine no ?_
        refine no ?_
        refine no ?_
        refine pkT ?_
        refine mv ?_
        refine no ?_
        refine no ?_
        refine no ?_
        refine no ?_
        refine no ?_
        refine pkT ?_
        refine rNil ?_
        refine cn (fun h5 => ?_) (fun h5 => ?_)
        ·
          refine sg ?_
          refine as_ ?_
          refine rNil ?_
          refine awp_ret ?_
          refine br ?_
          refine tr ?_
          refine tr ?_
          refine br ?_
          refine tr ?_
          exact ⟨.inr rfl, _, (.cons (by first | exact .v (by ((repeat apply Look.there rfl); exact Look.here)) (.f (.v _)) | exact .v (by ((repeat apply Look.there rfl); exact Look.here)) (.row rfl rfl) | exact .v (by ((repeat apply Look.there rfl); exact Look.here)) (.f .nil) | exact .a (by ((repeat apply Look.there rfl); exact Look.here)) | skip) .nil), oneB (by simp only [decide_eq_true_eq, decide_eq_false_iff_not] at *; unfold inR inP onP; first | exact (decide_eq_true (by omega)).symm | exact (decide_eq_false (by omega)).symm)⟩ -- LEAF 2: ret
        ·
          exact absurd h5 (by decide)
      ·
        refine mv ?_
        first | refine xf ?_ | refine xb ?_ | refine xoa ?_
        first | refine ff ?_ | refine fb ?_ | refine fo ?_
        first | refine l1f ?_ | refine l1b ?_ | refine l1o ?_
        refine bo (hz := by exact rfl) ?_
        refine pkF ?_
        refine mv ?_
        refine gd (fun h6 => ?_) (fun h6 => ?_)
        ·
          refine no ?_
          refine no ?_
          refine no ?_
          refine no ?_
          refine no ?_
          refine pkT ?_
          refine rNil ?_
          refine cn (fun h7 => ?_) (fun h7 => ?_)
          ·
            refine sg ?_
            refine as_ ?_
            refine rNil ?_
            refine awp_ret ?_
            refine br ?_
            refine tr ?_
            refine tr ?_
            refine br ?_
            refine tr ?_
            exact ⟨.inr rfl, _, (.cons (by first | exact .v (by ((repeat apply Look.there rfl); exact Look.here)) (.f (.v _)) | exact .v (by ((repeat apply Look.there rfl); exact Look.here)) (.row rfl rfl) | exact .v (by ((repeat apply Look.there rfl); exact Look.here)) (.f .nil) | exact .a (by ((repeat apply Look.there rfl); exact Look.here)) | skip) .nil), oneB (by simp only [decide_eq_true_eq, decide_eq_false_iff_not] at *; unfold inR inP onP; first | exact (decide_eq_true (by omega)).symm | exact (decide_eq_false (by omega)).symm)⟩ -- LEAF 3: ret
          ·
            exact absurd h7 (by decide)
        ·
          refine mv ?_
          first | refine xf ?_ | refine xb ?_ | refine xoa ?_
          first | refine ff ?_ | refine fb ?_ | refine fo ?_
          first | refine l1f ?_ | refine l1b ?_ | refine l1o ?_
          refine bo (hz := by exact rfl) ?_
          refine pkF ?_
          refine rNil ?_
          refine cn (fun h8 => ?_) (fun h8 => ?_)
          ·
            refine sg ?_
            refine as_ ?_
            refine rNil ?_
            refine awp_ret ?_
            refine br ?_
            refine tr ?_
            refine tr ?_
            refine br ?_
            refine tr ?_
            exact ⟨.inr rfl, _, (.cons (by first | exact .v (by ((repeat apply Look.there rfl); exact Look.here)) (.f (.v _)) | exact .v (by ((repeat apply Look.there rfl); exact Look.here)) (.row rfl rfl) | exact .v (by ((repeat apply Look.there rfl); exact Look.here)) (.f .nil) | exact .a (by ((repeat apply Look.there rfl); exact Look.here)) | skip) .nil), oneB (by simp only [decide_eq_true_eq, decide_eq_false_iff_not] at *; unfold inR inP onP; first | exact (decide_eq_true (by omega)).symm | exact (decide_eq_false (by omega)).symm)⟩ -- LEAF 4: ret
          ·
            refine awp_skip ?_
            refine bn_ ?_
            refine tn ?_
            refine rg ?_
            refine mv ?_
            refine bo (hz := by first | exact bop_add (by omega) (by omega) | exact rfl) ?_
            refine as_ ?_
            refine rNil ?_
            refine tn ?_
            refine lr ?_
            refine sq ?_
            refine sg ?_
            refine mv ?_
            refine bo (hz := by exact rfl) ?_
            refine rNil ?_
            refine cn (fun h9 => ?_) (fun h9 => ?_)
            ·
              refine awp_skip ?_
              refine tn ?_
              refine sq ?_
              refine bk ?_
              refine sg ?_
              refine mv ?_
              first | refine xf ?_ | refine xb ?_ | refine xoa ?_
              first | refine ff ?_ | refine fb ?_ | refine fo ?_
              first | refine l1f ?_ | refine l1b ?_ | refine l1o ?_
              refine bo (hz := by exact rfl) ?_
              refine mv ?_
              refine gd (fun h10 => ?_) (fun h10 => ?_)
              ·
                refine no ?_
                refine no ?_
                refine no ?_
                refine no ?_
                refine no ?_
                refine pkT ?_
                refine mv ?_
                refine no ?_
                refine no ?_
                refine no ?_
                refine no ?_
                refine no ?_
                refine pkT ?_
                refine mv ?_
                refine no ?_
                refine no ?_
                refine no ?_
                refine no ?_
                refine no ?_
                refine pkT ?_
                refine rNil ?_
                refine cn (fun h11 => ?_) (fun h11 => ?_)
                ·
                  refine sg ?_
                  refine as_ ?_
                  refine rNil ?_
                  refine awp_ret ?_
                  refine br ?_
                  refine tr ?_
                  refine tr ?_
                  refine br ?_
                  refine tr ?_
                  exact ⟨.inr rfl, _, (.cons (by first | exact .v (by ((repeat apply Look.there rfl); exact Look.here)) (.f (.v _)) | exact .v (by ((repeat apply Look.there rfl); exact Look.here)) (.row rfl rfl) | exact .v (by ((repeat apply Look.there rfl); exact Look.here)) (.f .nil) | exact .a (by ((repeat apply Look.there rfl); exact Look.here)) | skip) .nil), oneB (by simp only [decide_eq_true_eq, decide_eq_false_iff_not] at *; unfold inR inP onP; first | exact (decide_eq_true (by omega)).symm | exact (decide_eq_false (by omega)).symm)⟩ -- LEAF 5: ret
                ·
                  exact absurd h11 (by decide)
              ·
                refine mv ?_
                first | refine xf ?_ | refine xb ?_ | refine xoa ?_
                first | refine ff ?_ | refine fb ?_ | refine fo ?_
                first | refine l1f ?_ | refine l1b ?_ | refine l1o ?_
                refine bo (hz := by exact rfl) ?_
                refine pkF ?_
                refine mv ?_
                refine gd (fun h12 => ?_) (fun h12 => ?_)
                ·
                  refine no ?_
                  refine no ?_
                  refine no ?_
                  refine no ?_
                  refine no ?_
                  refine pkT ?_
                  refine mv ?_
                  refine no ?_
                  refine no ?_
                  refine no ?_
                  refine no ?_
                  refine no ?_
                  refine pkT ?_
                  refine rNil ?_
                  refine cn (fun h13 => ?_) (fun h13 => ?_)
                  ·
                    refine sg ?_
                    refine as_ ?_
                    refine rNil ?_
                    refine awp_ret ?_
                    refine br ?_
                    refine tr ?_
                    refine tr ?_
                    refine br ?_
                    refine tr ?_
                    exact ⟨.inr rfl, _, (.cons (by first | exact .v (by ((repeat apply Look.there rfl); exact Look.here)) (.f (.v _)) | exact .v (by ((repeat apply Look.there rfl); exact Look.here)) (.row rfl rfl) | exact .v (by ((repeat apply Look.there rfl); exact Look.here)) (.f .nil) | exact .a (by ((repeat apply Look.there rfl); exact Look.here)) | skip) .nil), oneB (by simp only [decide_eq_true_eq, decide_eq_false_iff_not] at *; unfold inR inP onP; first | exact (decide_eq_true (by omega)).symm | exact (decide_eq_false (by omega)).symm)⟩ -- LEAF 6: ret
                  ·
                    exact absurd h13 (by decide)
                ·
                  refine mv ?_
                  first | refine xf ?_ | refine xb ?_ | refine xoa ?_
                  first | refine ff ?_ | refine fb ?_ | refine fo ?_
                  first | refine l1f ?_ | refine l1b ?_ | refine l1o ?_
                  refine bo (hz := by exact rfl) ?_
                  refine pkF ?_
                  refine mv ?_
                  refine gd (fun h14 => ?_) (fun h14 => ?_)
                  ·
                    refine no ?_
                    refine no ?_
                    refine no ?_
                    refine no ?_
                    refine no ?_
                    refine pkT ?_
                    refine rNil ?_
                    refine cn (fun h15 => ?_) (fun h15 => ?_)
                    ·
                      refine sg ?_
                      refine as_ ?_
                      refine rNil ?_
                      refine awp_ret ?_
                      refine br ?_
                      refine tr ?_
                      refine tr ?_
                      refine br ?_
                      refine tr ?_
                      exact ⟨.inr rfl, _, (.cons (by first | exact .v (by ((repeat apply Look.there rfl); exact Look.here)) (.f (.v _)) | exact .v (by ((repeat apply Look.there rfl); exact Look.here)) (.row rfl rfl) | exact .v (by ((repeat apply Look.there rfl); exact Look.here)) (.f .nil) | exact .a (by ((repeat apply Look.there rfl); exact Look.here)) | skip) .nil), oneB (by simp only [decide_eq_true_eq, decide_eq_false_iff_not] at *; unfold inR inP onP; first | exact (decide_eq_true (by omega)).symm | exact (decide_eq_false (by omega)).symm)⟩ -- LEAF 7: ret
                    ·
                      exact absurd h15 (by decide)
                  ·
                    refine mv ?_
                    first | refine xf ?_ | refine xb ?_ | refine xoa ?_
                    first | refine ff ?_ | refine fb ?_ | refine fo ?_
                    first | refine l1f ?_ | refine l1b ?_ | refine l1o ?_
                    refine bo (hz := by exact rfl) ?_
                    refine pkF ?_
                    refine rNil ?_
                    refine cn (fun h16 => ?_) (fun h16 => ?_)
                    ·
                      refine sg ?_
                      refine as_ ?_
                      refine rNil ?_
                      refine awp_ret ?_
                      refine br ?_
                      refine tr ?_
                      refine tr ?_
                      refine br ?_
                      refine tr ?_
                      exact ⟨.inr rfl, _, (.cons (by first | exact .v (by ((repeat apply Look.there rfl); exact Look.here)) (.f (.v _)) | exact .v (by ((repeat apply Look.there rfl); exact Look.here)) (.row rfl rfl) | exact .v (by ((repeat apply Look.there rfl); exact Look.here)) (.f .nil) | exact .a (by ((repeat apply Look.there rfl); exact Look.here)) | skip) .nil), oneB (by simp only [decide_eq_true_eq, decide_eq_false_iff_not] at *; unfold inR inP onP; first | exact (decide_eq_true (by omega)).symm | exact (decide_eq_false (by omega)).symm)⟩ -- LEAF 8: ret
                    ·
                      refine awp_skip ?_
                      refine bn_ ?_
                      refine tn ?_
                      refine rg ?_
                      refine mv ?_
                      refine bo (hz := by first | exact bop_add (by omega) (by omega) | exact rfl) ?_
                      refine as_ ?_
                      refine rNil ?_
                      refine tn ?_
                      refine lr ?_
                      refine sq ?_
                      refine sg ?_
                      refine mv ?_
                      refine bo (hz := by exact rfl) ?_
                      refine rNil ?_
                      refine cn (fun h17 => ?_) (fun h17 => ?_)
                      ·
                        refine awp_skip ?_
                        refine tn ?_
                        refine sq ?_
                        refine bk ?_
                        refine sg ?_
                        refine mv ?_
                        first | refine xf ?_ | refine xb ?_ | refine xoa ?_
                        first | refine ff ?_ | refine fb ?_ | refine fo ?_
                        first | refine l1f ?_ | refine l1b ?_ | refine l1o ?_
                        refine bo (hz := by exact rfl) ?_
                        refine mv ?_
                        refine gd (fun h18 => ?_) (fun h18 => ?_)
                        ·
                          refine no ?_
                          refine no ?_
                          refine no ?_
                          refine no ?_
                          refine no ?_
                          refine pkT ?_
                          refine mv ?_
                          refine no ?_
                          refine no ?_
                          refine no ?_
                          refine no ?_
                          refine no ?_
                          refine pkT ?_
                          refine mv ?_
                          refine no ?_
                          refine no ?_
                          refine no ?_
                          refine no ?_
                          refine no ?_
                          refine pkT ?_
                          refine rNil ?_
                          refine cn (fun h19 => ?_) (fun h19 => ?_)
                          ·
                            refine sg ?_
                            refine as_ ?_
                            refine rNil ?_
                            refine awp_ret ?_
                            refine br ?_
                            refine tr ?_
                            refine tr ?_
                            refine br ?_
                            refine tr ?_
                            exact ⟨.inr rfl, _, (.cons (by first | exact .v (by ((repeat apply Look.there rfl); exact Look.here)) (.f (.v _)) | exact .v (by ((repeat apply Look.there rfl); exact Look.here)) (.row rfl rfl) | exact .v (by ((repeat apply Look.there rfl); exact Look.here)) (.f .nil) | exact .a (by ((repeat apply Look.there rfl); exact Look.here)) | skip) .nil), oneB (by simp only [decide_eq_true_eq, decide_eq_false_iff_not] at *; unfold inR inP onP; first | exact (decide_eq_true (by omega)).symm | exact (decide_eq_false (by omega)).symm)⟩ -- LEAF 9: ret
                          ·
                            exact absurd h19 (by decide)
                        ·
                          refine mv ?_
                          first | refine xf ?_ | refine xb ?_ | refine xoa ?_
                          first | refine ff ?_ | refine fb ?_ | refine fo ?_
                          first | refine l1f ?_ | refine l1b ?_ | refine l1o ?_
                          refine bo (hz := by exact rfl) ?_
                          refine pkF ?_
                          refine mv ?_
                          refine gd (fun h20 => ?_) (fun h20 => ?_)
                          ·
                            refine no ?_
                            refine no ?_
                            refine no ?_
                            refine no ?_
                            refine no ?_
                            refine pkT ?_
                            refine mv ?_
                            refine no ?_
                            refine no ?_
                            refine no ?_
                            refine no ?_
                            refine no ?_
                            refine pkT ?_
                            refine rNil ?_
                            refine cn (fun h21 => ?_) (fun h21 => ?_)
                            ·
                              refine sg ?_
                              refine as_ ?_
                              refine rNil ?_
                              refine awp_ret ?_
                              refine br ?_
                              refine tr ?_
                              refine tr ?_
                              refine br ?_
                              refine tr ?_
                              exact ⟨.inr rfl, _, (.cons (by first | exact .v (by ((repeat apply Look.there rfl); exact Look.here)) (.f (.v _)) | exact .v (by ((repeat apply Look.there rfl); exact Look.here)) (.row rfl rfl) | exact .v (by ((repeat apply Look.there rfl); exact Look.here)) (.f .nil) | exact .a (by ((repeat apply Look.there rfl); exact Look.here)) | skip) .nil), oneB (by simp only [decide_eq_true_eq, decide_eq_false_iff_not] at *; unfold inR inP onP; first | exact (decide_eq_true (by omega)).symm | exact (decide_eq_false (by omega)).symm)⟩ -- LEAF 10: ret
                            ·
                              exact absurd h21 (by decide)
                          ·
                            refine mv ?_
                            first | refine xf ?_ | refine xb ?_ | refine xoa ?_
                            first | refine ff ?_ | refine fb ?_ | refine fo ?_
                            first | refine l1f ?_ | refine l1b ?_ | refine l1o ?_
                            refine bo (hz := by exact rfl) ?_
                            refine pkF ?_
                            refine mv ?_
                            refine gd (fun h22 => ?_) (fun h22 => ?_)
                            ·
                              refine no ?_
                              refine no ?_
                              refine no ?_
                              refine no ?_
                              refine no ?_
                              refine pkT ?_
                              refine rNil ?_
                              refine cn (fun h23 => ?_) (fun h23 => ?_)
                              ·
                                refine sg ?_
                                refine as_ ?_
                                refine rNil ?_
                                refine awp_ret ?_
                                refine br ?_
                                refine tr ?_
                                refine tr ?_
                                refine br ?_
                                refine tr ?_
                                exact ⟨.inr rfl, _, (.cons (by first | exact .v (by ((repeat apply Look.there rfl); exact Look.here)) (.f (.v _)) | exact .v (by ((repeat apply Look.there rfl); exact Look.here)) (.row rfl rfl) | exact .v (by ((repeat apply Look.there rfl); exact Look.here)) (.f .nil) | exact .a (by ((repeat apply Look.there rfl); exact Look.here)) | skip) .nil), oneB (by simp only [decide_eq_true_eq, decide_eq_false_iff_not] at *; unfold inR inP onP; first | exact (decide_eq_true (by omega)).symm | exact (decide_eq_false (by omega)).symm)⟩ -- LEAF 11: ret
                              ·
                                exact absurd h23 (by decide)
                            ·
                              refine mv ?_
                              first | refine xf ?_ | refine xb ?_ | refine xoa ?_
                              first | refine ff ?_ | refine fb ?_ | refine fo ?_
                              first | refine l1f ?_ | refine l1b ?_ | refine l1o ?_
                              refine bo (hz := by exact rfl) ?_
                              refine pkF ?_
                              refine rNil ?_
                              refine cn (fun h24 => ?_) (fun h24 => ?_)
                              ·
                                refine sg ?_
                                refine as_ ?_
                                refine rNil ?_
                                refine awp_ret ?_
                                refine br ?_
                                refine tr ?_
                                refine tr ?_
                                refine br ?_
                                refine tr ?_
                                exact ⟨.inr rfl, _, (.cons (by first | exact .v (by ((repeat apply Look.there rfl); exact Look.here)) (.f (.v _)) | exact .v (by ((repeat apply Look.there rfl); exact Look.here)) (.row rfl rfl) | exact .v (by ((repeat apply Look.there rfl); exact Look.here)) (.f .nil) | exact .a (by ((repeat apply Look.there rfl); exact Look.here)) | skip) .nil), oneB (by simp only [decide_eq_true_eq, decide_eq_false_iff_not] at *; unfold inR inP onP; first | exact (decide_eq_true (by omega)).symm | exact (decide_eq_false (by omega)).symm)⟩ -- LEAF 12: ret
                              ·
                                refine awp_skip ?_
                                refine bn_ ?_
                                refine tn ?_
                                refine rg ?_
                                refine mv ?_
                                refine bo (hz := by first | exact bop_add (by omega) (by omega) | exact rfl) ?_
                                refine as_ ?_
                                refine rNil ?_
                                refine tn ?_
                                refine lr ?_
                                refine sq ?_
                                refine sg ?_
                                refine mv ?_
                                refine bo (hz := by exact rfl) ?_
                                refine rNil ?_
                                refine cn (fun h25 => ?_) (fun h25 => ?_)
                                ·
                                  exact absurd h25 (by decide)
                                ·
                                  refine awp_exit ?_
                                  refine te ?_
                                  refine te ?_
                                  refine xbk ?_
                                  refine tn ?_
                                  refine sg ?_
                                  refine as_ ?_
                                  refine rNil ?_
                                  refine awp_ret ?_
                                  exact ⟨.inr rfl, _, (.cons (by first | exact .v (by ((repeat apply Look.there rfl); exact Look.here)) (.f (.v _)) | exact .v (by ((repeat apply Look.there rfl); exact Look.here)) (.row rfl rfl) | exact .v (by ((repeat apply Look.there rfl); exact Look.here)) (.f .nil) | exact .a (by ((repeat apply Look.there rfl); exact Look.here)) | skip) .nil), oneB (by simp only [decide_eq_true_eq, decide_eq_false_iff_not] at *; unfold inR inP onP; first | exact (decide_eq_true (by omega)).symm | exact (decide_eq_false (by omega)).symm)⟩ -- LEAF 13: ret
                      ·
                        exact absurd h17 (by decide)
            ·
              exact absurd h9 (by decide)
  ·
    exact absurd h1 (by decide)

/-- frustum/frustumref33.Area -/
theorem c50 (t : T3 V) : Fn Try.prog 50 [A t] (.one (I (area t))) := by
  refine fnI Try.func50 Try.ntmps50 fun hb => ?_
  refine sg ?_
  refine bx _ ?_
  refine as_ ?_
  refine rNil ?_
  refine sq ?_
  refine sg ?_
  first | refine lAf ?_ | refine lAb ?_ | refine lAo ?_
  refine cl (c79 _) ?_
  refine nt ?_
  refine rNil ?_
  refine cn (fun h1 => ?_) (fun h1 => ?_)
  ·
    have g : ¬ inP t := by simpa [inR] using h1
    refine sg ?_
    refine as_ ?_
    refine rNil ?_
    refine awp_ret ?_
    refine tr ?_
    exact ⟨.inr rfl, _, (.cons (by first | exact .v (by ((repeat apply Look.there rfl); exact Look.here)) (.f (.v _)) | exact .v (by ((repeat apply Look.there rfl); exact Look.here)) (.row rfl rfl) | exact .v (by ((repeat apply Look.there rfl); exact Look.here)) (.f .nil) | exact .a (by ((repeat apply Look.there rfl); exact Look.here)) | skip) .nil), by rw [area, if_neg g]; rfl⟩ -- LEAF 1: ret
  ·
    have g : inP t := by simpa [inR] using h1
    have g' := g
    unfold inP onP at g
    have p1 := prod_bd (dif_bd (x := t.b.x) (y := t.a.x) (by omega) (by omega)) (dif_bd (x := t.c.y) (y := t.a.y) (by omega) (by omega))
    have p2 := prod_bd (dif_bd (x := t.b.y) (y := t.a.y) (by omega) (by omega)) (dif_bd (x := t.c.x) (y := t.a.x) (by omega) (by omega))
    refine awp_skip ?_
    refine tn ?_
    refine sg ?_
    first | refine xf ?_ | refine xb ?_ | refine xoa ?_
    first | refine ff ?_ | refine fb ?_ | refine fo ?_
    first | refine l1f ?_ | refine l1b ?_ | refine l1o ?_
    first | refine xf ?_ | refine xb ?_ | refine xoa ?_
    first | refine ff ?_ | refine fb ?_ | refine fo ?_
    first | refine l1f ?_ | refine l1b ?_ | refine l1o ?_
    refine bo (hz := by first | exact bop_sub (by omega) (by omega) | exact rfl) ?_
    first | refine xf ?_ | refine xb ?_ | refine xoa ?_
    first | refine ff ?_ | refine fb ?_ | refine fo ?_
    first | refine l1f ?_ | refine l1b ?_ | refine l1o ?_
    first | refine xf ?_ | refine xb ?_ | refine xoa ?_
    first | refine ff ?_ | refine fb ?_ | refine fo ?_
    first | refine l1f ?_ | refine l1b ?_ | refine l1o ?_
    refine bo (hz := by first | exact bop_sub (by omega) (by omega) | exact rfl) ?_
    refine bo (hz := by first | exact bop_mul (by omega) (by omega) | exact rfl) ?_
    first | refine xf ?_ | refine xb ?_ | refine xoa ?_
    first | refine ff ?_ | refine fb ?_ | refine fo ?_
    first | refine l1f ?_ | refine l1b ?_ | refine l1o ?_
    first | refine xf ?_ | refine xb ?_ | refine xoa ?_
    first | refine ff ?_ | refine fb ?_ | refine fo ?_
    first | refine l1f ?_ | refine l1b ?_ | refine l1o ?_
    refine bo (hz := by first | exact bop_sub (by omega) (by omega) | exact rfl) ?_
    first | refine xf ?_ | refine xb ?_ | refine xoa ?_
    first | refine ff ?_ | refine fb ?_ | refine fo ?_
    first | refine l1f ?_ | refine l1b ?_ | refine l1o ?_
    first | refine xf ?_ | refine xb ?_ | refine xoa ?_
    first | refine ff ?_ | refine fb ?_ | refine fo ?_
    first | refine l1f ?_ | refine l1b ?_ | refine l1o ?_
    refine bo (hz := by first | exact bop_sub (by omega) (by omega) | exact rfl) ?_
    refine bo (hz := by first | exact bop_mul (by omega) (by omega) | exact rfl) ?_
    refine bo (hz := by first | exact bop_sub (by omega) (by omega) | exact rfl) ?_
    refine as_ ?_
    refine rNil ?_
    refine awp_ret ?_
    exact ⟨.inr rfl, _, (.cons (by first | exact .v (by ((repeat apply Look.there rfl); exact Look.here)) (.f (.v _)) | exact .v (by ((repeat apply Look.there rfl); exact Look.here)) (.row rfl rfl) | exact .v (by ((repeat apply Look.there rfl); exact Look.here)) (.f .nil) | exact .a (by ((repeat apply Look.there rfl); exact Look.here)) | skip) .nil), by rw [area, if_pos g']; rfl⟩ -- LEAF 2: ret

def frontF (a : Int) (cw : Bool) : Bool := if cw = true then decide (a > 0) else decide (a < 0)
def keepF (a m : Int) (cw : Bool) : Bool := if a = 0 then false else if m = 1 then true else if m = 2 then !frontF a cw else if m = 3 then frontF a cw else false
/-- frustum/cull.IsFront -/
theorem c42 (a : Int) (cw : Bool) : Fn Try.prog 42 [I a, B cw] (.one (B (frontF a cw))) := by
  refine fnI Try.func42 Try.ntmps42 fun hb => ?_
  refine sg ?_
  refine as_ ?_
  refine rNil ?_
  refine sq ?_
  refine sg ?_
  refine mv ?_
  refine rNil ?_
  refine cn (fun h1 => ?_) (fun h1 => ?_)
  ·
    refine sg ?_
    refine mv ?_
    refine bo (hz := by exact rfl) ?_
    refine as_ ?_
    refine rNil ?_
    refine awp_ret ?_
    refine tr ?_
    exact ⟨.inr rfl, _, (.cons (by first | exact .v (by ((repeat apply Look.there rfl); exact Look.here)) (.f (.v _)) | exact .v (by ((repeat apply Look.there rfl); exact Look.here)) (.row rfl rfl) | exact .v (by ((repeat apply Look.there rfl); exact Look.here)) (.f .nil) | exact .a (by ((repeat apply Look.there rfl); exact Look.here)) | skip) .nil), oneB (by first | rw [frontF, if_pos h1] | rw [frontF, if_neg (by rw [h1]; decide)])⟩ -- LEAF 1: ret
  ·
    refine awp_skip ?_
    refine tn ?_
    refine sg ?_
    refine mv ?_
    refine bo (hz := by exact rfl) ?_
    refine as_ ?_
    refine rNil ?_
    refine awp_ret ?_
    exact ⟨.inr rfl, _, (.cons (by first | exact .v (by ((repeat apply Look.there rfl); exact Look.here)) (.f (.v _)) | exact .v (by ((repeat apply Look.there rfl); exact Look.here)) (.row rfl rfl) | exact .v (by ((repeat apply Look.there rfl); exact Look.here)) (.f .nil) | exact .a (by ((repeat apply Look.there rfl); exact Look.here)) | skip) .nil), oneB (by first | rw [frontF, if_pos h1] | rw [frontF, if_neg (by rw [h1]; decide)])⟩ -- LEAF 2: ret

/-- frustum/frustumref33.IsFront -/
theorem c53 (a : Int) (cw : Bool) : Fn Try.prog 53 [I a, B cw] (.one (B (frontF a cw))) := by
  refine fnI Try.func53 Try.ntmps53 fun hb => ?_
  refine sg ?_
  refine as_ ?_
  refine rNil ?_
  refine sg ?_
  refine mv ?_
  refine bo (hz := by exact rfl) ?_
  refine mv ?_
  refine gd (fun h1 => ?_) (fun h1 => ?_)
  ·
    refine mv ?_
    refine pkT ?_
    refine mv ?_
    refine gd (fun h2 => ?_) (fun h2 => ?_)
    ·
      refine no ?_
      refine no ?_
      refine no ?_
      refine noU ?_
      refine noU ?_
      refine no ?_
      refine pkT ?_
      refine as_ ?_
      refine rNil ?_
      refine awp_ret ?_
      exact ⟨.inr rfl, _, (.cons (by first | exact .v (by ((repeat apply Look.there rfl); exact Look.here)) (.f (.v _)) | exact .v (by ((repeat apply Look.there rfl); exact Look.here)) (.row rfl rfl) | exact .v (by ((repeat apply Look.there rfl); exact Look.here)) (.f .nil) | exact .a (by ((repeat apply Look.there rfl); exact Look.here)) | skip) .nil), oneB (by cases cw <;> simp_all [frontF] <;> omega)⟩ -- LEAF 1: ret
    ·
      refine mv ?_
      refine bo (hz := by exact rfl) ?_
      refine mv ?_
      refine gd (fun h3 => ?_) (fun h3 => ?_)
      ·
        refine mv ?_
        refine nt ?_
        refine pkT ?_
        refine pkF ?_
        refine as_ ?_
        refine rNil ?_
        refine awp_ret ?_
        exact ⟨.inr rfl, _, (.cons (by first | exact .v (by ((repeat apply Look.there rfl); exact Look.here)) (.f (.v _)) | exact .v (by ((repeat apply Look.there rfl); exact Look.here)) (.row rfl rfl) | exact .v (by ((repeat apply Look.there rfl); exact Look.here)) (.f .nil) | exact .a (by ((repeat apply Look.there rfl); exact Look.here)) | skip) .nil), oneB (by cases cw <;> simp_all [frontF] <;> omega)⟩ -- LEAF 2: ret
      ·
        refine no ?_
        refine no ?_
        refine pkF ?_
        refine pkF ?_
        refine as_ ?_
        refine rNil ?_
        refine awp_ret ?_
        exact ⟨.inr rfl, _, (.cons (by first | exact .v (by ((repeat apply Look.there rfl); exact Look.here)) (.f (.v _)) | exact .v (by ((repeat apply Look.there rfl); exact Look.here)) (.row rfl rfl) | exact .v (by ((repeat apply Look.there rfl); exact Look.here)) (.f .nil) | exact .a (by ((repeat apply Look.there rfl); exact Look.here)) | skip) .nil), oneB (by cases cw <;> simp_all [frontF] <;> omega)⟩ -- LEAF 3: ret
  ·
    refine no ?_
    refine pkF ?_
    refine mv ?_
    refine mv ?_
    refine bo (hz := by exact rfl) ?_
    refine mv ?_
    refine gd (fun h4 => ?_) (fun h4 => ?_)
    ·
      refine mv ?_
      refine nt ?_
      refine pkT ?_
      refine pkF ?_
      refine as_ ?_
      refine rNil ?_
      refine awp_ret ?_
      exact ⟨.inr rfl, _, (.cons (by first | exact .v (by ((repeat apply Look.there rfl); exact Look.here)) (.f (.v _)) | exact .v (by ((repeat apply Look.there rfl); exact Look.here)) (.row rfl rfl) | exact .v (by ((repeat apply Look.there rfl); exact Look.here)) (.f .nil) | exact .a (by ((repeat apply Look.there rfl); exact Look.here)) | skip) .nil), oneB (by cases cw <;> simp_all [frontF] <;> omega)⟩ -- LEAF 4: ret
    ·
      refine no ?_
      refine no ?_
      refine pkF ?_
      refine pkF ?_
      refine as_ ?_
      refine rNil ?_
      refine awp_ret ?_
      exact ⟨.inr rfl, _, (.cons (by first | exact .v (by ((repeat apply Look.there rfl); exact Look.here)) (.f (.v _)) | exact .v (by ((repeat apply Look.there rfl); exact Look.here)) (.row rfl rfl) | exact .v (by ((repeat apply Look.there rfl); exact Look.here)) (.f .nil) | exact .a (by ((repeat apply Look.there rfl); exact Look.here)) | skip) .nil), oneB (by cases cw <;> simp_all [frontF] <;> omega)⟩ -- LEAF 5: ret

/-- frustum/cull.Keep -/
theorem c40 (a m : Int) (cw : Bool) : Fn Try.prog 40 [I a, I m, B cw] (.one (B (keepF a m cw))) := by
  refine fnI Try.func40 Try.ntmps40 fun hb => ?_
  refine sg ?_
  refine as_ ?_
  refine rNil ?_
  refine sq ?_
  refine sg ?_
  refine mv ?_
  refine bo (hz := by exact rfl) ?_
  refine rNil ?_
  refine cn (fun h1 => ?_) (fun h1 => ?_)
  ·
    refine sg ?_
    refine as_ ?_
    refine rNil ?_
    refine awp_ret ?_
    refine tr ?_
    exact ⟨.inr rfl, _, (.cons (by first | exact .v (by ((repeat apply Look.there rfl); exact Look.here)) (.f (.v _)) | exact .v (by ((repeat apply Look.there rfl); exact Look.here)) (.row rfl rfl) | exact .v (by ((repeat apply Look.there rfl); exact Look.here)) (.f .nil) | exact .a (by ((repeat apply Look.there rfl); exact Look.here)) | skip) .nil), oneB (by simp_all [keepF])⟩ -- LEAF 1: ret
  ·
    refine awp_skip ?_
    refine tn ?_
    refine sq ?_
    refine sg ?_
    refine mv ?_
    refine rNil ?_
    refine bk ?_
    refine sg ?_
    refine bo (hz := by exact rfl) ?_
    refine as_ ?_
    refine rNil ?_
    refine cn (fun h2 => ?_) (fun h2 => ?_)
    ·
      refine sg ?_
      refine as_ ?_
      refine rNil ?_
      refine awp_ret ?_
      refine br ?_
      refine tr ?_
      exact ⟨.inr rfl, _, (.cons (by first | exact .v (by ((repeat apply Look.there rfl); exact Look.here)) (.f (.v _)) | exact .v (by ((repeat apply Look.there rfl); exact Look.here)) (.row rfl rfl) | exact .v (by ((repeat apply Look.there rfl); exact Look.here)) (.f .nil) | exact .a (by ((repeat apply Look.there rfl); exact Look.here)) | skip) .nil), oneB (by simp_all [keepF])⟩ -- LEAF 2: ret
    ·
      refine sg ?_
      refine bo (hz := by exact rfl) ?_
      refine as_ ?_
      refine rNil ?_
      refine cn (fun h3 => ?_) (fun h3 => ?_)
      ·
        refine sg ?_
        refine mv ?_
        refine mv ?_
        refine cl (c42 _ _) ?_
        refine nt ?_
        refine as_ ?_
        refine rNil ?_
        refine awp_ret ?_
        refine br ?_
        refine tr ?_
        exact ⟨.inr rfl, _, (.cons (by first | exact .v (by ((repeat apply Look.there rfl); exact Look.here)) (.f (.v _)) | exact .v (by ((repeat apply Look.there rfl); exact Look.here)) (.row rfl rfl) | exact .v (by ((repeat apply Look.there rfl); exact Look.here)) (.f .nil) | exact .a (by ((repeat apply Look.there rfl); exact Look.here)) | skip) .nil), oneB (by simp_all [keepF])⟩ -- LEAF 3: ret
      ·
        refine sg ?_
        refine bo (hz := by exact rfl) ?_
        refine as_ ?_
        refine rNil ?_
        refine cn (fun h4 => ?_) (fun h4 => ?_)
        ·
          refine sg ?_
          refine mv ?_
          refine mv ?_
          refine cl (c42 _ _) ?_
          refine as_ ?_
          refine rNil ?_
          refine awp_ret ?_
          refine br ?_
          refine tr ?_
          exact ⟨.inr rfl, _, (.cons (by first | exact .v (by ((repeat apply Look.there rfl); exact Look.here)) (.f (.v _)) | exact .v (by ((repeat apply Look.there rfl); exact Look.here)) (.row rfl rfl) | exact .v (by ((repeat apply Look.there rfl); exact Look.here)) (.f .nil) | exact .a (by ((repeat apply Look.there rfl); exact Look.here)) | skip) .nil), oneB (by simp_all [keepF])⟩ -- LEAF 4: ret
        ·
          refine awp_skip ?_
          refine bn_ ?_
          refine tn ?_
          refine sg ?_
          refine as_ ?_
          refine rNil ?_
          refine awp_ret ?_
          exact ⟨.inr rfl, _, (.cons (by first | exact .v (by ((repeat apply Look.there rfl); exact Look.here)) (.f (.v _)) | exact .v (by ((repeat apply Look.there rfl); exact Look.here)) (.row rfl rfl) | exact .v (by ((repeat apply Look.there rfl); exact Look.here)) (.f .nil) | exact .a (by ((repeat apply Look.there rfl); exact Look.here)) | skip) .nil), oneB (by simp_all [keepF])⟩ -- LEAF 5: ret

/-- frustum/frustumref33.Keep -/
theorem c51 (a m : Int) (cw : Bool) : Fn Try.prog 51 [I a, I m, B cw] (.one (B (keepF a m cw))) := by
  refine fnI Try.func51 Try.ntmps51 fun hb => ?_
  refine sg ?_
  refine as_ ?_
  refine rNil ?_
  refine sq ?_
  refine sg ?_
  refine mv ?_
  refine bo (hz := by exact rfl) ?_
  refine rNil ?_
  refine cn (fun h1 => ?_) (fun h1 => ?_)
  ·
    refine sg ?_
    refine as_ ?_
    refine rNil ?_
    refine awp_ret ?_
    refine tr ?_
    exact ⟨.inr rfl, _, (.cons (by first | exact .v (by ((repeat apply Look.there rfl); exact Look.here)) (.f (.v _)) | exact .v (by ((repeat apply Look.there rfl); exact Look.here)) (.row rfl rfl) | exact .v (by ((repeat apply Look.there rfl); exact Look.here)) (.f .nil) | exact .a (by ((repeat apply Look.there rfl); exact Look.here)) | skip) .nil), oneB (by simp_all [keepF])⟩ -- LEAF 1: ret
  ·
    refine awp_skip ?_
    refine tn ?_
    refine sq ?_
    refine sg ?_
    refine mv ?_
    refine rNil ?_
    refine bk ?_
    refine sg ?_
    refine bo (hz := by exact rfl) ?_
    refine as_ ?_
    refine rNil ?_
    refine cn (fun h2 => ?_) (fun h2 => ?_)
    ·
      refine sg ?_
      refine as_ ?_
      refine rNil ?_
      refine awp_ret ?_
      refine br ?_
      refine tr ?_
      exact ⟨.inr rfl, _, (.cons (by first | exact .v (by ((repeat apply Look.there rfl); exact Look.here)) (.f (.v _)) | exact .v (by ((repeat apply Look.there rfl); exact Look.here)) (.row rfl rfl) | exact .v (by ((repeat apply Look.there rfl); exact Look.here)) (.f .nil) | exact .a (by ((repeat apply Look.there rfl); exact Look.here)) | skip) .nil), oneB (by simp_all [keepF])⟩ -- LEAF 2: ret
    ·
      refine sg ?_
      refine bo (hz := by exact rfl) ?_
      refine as_ ?_
      refine rNil ?_
      refine cn (fun h3 => ?_) (fun h3 => ?_)
      ·
        refine sg ?_
        refine mv ?_
        refine mv ?_
        refine cl (c53 _ _) ?_
        refine nt ?_
        refine as_ ?_
        refine rNil ?_
        refine awp_ret ?_
        refine br ?_
        refine tr ?_
        exact ⟨.inr rfl, _, (.cons (by first | exact .v (by ((repeat apply Look.there rfl); exact Look.here)) (.f (.v _)) | exact .v (by ((repeat apply Look.there rfl); exact Look.here)) (.row rfl rfl) | exact .v (by ((repeat apply Look.there rfl); exact Look.here)) (.f .nil) | exact .a (by ((repeat apply Look.there rfl); exact Look.here)) | skip) .nil), oneB (by simp_all [keepF])⟩ -- LEAF 3: ret
      ·
        refine sg ?_
        refine bo (hz := by exact rfl) ?_
        refine as_ ?_
        refine rNil ?_
        refine cn (fun h4 => ?_) (fun h4 => ?_)
        ·
          refine sg ?_
          refine mv ?_
          refine mv ?_
          refine cl (c53 _ _) ?_
          refine as_ ?_
          refine rNil ?_
          refine awp_ret ?_
          refine br ?_
          refine tr ?_
          exact ⟨.inr rfl, _, (.cons (by first | exact .v (by ((repeat apply Look.there rfl); exact Look.here)) (.f (.v _)) | exact .v (by ((repeat apply Look.there rfl); exact Look.here)) (.row rfl rfl) | exact .v (by ((repeat apply Look.there rfl); exact Look.here)) (.f .nil) | exact .a (by ((repeat apply Look.there rfl); exact Look.here)) | skip) .nil), oneB (by simp_all [keepF])⟩ -- LEAF 4: ret
        ·
          refine awp_skip ?_
          refine bn_ ?_
          refine tn ?_
          refine sg ?_
          refine as_ ?_
          refine rNil ?_
          refine awp_ret ?_
          exact ⟨.inr rfl, _, (.cons (by first | exact .v (by ((repeat apply Look.there rfl); exact Look.here)) (.f (.v _)) | exact .v (by ((repeat apply Look.there rfl); exact Look.here)) (.row rfl rfl) | exact .v (by ((repeat apply Look.there rfl); exact Look.here)) (.f .nil) | exact .a (by ((repeat apply Look.there rfl); exact Look.here)) | skip) .nil), oneB (by simp_all [keepF])⟩ -- LEAF 5: ret

def oriF (t : T3 V) : T3 V := if area t < 0 then ⟨t.a, t.c, t.b⟩ else t
theorem oriF_few {t : T3 V} (h : FewT t) : FewT (oriF t) := by
  unfold oriF; split
  · exact ⟨h.1, h.2.2, h.2.1⟩
  · exact h
set_option maxHeartbeats 1000000 in
/-- frustum/cull.Orient -/
theorem c41 (t : T3 V) (hf : FewT t) : Fn Try.prog 41 [A t] (.one (A (oriF t))) := by
  refine fnI Try.func41 Try.ntmps41 fun hb => ?_
  have f1 : t.a.vs.length ≤ 17592186044412 := hf.1
  have f2 : t.b.vs.length ≤ 17592186044412 := hf.2.1
  have f3 : t.c.vs.length ≤ 17592186044412 := hf.2.2
  refine sg ?_
  refine bx _ ?_
  refine al _ ?_
  refine rNil ?_
  refine sq ?_
  refine sg ?_
  first | refine lAf ?_ | refine lAb ?_ | refine lAo ?_
  refine cl (c39 t) ?_
  refine bo (hz := by exact rfl) ?_
  refine rNil ?_
  refine cn (fun h1 => ?_) (fun h1 => ?_)
  ·
    refine rg ?_
    first | refine xf ?_ | refine xb ?_ | refine xoa ?_
    first | refine lAf ?_ | refine lAb ?_ | refine lAo ?_
    first | refine xf ?_ | refine xb ?_ | refine xoa ?_
    first | refine lAf ?_ | refine lAb ?_ | refine lAo ?_
    first | refine xf ?_ | refine xb ?_ | refine xoa ?_
    refine sA ?_
    first | refine xf ?_ | refine xb ?_ | refine xoa ?_
    refine sA ?_
    refine rNil ?_
    refine tn ?_
    refine sq ?_
    refine sg ?_
    refine mv ?_
    refine rNil ?_
    refine bk ?_
    refine lu ?_
    refine lr ?_
    refine sg ?_
    refine bo (hz := by exact rfl) ?_
    refine rNil ?_
    refine sq ?_
    refine cn (fun h2 => ?_) (fun h2 => ?_)
    ·
      refine awp_skip ?_
      refine tn ?_
      refine sq ?_
      refine bk ?_
      refine sg ?_
      refine mv ?_
      refine as_ ?_
      refine rNil ?_
      refine rg ?_
      refine mv ?_
      refine mv ?_
      first | refine xf ?_ | refine xb ?_ | refine xoa ?_
      first | refine ff ?_ | refine fb ?_ | refine fo ?_
      first | refine l1f ?_ | refine l1b ?_ | refine l1o ?_
      first | refine ap ?_ | refine (apN _) ?_
      first | refine xf ?_ | refine xb ?_ | refine xoa ?_
      first | refine ff ?_ | refine fb ?_ | refine fo ?_
      first | refine s1 ?_ | refine s1w ?_
      refine rNil ?_
      refine bn_ ?_
      refine tn ?_
      refine rg ?_
      refine bo (hz := by first | exact bop_add (by omega) (by omega) | exact rfl) ?_
      refine mv ?_
      refine rNil ?_
      refine tn ?_
      refine lr ?_
      refine sg ?_
      refine bo (hz := by exact rfl) ?_
      refine rNil ?_
      refine sq ?_
      refine cn (fun h3 => ?_) (fun h3 => ?_)
      ·
        refine awp_skip ?_
        refine tn ?_
        refine sq ?_
        refine bk ?_
        refine sg ?_
        refine mv ?_
        refine as_ ?_
        refine rNil ?_
        refine rg ?_
        refine mv ?_
        refine mv ?_
        first | refine xf ?_ | refine xb ?_ | refine xoa ?_
        first | refine ff ?_ | refine fb ?_ | refine fo ?_
        first | refine l1f ?_ | refine l1b ?_ | refine l1o ?_
        first | refine ap ?_ | refine (apN _) ?_
        first | refine xf ?_ | refine xb ?_ | refine xoa ?_
        first | refine ff ?_ | refine fb ?_ | refine fo ?_
        first | refine s1 ?_ | refine s1w ?_
        refine rNil ?_
        refine bn_ ?_
        refine tn ?_
        refine rg ?_
        refine bo (hz := by first | exact bop_add (by omega) (by omega) | exact rfl) ?_
        refine mv ?_
        refine rNil ?_
        refine tn ?_
        refine lr ?_
        refine sg ?_
        refine bo (hz := by exact rfl) ?_
        refine rNil ?_
        refine sq ?_
        refine cn (fun h4 => ?_) (fun h4 => ?_)
        ·
          refine awp_skip ?_
          refine tn ?_
          refine sq ?_
          refine bk ?_
          refine sg ?_
          refine mv ?_
          refine as_ ?_
          refine rNil ?_
          refine rg ?_
          refine mv ?_
          refine mv ?_
          first | refine xf ?_ | refine xb ?_ | refine xoa ?_
          first | refine ff ?_ | refine fb ?_ | refine fo ?_
          first | refine l1f ?_ | refine l1b ?_ | refine l1o ?_
          first | refine ap ?_ | refine (apN _) ?_
          first | refine xf ?_ | refine xb ?_ | refine xoa ?_
          first | refine ff ?_ | refine fb ?_ | refine fo ?_
          first | refine s1 ?_ | refine s1w ?_
          refine rNil ?_
          refine bn_ ?_
          refine tn ?_
          refine rg ?_
          refine bo (hz := by first | exact bop_add (by omega) (by omega) | exact rfl) ?_
          refine mv ?_
          refine rNil ?_
          refine tn ?_
          refine lr ?_
          refine sg ?_
          refine bo (hz := by exact rfl) ?_
          refine rNil ?_
          refine sq ?_
          refine cn (fun h5 => ?_) (fun h5 => ?_)
          ·
            exact absurd h5 (by decide)
          ·
            refine awp_exit ?_
            refine te ?_
            refine te ?_
            refine xbk ?_
            refine tn ?_
            refine fz 2 ?_
            refine fz 3 ?_
            refine fz 4 ?_
            refine sg ?_
            refine lAbF 0 [2, 3, 4] ?_
            refine sA ?_
            refine rNil ?_
            refine awp_ret ?_
            exact ⟨.inr rfl, _, (.cons (resC (by ((repeat apply Look.there rfl); exact Look.here)) (by exact rfl) (by exact rfl) (by ((repeat (apply All2.cons; first | exact .f (.v _) | exact .row rfl (by first | exact rfl | simp) | exact .f .nil | exact .f (.fro rfl (by first | exact rfl | simp)))); exact All2.nil))) .nil), by rw [oriF, if_pos (by simpa using h1)]; rfl⟩ -- LEAF 1: ret
        ·
          exact absurd h4 (by decide)
      ·
        exact absurd h3 (by decide)
    ·
      exact absurd h2 (by decide)
  ·
    refine awp_skip ?_
    refine tn ?_
    refine sq ?_
    refine sg ?_
    refine mv ?_
    refine rNil ?_
    refine bk ?_
    refine lu ?_
    refine lr ?_
    refine sg ?_
    refine bo (hz := by exact rfl) ?_
    refine rNil ?_
    refine sq ?_
    refine cn (fun h6 => ?_) (fun h6 => ?_)
    ·
      refine awp_skip ?_
      refine tn ?_
      refine sq ?_
      refine bk ?_
      refine sg ?_
      refine mv ?_
      refine as_ ?_
      refine rNil ?_
      refine rg ?_
      refine mv ?_
      refine mv ?_
      first | refine xf ?_ | refine xb ?_ | refine xoa ?_
      first | refine ff ?_ | refine fb ?_ | refine fo ?_
      first | refine l1f ?_ | refine l1b ?_ | refine l1o ?_
      first | refine ap ?_ | refine (apN _) ?_
      first | refine xf ?_ | refine xb ?_ | refine xoa ?_
      first | refine ff ?_ | refine fb ?_ | refine fo ?_
      first | refine s1 ?_ | refine s1w ?_
      refine rNil ?_
      refine bn_ ?_
      refine tn ?_
      refine rg ?_
      refine bo (hz := by first | exact bop_add (by omega) (by omega) | exact rfl) ?_
      refine mv ?_
      refine rNil ?_
      refine tn ?_
      refine lr ?_
      refine sg ?_
      refine bo (hz := by exact rfl) ?_
      refine rNil ?_
      refine sq ?_
      refine cn (fun h7 => ?_) (fun h7 => ?_)
      ·
        refine awp_skip ?_
        refine tn ?_
        refine sq ?_
        refine bk ?_
        refine sg ?_
        refine mv ?_
        refine as_ ?_
        refine rNil ?_
        refine rg ?_
        refine mv ?_
        refine mv ?_
        first | refine xf ?_ | refine xb ?_ | refine xoa ?_
        first | refine ff ?_ | refine fb ?_ | refine fo ?_
        first | refine l1f ?_ | refine l1b ?_ | refine l1o ?_
        first | refine ap ?_ | refine (apN _) ?_
        first | refine xf ?_ | refine xb ?_ | refine xoa ?_
        first | refine ff ?_ | refine fb ?_ | refine fo ?_
        first | refine s1 ?_ | refine s1w ?_
        refine rNil ?_
        refine bn_ ?_
        refine tn ?_
        refine rg ?_
        refine bo (hz := by first | exact bop_add (by omega) (by omega) | exact rfl) ?_
        refine mv ?_
        refine rNil ?_
        refine tn ?_
        refine lr ?_
        refine sg ?_
        refine bo (hz := by exact rfl) ?_
        refine rNil ?_
        refine sq ?_
        refine cn (fun h8 => ?_) (fun h8 => ?_)
        ·
          refine awp_skip ?_
          refine tn ?_
          refine sq ?_
          refine bk ?_
          refine sg ?_
          refine mv ?_
          refine as_ ?_
          refine rNil ?_
          refine rg ?_
          refine mv ?_
          refine mv ?_
          first | refine xf ?_ | refine xb ?_ | refine xoa ?_
          first | refine ff ?_ | refine fb ?_ | refine fo ?_
          first | refine l1f ?_ | refine l1b ?_ | refine l1o ?_
          first | refine ap ?_ | refine (apN _) ?_
          first | refine xf ?_ | refine xb ?_ | refine xoa ?_
          first | refine ff ?_ | refine fb ?_ | refine fo ?_
          first | refine s1 ?_ | refine s1w ?_
          refine rNil ?_
          refine bn_ ?_
          refine tn ?_
          refine rg ?_
          refine bo (hz := by first | exact bop_add (by omega) (by omega) | exact rfl) ?_
          refine mv ?_
          refine rNil ?_
          refine tn ?_
          refine lr ?_
          refine sg ?_
          refine bo (hz := by exact rfl) ?_
          refine rNil ?_
          refine sq ?_
          refine cn (fun h9 => ?_) (fun h9 => ?_)
          ·
            exact absurd h9 (by decide)
          ·
            refine awp_exit ?_
            refine te ?_
            refine te ?_
            refine xbk ?_
            refine tn ?_
            refine fz 2 ?_
            refine fz 3 ?_
            refine fz 4 ?_
            refine sg ?_
            refine lAbF 0 [2, 3, 4] ?_
            refine sA ?_
            refine rNil ?_
            refine awp_ret ?_
            exact ⟨.inr rfl, _, (.cons (resC (by ((repeat apply Look.there rfl); exact Look.here)) (by exact rfl) (by exact rfl) (by ((repeat (apply All2.cons; first | exact .f (.v _) | exact .row rfl (by first | exact rfl | simp) | exact .f .nil | exact .f (.fro rfl (by first | exact rfl | simp)))); exact All2.nil))) .nil), by rw [oriF, if_neg (by simpa using h1)]; rfl⟩ -- LEAF 2: ret
        ·
          exact absurd h8 (by decide)
      ·
        exact absurd h7 (by decide)
    ·
      exact absurd h6 (by decide)

/-- frustum/frustumref33.copied -/
theorem c80 (v : V) (hf : Few v) : Fn Try.prog 80 [A v] (.one (A v)) := by
  refine fnI Try.func80 Try.ntmps80 fun hb => ?_
  unfold Few at hf
  refine sg ?_
  refine bx _ ?_
  refine al _ ?_
  refine rNil ?_
  refine sg ?_
  refine (bsO _) ?_
  first | refine ff ?_ | refine fb ?_ | refine fo ?_
  first | refine l1f ?_ | refine l1b ?_ | refine l1o ?_
  first | refine ap ?_ | refine (apN _) ?_
  first | refine ff ?_ | refine fb ?_ | refine fo ?_
  first | refine s1 ?_ | refine s1w ?_
  refine rNil ?_
  refine fz 2 ?_
  refine sg ?_
  refine lAbF 0 [2] ?_
  refine sA ?_
  refine rNil ?_
  refine awp_ret ?_
  exact ⟨.inr rfl, _, (.cons (resC (by ((repeat apply Look.there rfl); exact Look.here)) (by exact rfl) (by exact rfl) (by ((repeat (apply All2.cons; first | exact .f (.v _) | exact .row rfl (by first | exact rfl | simp) | exact .f .nil | exact .f (.fro rfl (by first | exact rfl | simp)))); exact All2.nil))) .nil), rfl⟩ -- LEAF 1: ret

/-- frustum/frustumref33.Orient -/
theorem c52 (t : T3 V) (hf : FewT t) : Fn Try.prog 52 [A t] (.one (A (oriF t))) := by
  refine fnI Try.func52 Try.ntmps52 fun hb => ?_
  refine sg ?_
  refine bx _ ?_
  refine al _ ?_
  refine rNil ?_
  refine sq ?_
  refine sg ?_
  first | refine lAf ?_ | refine lAb ?_ | refine lAo ?_
  refine cl (c50 t) ?_
  refine bo (hz := by exact rfl) ?_
  refine rNil ?_
  refine cn (fun h1 => ?_) (fun h1 => ?_)
  ·
    refine sd mixO ?_
    first | refine xf ?_ | refine xb ?_ | refine xoa ?_
    first | refine lAf ?_ | refine lAb ?_ | refine lAo ?_
    refine cl (c80 t.a hf.1) ?_
    first | refine xf ?_ | refine xb ?_ | refine xoa ?_
    first | refine lAf ?_ | refine lAb ?_ | refine lAo ?_
    refine cl (c80 t.c hf.2.2) ?_
    first | refine xf ?_ | refine xb ?_ | refine xoa ?_
    first | refine lAf ?_ | refine lAb ?_ | refine lAo ?_
    refine cl (c80 t.b hf.2.1) ?_
    refine buA ?_
    refine sA ?_
    refine rNil ⟨rfl, ?_⟩
    refine awp_ret ?_
    refine tr ?_
    exact ⟨.inr rfl, _, (.cons (resC (by ((repeat apply Look.there rfl); exact Look.here)) (by exact rfl) (by exact rfl) (by ((repeat (apply All2.cons; first | exact .f (.v _) | exact .row rfl (by first | exact rfl | simp) | exact .f .nil | exact .f (.fro rfl (by first | exact rfl | simp)))); exact All2.nil))) .nil), by rw [oriF, if_pos (by simpa using h1)]; rfl⟩ -- LEAF 1: ret
  ·
    refine awp_skip ?_
    refine tn ?_
    refine sd mixO ?_
    first | refine xf ?_ | refine xb ?_ | refine xoa ?_
    first | refine lAf ?_ | refine lAb ?_ | refine lAo ?_
    refine cl (c80 t.a hf.1) ?_
    first | refine xf ?_ | refine xb ?_ | refine xoa ?_
    first | refine lAf ?_ | refine lAb ?_ | refine lAo ?_
    refine cl (c80 t.b hf.2.1) ?_
    first | refine xf ?_ | refine xb ?_ | refine xoa ?_
    first | refine lAf ?_ | refine lAb ?_ | refine lAo ?_
    refine cl (c80 t.c hf.2.2) ?_
    refine buA ?_
    refine sA ?_
    refine rNil ⟨rfl, ?_⟩
    refine awp_ret ?_
    exact ⟨.inr rfl, _, (.cons (resC (by ((repeat apply Look.there rfl); exact Look.here)) (by exact rfl) (by exact rfl) (by ((repeat (apply All2.cons; first | exact .f (.v _) | exact .row rfl (by first | exact rfl | simp) | exact .f .nil | exact .f (.fro rfl (by first | exact rfl | simp)))); exact All2.nil))) .nil), by rw [oriF, if_neg (by simpa using h1)]; rfl⟩ -- LEAF 2: ret

structure Tri where
  v : T3 V
  prim : Int
  front : Bool
instance : Enc Tri := ⟨fun t => Enc.c t.v ++ [.i .i64 t.prim, .b t.front]⟩
def zT : Tri := ⟨⟨dflt, dflt, dflt⟩, 0, false⟩
def setF (t : T3 V) (m : Int) (cw : Bool) (p : Int) : Tri := if keepF (area t) m cw = true then ⟨oriF t, p, frontF (area t) cw⟩ else zT
/-- frustum/cull.Setup -/
theorem c19 (t : T3 V) (m : Int) (cw : Bool) (p : Int) (hf : FewT t) : Fn Try.prog 19 [A t, I m, B cw, I p] (.many [A (setF t m cw p), B (keepF (area t) m cw)]) := by
  refine fnI Try.func19 Try.ntmps19 fun hb => ?_
  refine sg ?_
  refine bx _ ?_
  refine al _ ?_
  refine as_ ?_
  refine rNil ?_
  refine sg ?_
  first | refine lAf ?_ | refine lAb ?_ | refine lAo ?_
  refine cl (c39 t) ?_
  refine as_ ?_
  refine rNil ?_
  refine sq ?_
  refine sg ?_
  refine mv ?_
  refine mv ?_
  refine mv ?_
  refine cl (c40 _ _ _) ?_
  refine nt ?_
  refine rNil ?_
  refine cn (fun h1 => ?_) (fun h1 => ?_)
  ·
    refine sg ?_
    refine buS ?_
    refine sA ?_
    refine as_ ?_
    refine rNil ?_
    refine awp_ret ?_
    refine tr ?_
    exact ⟨.inr rfl, _, (.cons (resC (by ((repeat apply Look.there rfl); exact Look.here)) (by exact rfl) (by exact rfl) (by ((repeat (apply All2.cons; first | exact .f (.v _) | exact .row rfl (by first | exact rfl | simp) | exact .f .nil | exact .f (.fro rfl (by first | exact rfl | simp)))); exact All2.nil))) (.cons (by first | exact .v (by ((repeat apply Look.there rfl); exact Look.here)) (.f (.v _)) | exact .v (by ((repeat apply Look.there rfl); exact Look.here)) (.row rfl rfl) | exact .v (by ((repeat apply Look.there rfl); exact Look.here)) (.f .nil) | exact .a (by ((repeat apply Look.there rfl); exact Look.here)) | skip) .nil)), by
      have h2 : keepF (area t) m cw = false := by simpa using h1
      rw [setF, h2]; rfl⟩ -- LEAF 1: ret
  ·
    refine awp_skip ?_
    refine tn ?_
    refine sg ?_
    first | refine lAf ?_ | refine lAb ?_ | refine lAo ?_
    refine cl (c41 t hf) ?_
    refine mv ?_
    refine mv ?_
    refine mv ?_
    refine cl (c42 _ _) ?_
    refine buS ?_
    refine sA ?_
    refine as_ ?_
    refine rNil ?_
    refine awp_ret ?_
    exact ⟨.inr rfl, _, (.cons (resC (by ((repeat apply Look.there rfl); exact Look.here)) (by exact rfl) (by exact rfl) (by ((repeat (apply All2.cons; first | exact .f (.v _) | exact .row rfl (by first | exact rfl | simp) | exact .f .nil | exact .f (.fro rfl (by first | exact rfl | simp)))); exact All2.nil))) (.cons (by first | exact .v (by ((repeat apply Look.there rfl); exact Look.here)) (.f (.v _)) | exact .v (by ((repeat apply Look.there rfl); exact Look.here)) (.row rfl rfl) | exact .v (by ((repeat apply Look.there rfl); exact Look.here)) (.f .nil) | exact .a (by ((repeat apply Look.there rfl); exact Look.here)) | skip) .nil)), by
      have h2 : keepF (area t) m cw = true := by simpa using h1
      rw [setF, h2]; rfl⟩ -- LEAF 2: ret

/-- frustum/frustumref33.Setup -/
theorem c22 (t : T3 V) (m : Int) (cw : Bool) (p : Int) (hf : FewT t) : Fn Try.prog 22 [A t, I m, B cw, I p] (.many [A (setF t m cw p), B (keepF (area t) m cw)]) := by
  refine fnI Try.func22 Try.ntmps22 fun hb => ?_
  refine sg ?_
  refine bx _ ?_
  refine al _ ?_
  refine as_ ?_
  refine rNil ?_
  refine sg ?_
  first | refine lAf ?_ | refine lAb ?_ | refine lAo ?_
  refine cl (c50 t) ?_
  refine as_ ?_
  refine rNil ?_
  refine sq ?_
  refine sg ?_
  refine mv ?_
  refine mv ?_
  refine mv ?_
  refine cl (c51 _ _ _) ?_
  refine nt ?_
  refine rNil ?_
  refine cn (fun h1 => ?_) (fun h1 => ?_)
  ·
    refine sg ?_
    refine buS ?_
    refine sA ?_
    refine as_ ?_
    refine rNil ?_
    refine awp_ret ?_
    refine tr ?_
    exact ⟨.inr rfl, _, (.cons (resC (by ((repeat apply Look.there rfl); exact Look.here)) (by exact rfl) (by exact rfl) (by ((repeat (apply All2.cons; first | exact .f (.v _) | exact .row rfl (by first | exact rfl | simp) | exact .f .nil | exact .f (.fro rfl (by first | exact rfl | simp)))); exact All2.nil))) (.cons (by first | exact .v (by ((repeat apply Look.there rfl); exact Look.here)) (.f (.v _)) | exact .v (by ((repeat apply Look.there rfl); exact Look.here)) (.row rfl rfl) | exact .v (by ((repeat apply Look.there rfl); exact Look.here)) (.f .nil) | exact .a (by ((repeat apply Look.there rfl); exact Look.here)) | skip) .nil)), by
      have h2 : keepF (area t) m cw = false := by simpa using h1
      rw [setF, h2]; rfl⟩ -- LEAF 1: ret
  ·
    refine awp_skip ?_
    refine tn ?_
    refine sg ?_
    first | refine lAf ?_ | refine lAb ?_ | refine lAo ?_
    refine cl (c52 t hf) ?_
    refine mv ?_
    refine mv ?_
    refine mv ?_
    refine cl (c53 _ _) ?_
    refine buS ?_
    refine sA ?_
    refine as_ ?_
    refine rNil ?_
    refine awp_ret ?_
    exact ⟨.inr rfl, _, (.cons (resC (by ((repeat apply Look.there rfl); exact Look.here)) (by exact rfl) (by exact rfl) (by ((repeat (apply All2.cons; first | exact .f (.v _) | exact .row rfl (by first | exact rfl | simp) | exact .f .nil | exact .f (.fro rfl (by first | exact rfl | simp)))); exact All2.nil))) (.cons (by first | exact .v (by ((repeat apply Look.there rfl); exact Look.here)) (.f (.v _)) | exact .v (by ((repeat apply Look.there rfl); exact Look.here)) (.row rfl rfl) | exact .v (by ((repeat apply Look.there rfl); exact Look.here)) (.f .nil) | exact .a (by ((repeat apply Look.there rfl); exact Look.here)) | skip) .nil)), by
      have h2 : keepF (area t) m cw = true := by simpa using h1
      rw [setF, h2]; rfl⟩ -- LEAF 2: ret

end Go.Proofs.Ytlmecogidnbpjaa.VS
