/- The walks of functions: what each computes, by itself. Conditions: none. -/
import Derived.Test.YtlaaigljlhkdpaaF3
set_option linter.unusedVariables false
set_option linter.unusedSimpArgs false
namespace Go.Proofs.Ytlaaigljlhkdpaa.VS
open Go
theorem on_of {v : V} (h : onS v = true) : onP v := by simpa [onS] using h
theorem on_x {v : V} (h : onP v) : 0 ≤ v.x ∧ v.x ≤ 16384 := by unfold onP at h; omega
theorem on_y {v : V} (h : onP v) : 0 ≤ v.y ∧ v.y ≤ 16384 := by unfold onP at h; omega
def inP (t : T3 V) : Prop := onP t.a ∧ onP t.b ∧ onP t.c
instance (t : T3 V) : Decidable (inP t) := inferInstanceAs (Decidable (_ ∧ _))
def inR (t : T3 V) : Bool := decide (inP t)
/-- frustum/cull.InRange -/
theorem c58 (t : T3 V) : Fn Try.prog 58 [A t] (.one (B (inR t))) := by
  refine fnI Try.func58 Try.ntmps58 fun hb => ?_
  refine sg ?_
  refine bx _ ?_
  refine as_ ?_
  refine rNil ?_
  refine sq ?_
  refine sg ?_
  first | refine lAf ?_ | refine lAb ?_ | refine lAo ?_
  refine mv ?_
  refine rNil ?_
  refine bk ?_
  refine lu ?_
  refine lr ?_
  refine sg ?_
  refine bo ?_
  refine rNil ?_
  refine sq ?_
  refine cn (fun h1 => ?_) (fun h1 => ?_)
  ·
    refine awp_skip ?_
    refine tn ?_
    refine sq ?_
    refine bk ?_
    refine sg ?_
    refine ixA ?_
    refine al _ ?_
    refine sA ?_
    refine rNil ?_
    refine sg ?_
    first | refine ff ?_ | refine fb ?_ | refine fo ?_
    first | refine l1f ?_ | refine l1b ?_ | refine l1o ?_
    refine bo ?_
    refine mv ?_
    refine gd (fun h2 => ?_) (fun h2 => ?_)
    ·
      refine no ?_
      refine no ?_
      refine no ?_
      refine pkT ?_
      refine mv ?_
      refine no ?_
      refine no ?_
      refine no ?_
      refine pkT ?_
      refine mv ?_
      refine no ?_
      refine no ?_
      refine no ?_
      refine pkT ?_
      refine rNil ?_
      refine cn (fun h3 => ?_) (fun h3 => ?_)
      ·
        refine sg ?_
        refine as_ ?_
        refine rNil ?_
        refine awp_ret ?_
        refine br ?_
        refine tr ?_
        refine tr ?_
        refine br ?_
        refine tr ?_
        exact ⟨.inr rfl, _, (.cons (by first | exact .v (by ((repeat apply Look.there rfl); exact Look.here)) (.f (.v _)) | exact .v (by ((repeat apply Look.there rfl); exact Look.here)) (.row rfl rfl) | exact .v (by ((repeat apply Look.there rfl); exact Look.here)) (.f .nil) | exact .a (by ((repeat apply Look.there rfl); exact Look.here)) | skip) .nil), oneB (by simp only [decide_eq_true_eq, decide_eq_false_iff_not] at *; unfold inR inP onP; first | exact (decide_eq_true (by omega)).symm | exact (decide_eq_false (by omega)).symm)⟩ -- LEAF 1: ret
      ·
        exact absurd h3 (by decide)
    ·
      first | refine ff ?_ | refine fb ?_ | refine fo ?_
      first | refine l1f ?_ | refine l1b ?_ | refine l1o ?_
      refine bo ?_
      refine pkF ?_
      refine mv ?_
      refine gd (fun h4 => ?_) (fun h4 => ?_)
      ·
        refine no ?_
        refine no ?_
        refine no ?_
        refine pkT ?_
        refine mv ?_
        refine no ?_
        refine no ?_
        refine no ?_
        refine pkT ?_
        refine rNil ?_
        refine cn (fun h5 => ?_) (fun h5 => ?_)
        ·
          refine sg ?_
          refine as_ ?_
          refine rNil ?_
          refine awp_ret ?_
          refine br ?_
          refine tr ?_
          refine tr ?_
          refine br ?_
          refine tr ?_
          exact ⟨.inr rfl, _, (.cons (by first | exact .v (by ((repeat apply Look.there rfl); exact Look.here)) (.f (.v _)) | exact .v (by ((repeat apply Look.there rfl); exact Look.here)) (.row rfl rfl) | exact .v (by ((repeat apply Look.there rfl); exact Look.here)) (.f .nil) | exact .a (by ((repeat apply Look.there rfl); exact Look.here)) | skip) .nil), oneB (by simp only [decide_eq_true_eq, decide_eq_false_iff_not] at *; unfold inR inP onP; first | exact (decide_eq_true (by omega)).symm | exact (decide_eq_false (by omega)).symm)⟩ -- LEAF 2: ret
        ·
          exact absurd h5 (by decide)
      ·
        first | refine ff ?_ | refine fb ?_ | refine fo ?_
        first | refine l1f ?_ | refine l1b ?_ | refine l1o ?_
        refine bo ?_
        refine pkF ?_
        refine mv ?_
        refine gd (fun h6 => ?_) (fun h6 => ?_)
        ·
          refine no ?_
          refine no ?_
          refine no ?_
          refine pkT ?_
          refine rNil ?_
          refine cn (fun h7 => ?_) (fun h7 => ?_)
          ·
            refine sg ?_
            refine as_ ?_
            refine rNil ?_
            refine awp_ret ?_
            refine br ?_
            refine tr ?_
            refine tr ?_
            refine br ?_
            refine tr ?_
            exact ⟨.inr rfl, _, (.cons (by first | exact .v (by ((repeat apply Look.there rfl); exact Look.here)) (.f (.v _)) | exact .v (by ((repeat apply Look.there rfl); exact Look.here)) (.row rfl rfl) | exact .v (by ((repeat apply Look.there rfl); exact Look.here)) (.f .nil) | exact .a (by ((repeat apply Look.there rfl); exact Look.here)) | skip) .nil), oneB (by simp only [decide_eq_true_eq, decide_eq_false_iff_not] at *; unfold inR inP onP; first | exact (decide_eq_true (by omega)).symm | exact (decide_eq_false (by omega)).symm)⟩ -- LEAF 3: ret
          ·
            exact absurd h7 (by decide)
        ·
          first | refine ff ?_ | refine fb ?_ | refine fo ?_
          first | refine l1f ?_ | refine l1b ?_ | refine l1o ?_
          refine bo ?_
          refine pkF ?_
          refine rNil ?_
          refine cn (fun h8 => ?_) (fun h8 => ?_)
          ·
            refine sg ?_
            refine as_ ?_
            refine rNil ?_
            refine awp_ret ?_
            refine br ?_
            refine tr ?_
            refine tr ?_
            refine br ?_
            refine tr ?_
            exact ⟨.inr rfl, _, (.cons (by first | exact .v (by ((repeat apply Look.there rfl); exact Look.here)) (.f (.v _)) | exact .v (by ((repeat apply Look.there rfl); exact Look.here)) (.row rfl rfl) | exact .v (by ((repeat apply Look.there rfl); exact Look.here)) (.f .nil) | exact .a (by ((repeat apply Look.there rfl); exact Look.here)) | skip) .nil), oneB (by simp only [decide_eq_true_eq, decide_eq_false_iff_not] at *; unfold inR inP onP; first | exact (decide_eq_true (by omega)).symm | exact (decide_eq_false (by omega)).symm)⟩ -- LEAF 4: ret
          ·
            refine awp_skip ?_
            refine bn_ ?_
            refine tn ?_
            refine rg ?_
            refine bo ?_
            refine mv ?_
            refine rNil ?_
            refine tn ?_
            refine lr ?_
            refine sg ?_
            refine bo ?_
            refine rNil ?_
            refine sq ?_
            refine cn (fun h9 => ?_) (fun h9 => ?_)
            ·
              refine awp_skip ?_
              refine tn ?_
              refine sq ?_
              refine bk ?_
              refine sg ?_
              refine ixA ?_
              refine al _ ?_
              refine sA ?_
              refine rNil ?_
              refine sg ?_
              first | refine ff ?_ | refine fb ?_ | refine fo ?_
              first | refine l1f ?_ | refine l1b ?_ | refine l1o ?_
              refine bo ?_
              refine mv ?_
              refine gd (fun h10 => ?_) (fun h10 => ?_)
              ·
                refine no ?_
                refine no ?_
                refine no ?_
                refine pkT ?_
                refine mv ?_
                refine no ?_
                refine no ?_
                refine no ?_
                refine pkT ?_
                refine mv ?_
                refine no ?_
                refine no ?_
                refine no ?_
                refine pkT ?_
                refine rNil ?_
                refine cn (fun h11 => ?_) (fun h11 => ?_)
                ·
                  refine sg ?_
                  refine as_ ?_
                  refine rNil ?_
                  refine awp_ret ?_
                  refine br ?_
                  refine tr ?_
                  refine tr ?_
                  refine br ?_
                  refine tr ?_
                  exact ⟨.inr rfl, _, (.cons (by first | exact .v (by ((repeat apply Look.there rfl); exact Look.here)) (.f (.v _)) | exact .v (by ((repeat apply Look.there rfl); exact Look.here)) (.row rfl rfl) | exact .v (by ((repeat apply Look.there rfl); exact Look.here)) (.f .nil) | exact .a (by ((repeat apply Look.there rfl); exact Look.here)) | skip) .nil), oneB (by simp only [decide_eq_true_eq, decide_eq_false_iff_not] at *; unfold inR inP onP; first | exact (decide_eq_true (by omega)).symm | exact (decide_eq_false (by omega)).symm)⟩ -- LEAF 5: ret
                ·
                  exact absurd h11 (by decide)
              ·
                first | refine ff ?_ | refine fb ?_ | refine fo ?_
                first | refine l1f ?_ | refine l1b ?_ | refine l1o ?_
                refine bo ?_
                refine pkF ?_
                refine mv ?_
                refine gd (fun h12 => ?_) (fun h12 => ?_)
                ·
                  refine no ?_
                  refine no ?_
                  refine no ?_
                  refine pkT ?_
                  refine mv ?_
                  refine no ?_
                  refine no ?_
                  refine no ?_
                  refine pkT ?_
                  refine rNil ?_
                  refine cn (fun h13 => ?_) (fun h13 => ?_)
                  ·
                    refine sg ?_
                    refine as_ ?_
                    refine rNil ?_
                    refine awp_ret ?_
                    refine br ?_
                    refine tr ?_
                    refine tr ?_
                    refine br ?_
                    refine tr ?_
                    exact ⟨.inr rfl, _, (.cons (by first | exact .v (by ((repeat apply Look.there rfl); exact Look.here)) (.f (.v _)) | exact .v (by ((repeat apply Look.there rfl); exact Look.here)) (.row rfl rfl) | exact .v (by ((repeat apply Look.there rfl); exact Look.here)) (.f .nil) | exact .a (by ((repeat apply Look.there rfl); exact Look.here)) | skip) .nil), oneB (by simp only [decide_eq_true_eq, decide_eq_false_iff_not] at *; unfold inR inP onP; first | exact (decide_eq_true (by omega)).symm | exact (decide_eq_false (by omega)).symm)⟩ -- LEAF 6: ret
                  ·
                    exact absurd h13 (by decide)
                ·
                  first | refine ff ?_ | refine fb ?_ | refine fo ?_
                  first | refine l1f ?_ | refine l1b ?_ | refine l1o ?_
                  refine bo ?_
                  refine pkF ?_
                  refine mv ?_
                  refine gd (fun h14 => ?_) (fun h14 => ?_)
                  ·
                    refine no ?_
                    refine no ?_
                    refine no ?_
                    refine pkT ?_
                    refine rNil ?_
                    refine cn (fun h15 => ?_) (fun h15 => ?_)
                    ·
                      refine sg ?_
                      refine as_ ?_
                      refine rNil ?_
                      refine awp_ret ?_
                      refine br ?_
                      refine tr ?_
                      refine tr ?_
                      refine br ?_
                      refine tr ?_
                      exact ⟨.inr rfl, _, (.cons (by first | exact .v (by ((repeat apply Look.there rfl); exact Look.here)) (.f (.v _)) | exact .v (by ((repeat apply Look.there rfl); exact Look.here)) (.row rfl rfl) | exact .v (by ((repeat apply Look.there rfl); exact Look.here)) (.f .nil) | exact .a (by ((repeat apply Look.there rfl); exact Look.here)) | skip) .nil), oneB (by simp only [decide_eq_true_eq, decide_eq_false_iff_not] at *; unfold inR inP onP; first | exact (decide_eq_true (by omega)).symm | exact (decide_eq_false (by omega)).symm)⟩ -- LEAF 7: ret
                    ·
                      exact absurd h15 (by decide)
                  ·
                    first | refine ff ?_ | refine fb ?_ | refine fo ?_
                    first | refine l1f ?_ | refine l1b ?_ | refine l1o ?_
                    refine bo ?_
                    refine pkF ?_
                    refine rNil ?_
                    refine cn (fun h16 => ?_) (fun h16 => ?_)
                    ·
                      refine sg ?_
                      refine as_ ?_
                      refine rNil ?_
                      refine awp_ret ?_
                      refine br ?_
                      refine tr ?_
                      refine tr ?_
                      refine br ?_
                      refine tr ?_
                      exact ⟨.inr rfl, _, (.cons (by first | exact .v (by ((repeat apply Look.there rfl); exact Look.here)) (.f (.v _)) | exact .v (by ((repeat apply Look.there rfl); exact Look.here)) (.row rfl rfl) | exact .v (by ((repeat apply Look.there rfl); exact Look.here)) (.f .nil) | exact .a (by ((repeat apply Look.there rfl); exact Look.here)) | skip) .nil), oneB (by simp only [decide_eq_true_eq, decide_eq_false_iff_not] at *; unfold inR inP onP; first | exact (decide_eq_true (by omega)).symm | exact (decide_eq_false (by omega)).symm)⟩ -- LEAF 8: ret
                    ·
                      refine awp_skip ?_
                      refine bn_ ?_
                      refine tn ?_
                      refine rg ?_
                      refine bo ?_
                      refine mv ?_
                      refine rNil ?_
                      refine tn ?_
                      refine lr ?_
                      refine sg ?_
                      refine bo ?_
                      refine rNil ?_
                      refine sq ?_
                      refine cn (fun h17 => ?_) (fun h17 => ?_)
                      ·
                        refine awp_skip ?_
                        refine tn ?_
                        refine sq ?_
                        refine bk ?_
                        refine sg ?_
                        refine ixA ?_
                        refine al _ ?_
                        refine sA ?_
                        refine rNil ?_
                        refine sg ?_
                        first | refine ff ?_ | refine fb ?_ | refine fo ?_
                        first | refine l1f ?_ | refine l1b ?_ | refine l1o ?_
                        refine bo ?_
                        refine mv ?_
                        refine gd (fun h18 => ?_) (fun h18 => ?_)
                        ·
                          refine no ?_
                          refine no ?_
                          refine no ?_
                          refine pkT ?_
                          refine mv ?_
                          refine no ?_
                          refine no ?_
                          refine no ?_
                          refine pkT ?_
                          refine mv ?_
                          refine no ?_
                          refine no ?_
                          refine no ?_
                          refine pkT ?_
                          refine rNil ?_
                          refine cn (fun h19 => ?_) (fun h19 => ?_)
                          ·
                            refine sg ?_
                            refine as_ ?_
                            refine rNil ?_
                            refine awp_ret ?_
                            refine br ?_
                            refine tr ?_
                            refine tr ?_
                            refine br ?_
                            refine tr ?_
                            exact ⟨.inr rfl, _, (.cons (by first | exact .v (by ((repeat apply Look.there rfl); exact Look.here)) (.f (.v _)) | exact .v (by ((repeat apply Look.there rfl); exact Look.here)) (.row rfl rfl) | exact .v (by ((repeat apply Look.there rfl); exact Look.here)) (.f .nil) | exact .a (by ((repeat apply Look.there rfl); exact Look.here)) | skip) .nil), oneB (by simp only [decide_eq_true_eq, decide_eq_false_iff_not] at *; unfold inR inP onP; first | exact (decide_eq_true (by omega)).symm | exact (decide_eq_false (by omega)).symm)⟩ -- LEAF 9: ret
                          ·
                            exact absurd h19 (by decide)
                        ·
                          first | refine ff ?_ | refine fb ?_ | refine fo ?_
                          first | refine l1f ?_ | refine l1b ?_ | refine l1o ?_
                          refine bo ?_
                          refine pkF ?_
                          refine mv ?_
                          refine gd (fun h20 => ?_) (fun h20 => ?_)
                          ·
                            refine no ?_
                            refine no ?_
                            refine no ?_
                            refine pkT ?_
                            refine mv ?_
                            refine no ?_
                            refine no ?_
                            refine no ?_
                            refine pkT ?_
                            refine rNil ?_
                            refine cn (fun h21 => ?_) (fun h21 => ?_)
                            ·
                              refine sg ?_
                              refine as_ ?_
                              refine rNil ?_
                              refine awp_ret ?_
                              refine br ?_
                              refine tr ?_
                              refine tr ?_
                              refine br ?_
                              refine tr ?_
                              exact ⟨.inr rfl, _, (.cons (by first | exact .v (by ((repeat apply Look.there rfl); exact Look.here)) (.f (.v _)) | exact .v (by ((repeat apply Look.there rfl); exact Look.here)) (.row rfl rfl) | exact .v (by ((repeat apply Look.there rfl); exact Look.here)) (.f .nil) | exact .a (by ((repeat apply Look.there rfl); exact Look.here)) | skip) .nil), oneB (by simp only [decide_eq_true_eq, decide_eq_false_iff_not] at *; unfold inR inP onP; first | exact (decide_eq_true (by omega)).symm | exact (decide_eq_false (by omega)).symm)⟩ -- LEAF 10: ret
                            ·
                              exact absurd h21 (by decide)
                          ·
                            first | refine ff ?_ | refine fb ?_ | refine fo ?_
                            first | refine l1f ?_ | refine l1b ?_ | refine l1o ?_
                            refine bo ?_
                            refine pkF ?_
                            refine mv ?_
                            refine gd (fun h22 => ?_) (fun h22 => ?_)
                            ·
                              refine no ?_
                              refine no ?_
                              refine no ?_
                              refine pkT ?_
                              refine rNil ?_
                              refine cn (fun h23 => ?_) (fun h23 => ?_)
                              ·
                                refine sg ?_
                                refine as_ ?_
                                refine rNil ?_
                                refine awp_ret ?_
                                refine br ?_
                                refine tr ?_
                                refine tr ?_
                                refine br ?_
                                refine tr ?_
                                exact ⟨.inr rfl, _, (.cons (by first | exact .v (by ((repeat apply Look.there rfl); exact Look.here)) (.f (.v _)) | exact .v (by ((repeat apply Look.there rfl); exact Look.here)) (.row rfl rfl) | exact .v (by ((repeat apply Look.there rfl); exact Look.here)) (.f .nil) | exact .a (by ((repeat apply Look.there rfl); exact Look.here)) | skip) .nil), oneB (by simp only [decide_eq_true_eq, decide_eq_false_iff_not] at *; unfold inR inP onP; first | exact (decide_eq_true (by omega)).symm | exact (decide_eq_false (by omega)).symm)⟩ -- LEAF 11: ret
                              ·
                                exact absurd h23 (by decide)
                            ·
                              first | refine ff ?_ | refine fb ?_ | refine fo ?_
                              first | refine l1f ?_ | refine l1b ?_ | refine l1o ?_
                              refine bo ?_
                              refine pkF ?_
                              refine rNil ?_
                              refine cn (fun h24 => ?_) (fun h24 => ?_)
                              ·
                                refine sg ?_
                                refine as_ ?_
                                refine rNil ?_
                                refine awp_ret ?_
                                refine br ?_
                                refine tr ?_
                                refine tr ?_
                                refine br ?_
                                refine tr ?_
                                exact ⟨.inr rfl, _, (.cons (by first | exact .v (by ((repeat apply Look.there rfl); exact Look.here)) (.f (.v _)) | exact .v (by ((repeat apply Look.there rfl); exact Look.here)) (.row rfl rfl) | exact .v (by ((repeat apply Look.there rfl); exact Look.here)) (.f .nil) | exact .a (by ((repeat apply Look.there rfl); exact Look.here)) | skip) .nil), oneB (by simp only [decide_eq_true_eq, decide_eq_false_iff_not] at *; unfold inR inP onP; first | exact (decide_eq_true (by omega)).symm | exact (decide_eq_false (by omega)).symm)⟩ -- LEAF 12: ret
                              ·
                                refine awp_skip ?_
                                refine bn_ ?_
                                refine tn ?_
                                refine rg ?_
                                refine bo ?_
                                refine mv ?_
                                refine rNil ?_
                                refine tn ?_
                                refine lr ?_
                                refine sg ?_
                                refine bo ?_
                                refine rNil ?_
                                refine sq ?_
                                refine cn (fun h25 => ?_) (fun h25 => ?_)
                                ·
                                  exact absurd h25 (by decide)
                                ·
                                  refine awp_exit ?_
                                  refine te ?_
                                  refine te ?_
                                  refine xbk ?_
                                  refine tn ?_
                                  refine sg ?_
                                  refine as_ ?_
                                  refine rNil ?_
                                  refine awp_ret ?_
                                  exact ⟨.inr rfl, _, (.cons (by first | exact .v (by ((repeat apply Look.there rfl); exact Look.here)) (.f (.v _)) | exact .v (by ((repeat apply Look.there rfl); exact Look.here)) (.row rfl rfl) | exact .v (by ((repeat apply Look.there rfl); exact Look.here)) (.f .nil) | exact .a (by ((repeat apply Look.there rfl); exact Look.here)) | skip) .nil), oneB (by simp only [decide_eq_true_eq, decide_eq_false_iff_not] at *; unfold inR inP onP; first | exact (decide_eq_true (by omega)).symm | exact (decide_eq_false (by omega)).symm)⟩ -- LEAF 13: ret
                      ·
                        exact absurd h17 (by decide)
            ·
              exact absurd h9 (by decide)
  ·
    exact absurd h1 (by decide)

def area (t : T3 V) : Int := if inP t then crs t.a.x t.a.y t.b.x t.b.y t.c.x t.c.y else 0
/-- frustum/cull.Area -/
theorem c59 (t : T3 V) : Fn Try.prog 59 [A t] (.one (I (area t))) := by
  refine fnI Try.func59 Try.ntmps59 fun hb => ?_
  refine sg ?_
  refine bx _ ?_
  refine as_ ?_
  refine rNil ?_
  refine sq ?_
  refine sg ?_
  first | refine lAf ?_ | refine lAb ?_ | refine lAo ?_
  refine cl (c58 _) ?_
  refine nt ?_
  refine rNil ?_
  refine cn (fun h1 => ?_) (fun h1 => ?_)
  ·
    have g : ¬ inP t := by simpa [inR] using h1
    refine sg ?_
    refine as_ ?_
    refine rNil ?_
    refine awp_ret ?_
    refine tr ?_
    exact ⟨.inr rfl, _, (.cons (by first | exact .v (by ((repeat apply Look.there rfl); exact Look.here)) (.f (.v _)) | exact .v (by ((repeat apply Look.there rfl); exact Look.here)) (.row rfl rfl) | exact .v (by ((repeat apply Look.there rfl); exact Look.here)) (.f .nil) | exact .a (by ((repeat apply Look.there rfl); exact Look.here)) | skip) .nil), by rw [area, if_neg g]; rfl⟩ -- LEAF 1: ret
  ·
    have g : inP t := by simpa [inR] using h1
    have g' := g
    unfold inP onP at g
    have p1 := prod_bd (dif_bd (x := t.b.x) (y := t.a.x) (by omega) (by omega)) (dif_bd (x := t.c.y) (y := t.a.y) (by omega) (by omega))
    have p2 := prod_bd (dif_bd (x := t.b.y) (y := t.a.y) (by omega) (by omega)) (dif_bd (x := t.c.x) (y := t.a.x) (by omega) (by omega))
    refine awp_skip ?_
    refine tn ?_
    refine sd mixO ?_
    first | refine xf ?_ | refine xb ?_ | refine xoa ?_
    first | refine lAf ?_ | refine lAb ?_ | refine lAo ?_
    first | refine xf ?_ | refine xb ?_ | refine xoa ?_
    first | refine lAf ?_ | refine lAb ?_ | refine lAo ?_
    first | refine xf ?_ | refine xb ?_ | refine xoa ?_
    first | refine lAf ?_ | refine lAb ?_ | refine lAo ?_
    refine al _ ?_
    refine al _ ?_
    refine al _ ?_
    refine sA ?_
    refine sA ?_
    refine sA ?_
    refine rNil ⟨rfl, ?_⟩
    refine sg ?_
    first | refine ff ?_ | refine fb ?_ | refine fo ?_
    first | refine l1f ?_ | refine l1b ?_ | refine l1o ?_
    first | refine ff ?_ | refine fb ?_ | refine fo ?_
    first | refine l1f ?_ | refine l1b ?_ | refine l1o ?_
    refine bo ?_
    first | refine ff ?_ | refine fb ?_ | refine fo ?_
    first | refine l1f ?_ | refine l1b ?_ | refine l1o ?_
    first | refine ff ?_ | refine fb ?_ | refine fo ?_
    first | refine l1f ?_ | refine l1b ?_ | refine l1o ?_
    refine bo ?_
    refine bo ?_
    first | refine ff ?_ | refine fb ?_ | refine fo ?_
    first | refine l1f ?_ | refine l1b ?_ | refine l1o ?_
    first | refine ff ?_ | refine fb ?_ | refine fo ?_
    first | refine l1f ?_ | refine l1b ?_ | refine l1o ?_
    refine bo ?_
    first | refine ff ?_ | refine fb ?_ | refine fo ?_
    first | refine l1f ?_ | refine l1b ?_ | refine l1o ?_
    first | refine ff ?_ | refine fb ?_ | refine fo ?_
    first | refine l1f ?_ | refine l1b ?_ | refine l1o ?_
    refine bo ?_
    refine bo ?_
    refine bo ?_
    refine as_ ?_
    refine rNil ?_
    refine awp_ret ?_
    exact ⟨.inr rfl, _, (.cons (by first | exact .v (by ((repeat apply Look.there rfl); exact Look.here)) (.f (.v _)) | exact .v (by ((repeat apply Look.there rfl); exact Look.here)) (.row rfl rfl) | exact .v (by ((repeat apply Look.there rfl); exact Look.here)) (.f .nil) | exact .a (by ((repeat apply Look.there rfl); exact Look.here)) | skip) .nil), by rw [area, if_pos g']; rfl⟩ -- LEAF 2: ret

def valid (t : Tri) : Bool := inR t.v && decide (area t.v > 0)
theorem valid_in {t : Tri} (h : valid t = true) : inP t.v := by simp [valid, inR] at h; exact h.1
/-- frustum/edge.Valid -/
theorem c37 (t : Tri) : Fn Try.prog 37 [A t] (.one (B (valid t))) := by
  refine fnI Try.func37 Try.ntmps37 fun hb => ?_
  refine sg ?_
  refine bx _ ?_
  refine as_ ?_
  refine rNil ?_
  refine sg ?_
  first | refine ff ?_ | refine fb ?_ | refine fo ?_
  first | refine lAf ?_ | refine lAb ?_ | refine lAo ?_
  refine cl (c58 t.v) ?_
  refine mv ?_
  refine gd (fun h1 => ?_) (fun h1 => ?_)
  ·
    first | refine ff ?_ | refine fb ?_ | refine fo ?_
    first | refine lAf ?_ | refine lAb ?_ | refine lAo ?_
    refine cl (c59 t.v) ?_
    refine bo ?_
    refine pkT ?_
    refine as_ ?_
    refine rNil ?_
    refine awp_ret ?_
    exact ⟨.inr rfl, _, (.cons (by first | exact .v (by ((repeat apply Look.there rfl); exact Look.here)) (.f (.v _)) | exact .v (by ((repeat apply Look.there rfl); exact Look.here)) (.row rfl rfl) | exact .v (by ((repeat apply Look.there rfl); exact Look.here)) (.f .nil) | exact .a (by ((repeat apply Look.there rfl); exact Look.here)) | skip) .nil), oneB (by simp_all [valid])⟩ -- LEAF 1: ret
  ·
    refine no ?_
    refine no ?_
    refine no ?_
    refine no ?_
    refine pkF ?_
    refine as_ ?_
    refine rNil ?_
    refine awp_ret ?_
    exact ⟨.inr rfl, _, (.cons (by first | exact .v (by ((repeat apply Look.there rfl); exact Look.here)) (.f (.v _)) | exact .v (by ((repeat apply Look.there rfl); exact Look.here)) (.row rfl rfl) | exact .v (by ((repeat apply Look.there rfl); exact Look.here)) (.f .nil) | exact .a (by ((repeat apply Look.there rfl); exact Look.here)) | skip) .nil), oneB (by simp_all [valid])⟩ -- LEAF 2: ret

/-- frustum/frustumref35.Valid -/
theorem c43 (t : Tri) : Fn Try.prog 43 [A t] (.one (B (valid t))) := by
  refine fnI Try.func43 Try.ntmps43 fun hb => ?_
  refine sg ?_
  refine bx _ ?_
  refine as_ ?_
  refine rNil ?_
  refine sg ?_
  first | refine ff ?_ | refine fb ?_ | refine fo ?_
  first | refine xf ?_ | refine xb ?_ | refine xoa ?_
  first | refine lAf ?_ | refine lAb ?_ | refine lAo ?_
  refine cl (c66 t.v.a) ?_
  refine mv ?_
  refine gd (fun h1 => ?_) (fun h1 => ?_)
  ·
    first | refine ff ?_ | refine fb ?_ | refine fo ?_
    first | refine xf ?_ | refine xb ?_ | refine xoa ?_
    first | refine lAf ?_ | refine lAb ?_ | refine lAo ?_
    refine cl (c66 t.v.b) ?_
    refine pkT ?_
    refine mv ?_
    refine gd (fun h2 => ?_) (fun h2 => ?_)
    ·
      first | refine ff ?_ | refine fb ?_ | refine fo ?_
      first | refine xf ?_ | refine xb ?_ | refine xoa ?_
      first | refine lAf ?_ | refine lAb ?_ | refine lAo ?_
      refine cl (c66 t.v.c) ?_
      refine pkT ?_
      refine mv ?_
      refine gd (fun h3 => ?_) (fun h3 => ?_)
      ·
        first | refine ff ?_ | refine fb ?_ | refine fo ?_
        first | refine xf ?_ | refine xb ?_ | refine xoa ?_
        first | refine lAf ?_ | refine lAb ?_ | refine lAo ?_
        first | refine ff ?_ | refine fb ?_ | refine fo ?_
        first | refine xf ?_ | refine xb ?_ | refine xoa ?_
        first | refine lAf ?_ | refine lAb ?_ | refine lAo ?_
        first | refine ff ?_ | refine fb ?_ | refine fo ?_
        first | refine xf ?_ | refine xb ?_ | refine xoa ?_
        first | refine ff ?_ | refine fb ?_ | refine fo ?_
        first | refine l1f ?_ | refine l1b ?_ | refine l1o ?_
        first | refine ff ?_ | refine fb ?_ | refine fo ?_
        first | refine xf ?_ | refine xb ?_ | refine xoa ?_
        first | refine ff ?_ | refine fb ?_ | refine fo ?_
        first | refine l1f ?_ | refine l1b ?_ | refine l1o ?_
        refine cl (c67 t.v.a t.v.b t.v.c.x t.v.c.y (on_of h1) (on_of h2) (on_x (on_of h3)) (on_y (on_of h3))) ?_
        refine bo ?_
        refine pkT ?_
        refine as_ ?_
        refine rNil ?_
        refine awp_ret ?_
        exact ⟨.inr rfl, _, (.cons (by first | exact .v (by ((repeat apply Look.there rfl); exact Look.here)) (.f (.v _)) | exact .v (by ((repeat apply Look.there rfl); exact Look.here)) (.row rfl rfl) | exact .v (by ((repeat apply Look.there rfl); exact Look.here)) (.f .nil) | exact .a (by ((repeat apply Look.there rfl); exact Look.here)) | skip) .nil), oneB (by simp only [onS, decide_eq_true_eq, decide_eq_false_iff_not] at *; simp_all [valid, inR, inP, area])⟩ -- LEAF 1: ret
      ·
        refine no ?_
        refine no ?_
        refine no ?_
        refine no ?_
        refine no ?_
        refine no ?_
        refine no ?_
        refine no ?_
        refine no ?_
        refine no ?_
        refine no ?_
        refine no ?_
        refine no ?_
        refine no ?_
        refine no ?_
        refine no ?_
        refine pkF ?_
        refine as_ ?_
        refine rNil ?_
        refine awp_ret ?_
        exact ⟨.inr rfl, _, (.cons (by first | exact .v (by ((repeat apply Look.there rfl); exact Look.here)) (.f (.v _)) | exact .v (by ((repeat apply Look.there rfl); exact Look.here)) (.row rfl rfl) | exact .v (by ((repeat apply Look.there rfl); exact Look.here)) (.f .nil) | exact .a (by ((repeat apply Look.there rfl); exact Look.here)) | skip) .nil), oneB (by simp only [onS, decide_eq_true_eq, decide_eq_false_iff_not] at *; simp_all [valid, inR, inP, area])⟩ -- LEAF 2: ret
    ·
      refine no ?_
      refine no ?_
      refine no ?_
      refine no ?_
      refine pkF ?_
      refine mv ?_
      refine no ?_
      refine no ?_
      refine no ?_
      refine no ?_
      refine no ?_
      refine no ?_
      refine no ?_
      refine no ?_
      refine no ?_
      refine no ?_
      refine no ?_
      refine no ?_
      refine no ?_
      refine no ?_
      refine no ?_
      refine no ?_
      refine pkF ?_
      refine as_ ?_
      refine rNil ?_
      refine awp_ret ?_
      exact ⟨.inr rfl, _, (.cons (by first | exact .v (by ((repeat apply Look.there rfl); exact Look.here)) (.f (.v _)) | exact .v (by ((repeat apply Look.there rfl); exact Look.here)) (.row rfl rfl) | exact .v (by ((repeat apply Look.there rfl); exact Look.here)) (.f .nil) | exact .a (by ((repeat apply Look.there rfl); exact Look.here)) | skip) .nil), oneB (by simp only [onS, decide_eq_true_eq, decide_eq_false_iff_not] at *; simp_all [valid, inR, inP, area])⟩ -- LEAF 3: ret
  ·
    refine no ?_
    refine no ?_
    refine no ?_
    refine no ?_
    refine pkF ?_
    refine mv ?_
    refine no ?_
    refine no ?_
    refine no ?_
    refine no ?_
    refine pkF ?_
    refine mv ?_
    refine no ?_
    refine no ?_
    refine no ?_
    refine no ?_
    refine no ?_
    refine no ?_
    refine no ?_
    refine no ?_
    refine no ?_
    refine no ?_
    refine no ?_
    refine no ?_
    refine no ?_
    refine no ?_
    refine no ?_
    refine no ?_
    refine pkF ?_
    refine as_ ?_
    refine rNil ?_
    refine awp_ret ?_
    exact ⟨.inr rfl, _, (.cons (by first | exact .v (by ((repeat apply Look.there rfl); exact Look.here)) (.f (.v _)) | exact .v (by ((repeat apply Look.there rfl); exact Look.here)) (.row rfl rfl) | exact .v (by ((repeat apply Look.there rfl); exact Look.here)) (.f .nil) | exact .a (by ((repeat apply Look.there rfl); exact Look.here)) | skip) .nil), oneB (by simp only [onS, decide_eq_true_eq, decide_eq_false_iff_not] at *; simp_all [valid, inR, inP, area])⟩ -- LEAF 4: ret

def covers (t : Tri) (px py : Int) : Bool := valid t && (acc t.v.a.x t.v.a.y t.v.b.x t.v.b.y px py && (acc t.v.b.x t.v.b.y t.v.c.x t.v.c.y px py && acc t.v.c.x t.v.c.y t.v.a.x t.v.a.y px py))
/-- frustum/edge.Covers -/
theorem c57 (t : Tri) (px py : Int) : Fn Try.prog 57 [A t, I px, I py] (.one (B (covers t px py))) := by
  refine fnI Try.func57 Try.ntmps57 fun hb => ?_
  refine sg ?_
  refine bx _ ?_
  refine as_ ?_
  refine rNil ?_
  refine sq ?_
  refine sg ?_
  first | refine lAf ?_ | refine lAb ?_ | refine lAo ?_
  refine cl (c37 t) ?_
  refine nt ?_
  refine rNil ?_
  refine cn (fun h1 => ?_) (fun h1 => ?_)
  ·
    refine sg ?_
    refine as_ ?_
    refine rNil ?_
    refine awp_ret ?_
    refine tr ?_
    exact ⟨.inr rfl, _, (.cons (by first | exact .v (by ((repeat apply Look.there rfl); exact Look.here)) (.f (.v _)) | exact .v (by ((repeat apply Look.there rfl); exact Look.here)) (.row rfl rfl) | exact .v (by ((repeat apply Look.there rfl); exact Look.here)) (.f .nil) | exact .a (by ((repeat apply Look.there rfl); exact Look.here)) | skip) .nil), oneB (by simp_all [covers])⟩ -- LEAF 1: ret
  ·
    refine awp_skip ?_
    refine tn ?_
    refine sq ?_
    refine sg ?_
    refine mv ?_
    refine rNil ?_
    refine bk ?_
    refine lu ?_
    refine lr ?_
    refine sg ?_
    refine bo ?_
    refine rNil ?_
    refine sq ?_
    refine cn (fun h2 => ?_) (fun h2 => ?_)
    ·
      refine awp_skip ?_
      refine tn ?_
      refine sq ?_
      refine bk ?_
      refine sg ?_
      refine mv ?_
      refine as_ ?_
      refine rNil ?_
      refine sd mixO ?_
      refine mv ?_
      first | refine ff ?_ | refine fb ?_ | refine fo ?_
      first | refine xf ?_ | refine xb ?_ | refine xoa ?_
      first | refine lAf ?_ | refine lAb ?_ | refine lAo ?_
      refine mv ?_
      refine bo ?_
      refine bo ?_
      first | refine ff ?_ | refine fb ?_ | refine fo ?_
      first | refine xf ?_ | refine xb ?_ | refine xoa ?_
      first | refine lAf ?_ | refine lAb ?_ | refine lAo ?_
      refine al _ ?_
      refine al _ ?_
      refine sA ?_
      refine sA ?_
      refine rNil ⟨rfl, ?_⟩
      refine sg ?_
      first | refine ff ?_ | refine fb ?_ | refine fo ?_
      first | refine l1f ?_ | refine l1b ?_ | refine l1o ?_
      first | refine ff ?_ | refine fb ?_ | refine fo ?_
      first | refine l1f ?_ | refine l1b ?_ | refine l1o ?_
      first | refine ff ?_ | refine fb ?_ | refine fo ?_
      first | refine l1f ?_ | refine l1b ?_ | refine l1o ?_
      first | refine ff ?_ | refine fb ?_ | refine fo ?_
      first | refine l1f ?_ | refine l1b ?_ | refine l1o ?_
      refine mv ?_
      refine mv ?_
      refine cl (c79 _ _ _ _ _ _) ?_
      refine nt ?_
      refine rNil ?_
      refine cn (fun h3 => ?_) (fun h3 => ?_)
      ·
        refine sg ?_
        refine as_ ?_
        refine rNil ?_
        refine awp_ret ?_
        refine br ?_
        refine tr ?_
        refine tr ?_
        refine br ?_
        refine tr ?_
        exact ⟨.inr rfl, _, (.cons (by first | exact .v (by ((repeat apply Look.there rfl); exact Look.here)) (.f (.v _)) | exact .v (by ((repeat apply Look.there rfl); exact Look.here)) (.row rfl rfl) | exact .v (by ((repeat apply Look.there rfl); exact Look.here)) (.f .nil) | exact .a (by ((repeat apply Look.there rfl); exact Look.here)) | skip) .nil), oneB (by simp_all [covers])⟩ -- LEAF 2: ret
      ·
        refine awp_skip ?_
        refine bn_ ?_
        refine tn ?_
        refine rg ?_
        refine bo ?_
        refine mv ?_
        refine rNil ?_
        refine tn ?_
        refine lr ?_
        refine sg ?_
        refine bo ?_
        refine rNil ?_
        refine sq ?_
        refine cn (fun h4 => ?_) (fun h4 => ?_)
        ·
          refine awp_skip ?_
          refine tn ?_
          refine sq ?_
          refine bk ?_
          refine sg ?_
          refine mv ?_
          refine as_ ?_
          refine rNil ?_
          refine sd mixO ?_
          refine mv ?_
          first | refine ff ?_ | refine fb ?_ | refine fo ?_
          first | refine xf ?_ | refine xb ?_ | refine xoa ?_
          first | refine lAf ?_ | refine lAb ?_ | refine lAo ?_
          refine mv ?_
          refine bo ?_
          refine bo ?_
          first | refine ff ?_ | refine fb ?_ | refine fo ?_
          first | refine xf ?_ | refine xb ?_ | refine xoa ?_
          first | refine lAf ?_ | refine lAb ?_ | refine lAo ?_
          refine al _ ?_
          refine al _ ?_
          refine sA ?_
          refine sA ?_
          refine rNil ⟨rfl, ?_⟩
          refine sg ?_
          first | refine ff ?_ | refine fb ?_ | refine fo ?_
          first | refine l1f ?_ | refine l1b ?_ | refine l1o ?_
          first | refine ff ?_ | refine fb ?_ | refine fo ?_
          first | refine l1f ?_ | refine l1b ?_ | refine l1o ?_
          first | refine ff ?_ | refine fb ?_ | refine fo ?_
          first | refine l1f ?_ | refine l1b ?_ | refine l1o ?_
          first | refine ff ?_ | refine fb ?_ | refine fo ?_
          first | refine l1f ?_ | refine l1b ?_ | refine l1o ?_
          refine mv ?_
          refine mv ?_
          refine cl (c79 _ _ _ _ _ _) ?_
          refine nt ?_
          refine rNil ?_
          refine cn (fun h5 => ?_) (fun h5 => ?_)
          ·
            refine sg ?_
            refine as_ ?_
            refine rNil ?_
            refine awp_ret ?_
            refine br ?_
            refine tr ?_
            refine tr ?_
            refine br ?_
            refine tr ?_
            exact ⟨.inr rfl, _, (.cons (by first | exact .v (by ((repeat apply Look.there rfl); exact Look.here)) (.f (.v _)) | exact .v (by ((repeat apply Look.there rfl); exact Look.here)) (.row rfl rfl) | exact .v (by ((repeat apply Look.there rfl); exact Look.here)) (.f .nil) | exact .a (by ((repeat apply Look.there rfl); exact Look.here)) | skip) .nil), oneB (by simp_all [covers])⟩ -- LEAF 3: ret
          ·
            refine awp_skip ?_
            refine bn_ ?_
            refine tn ?_
            refine rg ?_
            refine bo ?_
            refine mv ?_
            refine rNil ?_
            refine tn ?_
            refine lr ?_
            refine sg ?_
            refine bo ?_
            refine rNil ?_
            refine sq ?_
            refine cn (fun h6 => ?_) (fun h6 => ?_)
            ·
              refine awp_skip ?_
              refine tn ?_
              refine sq ?_
              refine bk ?_
              refine sg ?_
              refine mv ?_
              refine as_ ?_
              refine rNil ?_
              refine sd mixO ?_
              refine mv ?_
              first | refine ff ?_ | refine fb ?_ | refine fo ?_
              first | refine xf ?_ | refine xb ?_ | refine xoa ?_
              first | refine lAf ?_ | refine lAb ?_ | refine lAo ?_
              refine mv ?_
              refine bo ?_
              refine bo ?_
              first | refine ff ?_ | refine fb ?_ | refine fo ?_
              first | refine xf ?_ | refine xb ?_ | refine xoa ?_
              first | refine lAf ?_ | refine lAb ?_ | refine lAo ?_
              refine al _ ?_
              refine al _ ?_
              refine sA ?_
              refine sA ?_
              refine rNil ⟨rfl, ?_⟩
              refine sg ?_
              first | refine ff ?_ | refine fb ?_ | refine fo ?_
              first | refine l1f ?_ | refine l1b ?_ | refine l1o ?_
              first | refine ff ?_ | refine fb ?_ | refine fo ?_
              first | refine l1f ?_ | refine l1b ?_ | refine l1o ?_
              first | refine ff ?_ | refine fb ?_ | refine fo ?_
              first | refine l1f ?_ | refine l1b ?_ | refine l1o ?_
              first | refine ff ?_ | refine fb ?_ | refine fo ?_
              first | refine l1f ?_ | refine l1b ?_ | refine l1o ?_
              refine mv ?_
              refine mv ?_
              refine cl (c79 _ _ _ _ _ _) ?_
              refine nt ?_
              refine rNil ?_
              refine cn (fun h7 => ?_) (fun h7 => ?_)
              ·
                refine sg ?_
                refine as_ ?_
                refine rNil ?_
                refine awp_ret ?_
                refine br ?_
                refine tr ?_
                refine tr ?_
                refine br ?_
                refine tr ?_
                exact ⟨.inr rfl, _, (.cons (by first | exact .v (by ((repeat apply Look.there rfl); exact Look.here)) (.f (.v _)) | exact .v (by ((repeat apply Look.there rfl); exact Look.here)) (.row rfl rfl) | exact .v (by ((repeat apply Look.there rfl); exact Look.here)) (.f .nil) | exact .a (by ((repeat apply Look.there rfl); exact Look.here)) | skip) .nil), oneB (by simp_all [covers])⟩ -- LEAF 4: ret
              ·
                refine awp_skip ?_
                refine bn_ ?_
                refine tn ?_
                refine rg ?_
                refine bo ?_
                refine mv ?_
                refine rNil ?_
                refine tn ?_
                refine lr ?_
                refine sg ?_
                refine bo ?_
                refine rNil ?_
                refine sq ?_
                refine cn (fun h8 => ?_) (fun h8 => ?_)
                ·
                  exact absurd h8 (by decide)
                ·
                  refine awp_exit ?_
                  refine te ?_
                  refine te ?_
                  refine xbk ?_
                  refine tn ?_
                  refine sg ?_
                  refine as_ ?_
                  refine rNil ?_
                  refine awp_ret ?_
                  exact ⟨.inr rfl, _, (.cons (by first | exact .v (by ((repeat apply Look.there rfl); exact Look.here)) (.f (.v _)) | exact .v (by ((repeat apply Look.there rfl); exact Look.here)) (.row rfl rfl) | exact .v (by ((repeat apply Look.there rfl); exact Look.here)) (.f .nil) | exact .a (by ((repeat apply Look.there rfl); exact Look.here)) | skip) .nil), oneB (by simp_all [covers])⟩ -- LEAF 5: ret
            ·
              exact absurd h6 (by decide)
        ·
          exact absurd h4 (by decide)
    ·
      exact absurd h2 (by decide)

/-- frustum/frustumref35.Covers -/
theorem c68 (t : Tri) (px py : Int) (hx : 0 ≤ px ∧ px ≤ 16384) (hy : 0 ≤ py ∧ py ≤ 16384) : Fn Try.prog 68 [A t, I px, I py] (.one (B (covers t px py))) := by
  refine fnI Try.func68 Try.ntmps68 fun hb => ?_
  refine sg ?_
  refine bx _ ?_
  refine as_ ?_
  refine rNil ?_
  refine sg ?_
  first | refine lAf ?_ | refine lAb ?_ | refine lAo ?_
  refine cl (c43 t) ?_
  refine mv ?_
  refine gd (fun h1 => ?_) (fun h1 => ?_)
  ·
    first | refine ff ?_ | refine fb ?_ | refine fo ?_
    first | refine xf ?_ | refine xb ?_ | refine xoa ?_
    first | refine lAf ?_ | refine lAb ?_ | refine lAo ?_
    first | refine ff ?_ | refine fb ?_ | refine fo ?_
    first | refine xf ?_ | refine xb ?_ | refine xoa ?_
    first | refine lAf ?_ | refine lAb ?_ | refine lAo ?_
    refine mv ?_
    refine mv ?_
    refine cl (c85 t.v.a t.v.b px py (valid_in h1).1 (valid_in h1).2.1 hx hy) ?_
    refine pkT ?_
    refine mv ?_
    refine gd (fun h2 => ?_) (fun h2 => ?_)
    ·
      first | refine ff ?_ | refine fb ?_ | refine fo ?_
      first | refine xf ?_ | refine xb ?_ | refine xoa ?_
      first | refine lAf ?_ | refine lAb ?_ | refine lAo ?_
      first | refine ff ?_ | refine fb ?_ | refine fo ?_
      first | refine xf ?_ | refine xb ?_ | refine xoa ?_
      first | refine lAf ?_ | refine lAb ?_ | refine lAo ?_
      refine mv ?_
      refine mv ?_
      refine cl (c85 t.v.b t.v.c px py (valid_in h1).2.1 (valid_in h1).2.2 hx hy) ?_
      refine pkT ?_
      refine mv ?_
      refine gd (fun h3 => ?_) (fun h3 => ?_)
      ·
        first | refine ff ?_ | refine fb ?_ | refine fo ?_
        first | refine xf ?_ | refine xb ?_ | refine xoa ?_
        first | refine lAf ?_ | refine lAb ?_ | refine lAo ?_
        first | refine ff ?_ | refine fb ?_ | refine fo ?_
        first | refine xf ?_ | refine xb ?_ | refine xoa ?_
        first | refine lAf ?_ | refine lAb ?_ | refine lAo ?_
        refine mv ?_
        refine mv ?_
        refine cl (c85 t.v.c t.v.a px py (valid_in h1).2.2 (valid_in h1).1 hx hy) ?_
        refine pkT ?_
        refine as_ ?_
        refine rNil ?_
        refine awp_ret ?_
        exact ⟨.inr rfl, _, (.cons (by first | exact .v (by ((repeat apply Look.there rfl); exact Look.here)) (.f (.v _)) | exact .v (by ((repeat apply Look.there rfl); exact Look.here)) (.row rfl rfl) | exact .v (by ((repeat apply Look.there rfl); exact Look.here)) (.f .nil) | exact .a (by ((repeat apply Look.there rfl); exact Look.here)) | skip) .nil), oneB (by simp_all [covers])⟩ -- LEAF 1: ret
      ·
        refine no ?_
        refine no ?_
        refine no ?_
        refine no ?_
        refine no ?_
        refine no ?_
        refine no ?_
        refine no ?_
        refine no ?_
        refine pkF ?_
        refine as_ ?_
        refine rNil ?_
        refine awp_ret ?_
        exact ⟨.inr rfl, _, (.cons (by first | exact .v (by ((repeat apply Look.there rfl); exact Look.here)) (.f (.v _)) | exact .v (by ((repeat apply Look.there rfl); exact Look.here)) (.row rfl rfl) | exact .v (by ((repeat apply Look.there rfl); exact Look.here)) (.f .nil) | exact .a (by ((repeat apply Look.there rfl); exact Look.here)) | skip) .nil), oneB (by simp_all [covers])⟩ -- LEAF 2: ret
    ·
      refine no ?_
      refine no ?_
      refine no ?_
      refine no ?_
      refine no ?_
      refine no ?_
      refine no ?_
      refine no ?_
      refine no ?_
      refine pkF ?_
      refine mv ?_
      refine no ?_
      refine no ?_
      refine no ?_
      refine no ?_
      refine no ?_
      refine no ?_
      refine no ?_
      refine no ?_
      refine no ?_
      refine pkF ?_
      refine as_ ?_
      refine rNil ?_
      refine awp_ret ?_
      exact ⟨.inr rfl, _, (.cons (by first | exact .v (by ((repeat apply Look.there rfl); exact Look.here)) (.f (.v _)) | exact .v (by ((repeat apply Look.there rfl); exact Look.here)) (.row rfl rfl) | exact .v (by ((repeat apply Look.there rfl); exact Look.here)) (.f .nil) | exact .a (by ((repeat apply Look.there rfl); exact Look.here)) | skip) .nil), oneB (by simp_all [covers])⟩ -- LEAF 3: ret
  ·
    refine no ?_
    refine no ?_
    refine no ?_
    refine no ?_
    refine no ?_
    refine no ?_
    refine no ?_
    refine no ?_
    refine no ?_
    refine pkF ?_
    refine mv ?_
    refine no ?_
    refine no ?_
    refine no ?_
    refine no ?_
    refine no ?_
    refine no ?_
    refine no ?_
    refine no ?_
    refine no ?_
    refine pkF ?_
    refine mv ?_
    refine no ?_
    refine no ?_
    refine no ?_
    refine no ?_
    refine no ?_
    refine no ?_
    refine no ?_
    refine no ?_
    refine no ?_
    refine pkF ?_
    refine as_ ?_
    refine rNil ?_
    refine awp_ret ?_
    exact ⟨.inr rfl, _, (.cons (by first | exact .v (by ((repeat apply Look.there rfl); exact Look.here)) (.f (.v _)) | exact .v (by ((repeat apply Look.there rfl); exact Look.here)) (.row rfl rfl) | exact .v (by ((repeat apply Look.there rfl); exact Look.here)) (.f .nil) | exact .a (by ((repeat apply Look.there rfl); exact Look.here)) | skip) .nil), oneB (by simp_all [covers])⟩ -- LEAF 4: ret

/-- frustum/frustumref33.InRange -/
theorem c88 (t : T3 V) : Fn Try.prog 88 [A t] (.one (B (inR t))) := by
  refine fnI Try.func88 Try.ntmps88 fun hb => ?_
  refine sg ?_
  refine bx _ ?_
  refine as_ ?_
  refine rNil ?_
  refine sq ?_
  refine sg ?_
  refine as_ ?_
  refine rNil ?_
  refine bk ?_
  refine lu ?_
  refine lr ?_
  refine sq ?_
  refine sg ?_
  refine mv ?_
  refine bo ?_
  refine rNil ?_
  refine cn (fun h1 => ?_) (fun h1 => ?_)
  ·
    refine awp_skip ?_
    refine tn ?_
    refine sq ?_
    refine bk ?_
    refine sg ?_
    refine mv ?_
    first | refine xf ?_ | refine xb ?_ | refine xoa ?_
    first | refine ff ?_ | refine fb ?_ | refine fo ?_
    first | refine l1f ?_ | refine l1b ?_ | refine l1o ?_
    refine bo ?_
    refine mv ?_
    refine gd (fun h2 => ?_) (fun h2 => ?_)
    ·
      refine no ?_
      refine no ?_
      refine no ?_
      refine no ?_
      refine no ?_
      refine pkT ?_
      refine mv ?_
      refine no ?_
      refine no ?_
      refine no ?_
      refine no ?_
      refine no ?_
      refine pkT ?_
      refine mv ?_
      refine no ?_
      refine no ?_
      refine no ?_
      refine no ?_
      refine no ?_
      refine pkT ?_
      refine rNil ?_
      refine cn (fun h3 => ?_) (fun h3 => ?_)
      ·
        refine sg ?_
        refine as_ ?_
        refine rNil ?_
        refine awp_ret ?_
        refine br ?_
        refine tr ?_
        refine tr ?_
        refine br ?_
        refine tr ?_
        exact ⟨.inr rfl, _, (.cons (by first | exact .v (by ((repeat apply Look.there rfl); exact Look.here)) (.f (.v _)) | exact .v (by ((repeat apply Look.there rfl); exact Look.here)) (.row rfl rfl) | exact .v (by ((repeat apply Look.there rfl); exact Look.here)) (.f .nil) | exact .a (by ((repeat apply Look.there rfl); exact Look.here)) | skip) .nil), oneB (by simp only [decide_eq_true_eq, decide_eq_false_iff_not] at *; unfold inR inP onP; first | exact (decide_eq_true (by omega)).symm | exact (decide_eq_false (by omega)).symm)⟩ -- LEAF 1: ret
      ·
        exact absurd h3 (by decide)
    ·
      refine mv ?_
      first | refine xf ?_ | refine xb ?_ | refine xoa ?_
      first | refine ff ?_ | refine fb ?_ | refine fo ?_
      first | refine l1f ?_ | refine l1b ?_ | refine l1o ?_
      refine bo ?_
      refine pkF ?_
      refine mv ?_
      refine gd (fun h4 => ?_) (fun h4 => ?_)
      ·
        refine no ?_
        refine no ?_
        refine no ?_
        refine no ?_
        refine no ?_
        refine pkT ?_
        refine mv ?_
        refine no ?_
        refine no ?_
        refine no ?_
        refine no ?_
        refine no ?_
        refine pkT ?_
        refine rNil ?_
        refine cn (fun h5 => ?_) (fun h5 => ?_)
        ·
          refine sg ?_
          refine as_ ?_
          refine rNil ?_
          refine awp_ret ?_
          refine br ?_
          refine tr ?_
          refine tr ?_
          refine br ?_
          refine tr ?_
          exact ⟨.inr rfl, _, (.cons (by first | exact .v (by ((repeat apply Look.there rfl); exact Look.here)) (.f (.v _)) | exact .v (by ((repeat apply Look.there rfl); exact Look.here)) (.row rfl rfl) | exact .v (by ((repeat apply Look.there rfl); exact Look.here)) (.f .nil) | exact .a (by ((repeat apply Look.there rfl); exact Look.here)) | skip) .nil), oneB (by simp only [decide_eq_true_eq, decide_eq_false_iff_not] at *; unfold inR inP onP; first | exact (decide_eq_true (by omega)).symm | exact (decide_eq_false (by omega)).symm)⟩ -- LEAF 2: ret
        ·
          exact absurd h5 (by decide)
      ·
        refine mv ?_
        first | refine xf ?_ | refine xb ?_ | refine xoa ?_
        first | refine ff ?_ | refine fb ?_ | refine fo ?_
        first | refine l1f ?_ | refine l1b ?_ | refine l1o ?_
        refine bo ?_
        refine pkF ?_
        refine mv ?_
        refine gd (fun h6 => ?_) (fun h6 => ?_)
        ·
          refine no ?_
          refine no ?_
          refine no ?_
          refine no ?_
          refine no ?_
          refine pkT ?_
          refine rNil ?_
          refine cn (fun h7 => ?_) (fun h7 => ?_)
          ·
            refine sg ?_
            refine as_ ?_
            refine rNil ?_
            refine awp_ret ?_
            refine br ?_
            refine tr ?_
            refine tr ?_
            refine br ?_
            refine tr ?_
            exact ⟨.inr rfl, _, (.cons (by first | exact .v (by ((repeat apply Look.there rfl); exact Look.here)) (.f (.v _)) | exact .v (by ((repeat apply Look.there rfl); exact Look.here)) (.row rfl rfl) | exact .v (by ((repeat apply Look.there rfl); exact Look.here)) (.f .nil) | exact .a (by ((repeat apply Look.there rfl); exact Look.here)) | skip) .nil), oneB (by simp only [decide_eq_true_eq, decide_eq_false_iff_not] at *; unfold inR inP onP; first | exact (decide_eq_true (by omega)).symm | exact (decide_eq_false (by omega)).symm)⟩ -- LEAF 3: ret
          ·
            exact absurd h7 (by decide)
        ·
          refine mv ?_
          first | refine xf ?_ | refine xb ?_ | refine xoa ?_
          first | refine ff ?_ | refine fb ?_ | refine fo ?_
          first | refine l1f ?_ | refine l1b ?_ | refine l1o ?_
          refine bo ?_
          refine pkF ?_
          refine rNil ?_
          refine cn (fun h8 => ?_) (fun h8 => ?_)
          ·
            refine sg ?_
            refine as_ ?_
            refine rNil ?_
            refine awp_ret ?_
            refine br ?_
            refine tr ?_
            refine tr ?_
            refine br ?_
            refine tr ?_
            exact ⟨.inr rfl, _, (.cons (by first | exact .v (by ((repeat apply Look.there rfl); exact Look.here)) (.f (.v _)) | exact .v (by ((repeat apply Look.there rfl); exact Look.here)) (.row rfl rfl) | exact .v (by ((repeat apply Look.there rfl); exact Look.here)) (.f .nil) | exact .a (by ((repeat apply Look.there rfl); exact Look.here)) | skip) .nil), oneB (by simp only [decide_eq_true_eq, decide_eq_false_iff_not] at *; unfold inR inP onP; first | exact (decide_eq_true (by omega)).symm | exact (decide_eq_false (by omega)).symm)⟩ -- LEAF 4: ret
          ·
            refine awp_skip ?_
            refine bn_ ?_
            refine tn ?_
            refine rg ?_
            refine mv ?_
            refine bo ?_
            refine as_ ?_
            refine rNil ?_
            refine tn ?_
            refine lr ?_
            refine sq ?_
            refine sg ?_
            refine mv ?_
            refine bo ?_
            refine rNil ?_
            refine cn (fun h9 => ?_) (fun h9 => ?_)
            ·
              refine awp_skip ?_
              refine tn ?_
              refine sq ?_
              refine bk ?_
              refine sg ?_
              refine mv ?_
              first | refine xf ?_ | refine xb ?_ | refine xoa ?_
              first | refine ff ?_ | refine fb ?_ | refine fo ?_
              first | refine l1f ?_ | refine l1b ?_ | refine l1o ?_
              refine bo ?_
              refine mv ?_
              refine gd (fun h10 => ?_) (fun h10 => ?_)
              ·
                refine no ?_
                refine no ?_
                refine no ?_
                refine no ?_
                refine no ?_
                refine pkT ?_
                refine mv ?_
                refine no ?_
                refine no ?_
                refine no ?_
                refine no ?_
                refine no ?_
                refine pkT ?_
                refine mv ?_
                refine no ?_
                refine no ?_
                refine no ?_
                refine no ?_
                refine no ?_
                refine pkT ?_
                refine rNil ?_
                refine cn (fun h11 => ?_) (fun h11 => ?_)
                ·
                  refine sg ?_
                  refine as_ ?_
                  refine rNil ?_
                  refine awp_ret ?_
                  refine br ?_
                  refine tr ?_
                  refine tr ?_
                  refine br ?_
                  refine tr ?_
                  exact ⟨.inr rfl, _, (.cons (by first | exact .v (by ((repeat apply Look.there rfl); exact Look.here)) (.f (.v _)) | exact .v (by ((repeat apply Look.there rfl); exact Look.here)) (.row rfl rfl) | exact .v (by ((repeat apply Look.there rfl); exact Look.here)) (.f .nil) | exact .a (by ((repeat apply Look.there rfl); exact Look.here)) | skip) .nil), oneB (by simp only [decide_eq_true_eq, decide_eq_false_iff_not] at *; unfold inR inP onP; first | exact (decide_eq_true (by omega)).symm | exact (decide_eq_false (by omega)).symm)⟩ -- LEAF 5: ret
                ·
                  exact absurd h11 (by decide)
              ·
                refine mv ?_
                first | refine xf ?_ | refine xb ?_ | refine xoa ?_
                first | refine ff ?_ | refine fb ?_ | refine fo ?_
                first | refine l1f ?_ | refine l1b ?_ | refine l1o ?_
                refine bo ?_
                refine pkF ?_
                refine mv ?_
                refine gd (fun h12 => ?_) (fun h12 => ?_)
                ·
                  refine no ?_
                  refine no ?_
                  refine no ?_
                  refine no ?_
                  refine no ?_
                  refine pkT ?_
                  refine mv ?_
                  refine no ?_
                  refine no ?_
                  refine no ?_
                  refine no ?_
                  refine no ?_
                  refine pkT ?_
                  refine rNil ?_
                  refine cn (fun h13 => ?_) (fun h13 => ?_)
                  ·
                    refine sg ?_
                    refine as_ ?_
                    refine rNil ?_
                    refine awp_ret ?_
                    refine br ?_
                    refine tr ?_
                    refine tr ?_
                    refine br ?_
                    refine tr ?_
                    exact ⟨.inr rfl, _, (.cons (by first | exact .v (by ((repeat apply Look.there rfl); exact Look.here)) (.f (.v _)) | exact .v (by ((repeat apply Look.there rfl); exact Look.here)) (.row rfl rfl) | exact .v (by ((repeat apply Look.there rfl); exact Look.here)) (.f .nil) | exact .a (by ((repeat apply Look.there rfl); exact Look.here)) | skip) .nil), oneB (by simp only [decide_eq_true_eq, decide_eq_false_iff_not] at *; unfold inR inP onP; first | exact (decide_eq_true (by omega)).symm | exact (decide_eq_false (by omega)).symm)⟩ -- LEAF 6: ret
                  ·
                    exact absurd h13 (by decide)
                ·
                  refine mv ?_
                  first | refine xf ?_ | refine xb ?_ | refine xoa ?_
                  first | refine ff ?_ | refine fb ?_ | refine fo ?_
                  first | refine l1f ?_ | refine l1b ?_ | refine l1o ?_
                  refine bo ?_
                  refine pkF ?_
                  refine mv ?_
                  refine gd (fun h14 => ?_) (fun h14 => ?_)
                  ·
                    refine no ?_
                    refine no ?_
                    refine no ?_
                    refine no ?_
                    refine no ?_
                    refine pkT ?_
                    refine rNil ?_
                    refine cn (fun h15 => ?_) (fun h15 => ?_)
                    ·
                      refine sg ?_
                      refine as_ ?_
                      refine rNil ?_
                      refine awp_ret ?_
                      refine br ?_
                      refine tr ?_
                      refine tr ?_
                      refine br ?_
                      refine tr ?_
                      exact ⟨.inr rfl, _, (.cons (by first | exact .v (by ((repeat apply Look.there rfl); exact Look.here)) (.f (.v _)) | exact .v (by ((repeat apply Look.there rfl); exact Look.here)) (.row rfl rfl) | exact .v (by ((repeat apply Look.there rfl); exact Look.here)) (.f .nil) | exact .a (by ((repeat apply Look.there rfl); exact Look.here)) | skip) .nil), oneB (by simp only [decide_eq_true_eq, decide_eq_false_iff_not] at *; unfold inR inP onP; first | exact (decide_eq_true (by omega)).symm | exact (decide_eq_false (by omega)).symm)⟩ -- LEAF 7: ret
                    ·
                      exact absurd h15 (by decide)
                  ·
                    refine mv ?_
                    first | refine xf ?_ | refine xb ?_ | refine xoa ?_
                    first | refine ff ?_ | refine fb ?_ | refine fo ?_
                    first | refine l1f ?_ | refine l1b ?_ | refine l1o ?_
                    refine bo ?_
                    refine pkF ?_
                    refine rNil ?_
                    refine cn (fun h16 => ?_) (fun h16 => ?_)
                    ·
                      refine sg ?_
                      refine as_ ?_
                      refine rNil ?_
                      refine awp_ret ?_
                      refine br ?_
                      refine tr ?_
                      refine tr ?_
                      refine br ?_
                      refine tr ?_
                      exact ⟨.inr rfl, _, (.cons (by first | exact .v (by ((repeat apply Look.there rfl); exact Look.here)) (.f (.v _)) | exact .v (by ((repeat apply Look.there rfl); exact Look.here)) (.row rfl rfl) | exact .v (by ((repeat apply Look.there rfl); exact Look.here)) (.f .nil) | exact .a (by ((repeat apply Look.there rfl); exact Look.here)) | skip) .nil), oneB (by simp only [decide_eq_true_eq, decide_eq_false_iff_not] at *; unfold inR inP onP; first | exact (decide_eq_true (by omega)).symm | exact (decide_eq_false (by omega)).symm)⟩ -- LEAF 8: ret
                    ·
                      refine awp_skip ?_
                      refine bn_ ?_
                      refine tn ?_
                      refine rg ?_
                      refine mv ?_
                      refine bo ?_
                      refine as_ ?_
                      refine rNil ?_
                      refine tn ?_
                      refine lr ?_
                      refine sq ?_
                      refine sg ?_
                      refine mv ?_
                      refine bo ?_
                      refine rNil ?_
                      refine cn (fun h17 => ?_) (fun h17 => ?_)
                      ·
                        refine awp_skip ?_
                        refine tn ?_
                        refine sq ?_
                        refine bk ?_
                        refine sg ?_
                        refine mv ?_
                        first | refine xf ?_ | refine xb ?_ | refine xoa ?_
                        first | refine ff ?_ | refine fb ?_ | refine fo ?_
                        first | refine l1f ?_ | refine l1b ?_ | refine l1o ?_
                        refine bo ?_
                        refine mv ?_
                        refine gd (fun h18 => ?_) (fun h18 => ?_)
                        ·
                          refine no ?_
                          refine no ?_
                          refine no ?_
                          refine no ?_
                          refine no ?_
                          refine pkT ?_
                          refine mv ?_
                          refine no ?_
                          refine no ?_
                          refine no ?_
                          refine no ?_
                          refine no ?_
                          refine pkT ?_
                          refine mv ?_
                          refine no ?_
                          refine no ?_
                          refine no ?_
                          refine no ?_
                          refine no ?_
                          refine pkT ?_
                          refine rNil ?_
                          refine cn (fun h19 => ?_) (fun h19 => ?_)
                          ·
                            refine sg ?_
                            refine as_ ?_
                            refine rNil ?_
                            refine awp_ret ?_
                            refine br ?_
                            refine tr ?_
                            refine tr ?_
                            refine br ?_
                            refine tr ?_
                            exact ⟨.inr rfl, _, (.cons (by first | exact .v (by ((repeat apply Look.there rfl); exact Look.here)) (.f (.v _)) | exact .v (by ((repeat apply Look.there rfl); exact Look.here)) (.row rfl rfl) | exact .v (by ((repeat apply Look.there rfl); exact Look.here)) (.f .nil) | exact .a (by ((repeat apply Look.there rfl); exact Look.here)) | skip) .nil), oneB (by simp only [decide_eq_true_eq, decide_eq_false_iff_not] at *; unfold inR inP onP; first | exact (decide_eq_true (by omega)).symm | exact (decide_eq_false (by omega)).symm)⟩ -- LEAF 9: ret
                          ·
                            exact absurd h19 (by decide)
                        ·
                          refine mv ?_
                          first | refine xf ?_ | refine xb ?_ | refine xoa ?_
                          first | refine ff ?_ | refine fb ?_ | refine fo ?_
                          first | refine l1f ?_ | refine l1b ?_ | refine l1o ?_
                          refine bo ?_
                          refine pkF ?_
                          refine mv ?_
                          refine gd (fun h20 => ?_) (fun h20 => ?_)
                          ·
                            refine no ?_
                            refine no ?_
                            refine no ?_
                            refine no ?_
                            refine no ?_
                            refine pkT ?_
                            refine mv ?_
                            refine no ?_
                            refine no ?_
                            refine no ?_
                            refine no ?_
                            refine no ?_
                            refine pkT ?_
                            refine rNil ?_
                            refine cn (fun h21 => ?_) (fun h21 => ?_)
                            ·
                              refine sg ?_
                              refine as_ ?_
                              refine rNil ?_
                              refine awp_ret ?_
                              refine br ?_
                              refine tr ?_
                              refine tr ?_
                              refine br ?_
                              refine tr ?_
                              exact ⟨.inr rfl, _, (.cons (by first | exact .v (by ((repeat apply Look.there rfl); exact Look.here)) (.f (.v _)) | exact .v (by ((repeat apply Look.there rfl); exact Look.here)) (.row rfl rfl) | exact .v (by ((repeat apply Look.there rfl); exact Look.here)) (.f .nil) | exact .a (by ((repeat apply Look.there rfl); exact Look.here)) | skip) .nil), oneB (by simp only [decide_eq_true_eq, decide_eq_false_iff_not] at *; unfold inR inP onP; first | exact (decide_eq_true (by omega)).symm | exact (decide_eq_false (by omega)).symm)⟩ -- LEAF 10: ret
                            ·
                              exact absurd h21 (by decide)
                          ·
                            refine mv ?_
                            first | refine xf ?_ | refine xb ?_ | refine xoa ?_
                            first | refine ff ?_ | refine fb ?_ | refine fo ?_
                            first | refine l1f ?_ | refine l1b ?_ | refine l1o ?_
                            refine bo ?_
                            refine pkF ?_
                            refine mv ?_
                            refine gd (fun h22 => ?_) (fun h22 => ?_)
                            ·
                              refine no ?_
                              refine no ?_
                              refine no ?_
                              refine no ?_
                              refine no ?_
                              refine pkT ?_
                              refine rNil ?_
                              refine cn (fun h23 => ?_) (fun h23 => ?_)
                              ·
                                refine sg ?_
                                refine as_ ?_
                                refine rNil ?_
                                refine awp_ret ?_
                                refine br ?_
                                refine tr ?_
                                refine tr ?_
                                refine br ?_
                                refine tr ?_
                                exact ⟨.inr rfl, _, (.cons (by first | exact .v (by ((repeat apply Look.there rfl); exact Look.here)) (.f (.v _)) | exact .v (by ((repeat apply Look.there rfl); exact Look.here)) (.row rfl rfl) | exact .v (by ((repeat apply Look.there rfl); exact Look.here)) (.f .nil) | exact .a (by ((repeat apply Look.there rfl); exact Look.here)) | skip) .nil), oneB (by simp only [decide_eq_true_eq, decide_eq_false_iff_not] at *; unfold inR inP onP; first | exact (decide_eq_true (by omega)).symm | exact (decide_eq_false (by omega)).symm)⟩ -- LEAF 11: ret
                              ·
                                exact absurd h23 (by decide)
                            ·
                              refine mv ?_
                              first | refine xf ?_ | refine xb ?_ | refine xoa ?_
                              first | refine ff ?_ | refine fb ?_ | refine fo ?_
                              first | refine l1f ?_ | refine l1b ?_ | refine l1o ?_
                              refine bo ?_
                              refine pkF ?_
                              refine rNil ?_
                              refine cn (fun h24 => ?_) (fun h24 => ?_)
                              ·
                                refine sg ?_
                                refine as_ ?_
                                refine rNil ?_
                                refine awp_ret ?_
                                refine br ?_
                                refine tr ?_
                                refine tr ?_
                                refine br ?_
                                refine tr ?_
                                exact ⟨.inr rfl, _, (.cons (by first | exact .v (by ((repeat apply Look.there rfl); exact Look.here)) (.f (.v _)) | exact .v (by ((repeat apply Look.there rfl); exact Look.here)) (.row rfl rfl) | exact .v (by ((repeat apply Look.there rfl); exact Look.here)) (.f .nil) | exact .a (by ((repeat apply Look.there rfl); exact Look.here)) | skip) .nil), oneB (by simp only [decide_eq_true_eq, decide_eq_false_iff_not] at *; unfold inR inP onP; first | exact (decide_eq_true (by omega)).symm | exact (decide_eq_false (by omega)).symm)⟩ -- LEAF 12: ret
                              ·
                                refine awp_skip ?_
                                refine bn_ ?_
                                refine tn ?_
                                refine rg ?_
                                refine mv ?_
                                refine bo ?_
                                refine as_ ?_
                                refine rNil ?_
                                refine tn ?_
                                refine lr ?_
                                refine sq ?_
                                refine sg ?_
                                refine mv ?_
                                refine bo ?_
                                refine rNil ?_
                                refine cn (fun h25 => ?_) (fun h25 => ?_)
                                ·
                                  exact absurd h25 (by decide)
                                ·
                                  refine awp_exit ?_
                                  refine te ?_
                                  refine te ?_
                                  refine xbk ?_
                                  refine tn ?_
                                  refine sg ?_
                                  refine as_ ?_
                                  refine rNil ?_
                                  refine awp_ret ?_
                                  exact ⟨.inr rfl, _, (.cons (by first | exact .v (by ((repeat apply Look.there rfl); exact Look.here)) (.f (.v _)) | exact .v (by ((repeat apply Look.there rfl); exact Look.here)) (.row rfl rfl) | exact .v (by ((repeat apply Look.there rfl); exact Look.here)) (.f .nil) | exact .a (by ((repeat apply Look.there rfl); exact Look.here)) | skip) .nil), oneB (by simp only [decide_eq_true_eq, decide_eq_false_iff_not] at *; unfold inR inP onP; first | exact (decide_eq_true (by omega)).symm | exact (decide_eq_false (by omega)).symm)⟩ -- LEAF 13: ret
                      ·
                        exact absurd h17 (by decide)
            ·
              exact absurd h9 (by decide)
  ·
    exact absurd h1 (by decide)

/-- frustum/frustumref33.Area -/
theorem c72 (t : T3 V) : Fn Try.prog 72 [A t] (.one (I (area t))) := by
  refine fnI Try.func72 Try.ntmps72 fun hb => ?_
  refine sg ?_
  refine bx _ ?_
  refine as_ ?_
  refine rNil ?_
  refine sq ?_
  refine sg ?_
  first | refine lAf ?_ | refine lAb ?_ | refine lAo ?_
  refine cl (c88 _) ?_
  refine nt ?_
  refine rNil ?_
  refine cn (fun h1 => ?_) (fun h1 => ?_)
  ·
    have g : ¬ inP t := by simpa [inR] using h1
    refine sg ?_
    refine as_ ?_
    refine rNil ?_
    refine awp_ret ?_
    refine tr ?_
    exact ⟨.inr rfl, _, (.cons (by first | exact .v (by ((repeat apply Look.there rfl); exact Look.here)) (.f (.v _)) | exact .v (by ((repeat apply Look.there rfl); exact Look.here)) (.row rfl rfl) | exact .v (by ((repeat apply Look.there rfl); exact Look.here)) (.f .nil) | exact .a (by ((repeat apply Look.there rfl); exact Look.here)) | skip) .nil), by rw [area, if_neg g]; rfl⟩ -- LEAF 1: ret
  ·
    have g : inP t := by simpa [inR] using h1
    have g' := g
    unfold inP onP at g
    have p1 := prod_bd (dif_bd (x := t.b.x) (y := t.a.x) (by omega) (by omega)) (dif_bd (x := t.c.y) (y := t.a.y) (by omega) (by omega))
    have p2 := prod_bd (dif_bd (x := t.b.y) (y := t.a.y) (by omega) (by omega)) (dif_bd (x := t.c.x) (y := t.a.x) (by omega) (by omega))
    refine awp_skip ?_
    refine tn ?_
    refine sg ?_
    first | refine xf ?_ | refine xb ?_ | refine xoa ?_
    first | refine ff ?_ | refine fb ?_ | refine fo ?_
    first | refine l1f ?_ | refine l1b ?_ | refine l1o ?_
    first | refine xf ?_ | refine xb ?_ | refine xoa ?_
    first | refine ff ?_ | refine fb ?_ | refine fo ?_
    first | refine l1f ?_ | refine l1b ?_ | refine l1o ?_
    refine bo ?_
    first | refine xf ?_ | refine xb ?_ | refine xoa ?_
    first | refine ff ?_ | refine fb ?_ | refine fo ?_
    first | refine l1f ?_ | refine l1b ?_ | refine l1o ?_
    first | refine xf ?_ | refine xb ?_ | refine xoa ?_
    first | refine ff ?_ | refine fb ?_ | refine fo ?_
    first | refine l1f ?_ | refine l1b ?_ | refine l1o ?_
    refine bo ?_
    refine bo ?_
    first | refine xf ?_ | refine xb ?_ | refine xoa ?_
    first | refine ff ?_ | refine fb ?_ | refine fo ?_
    first | refine l1f ?_ | refine l1b ?_ | refine l1o ?_
    first | refine xf ?_ | refine xb ?_ | refine xoa ?_
    first | refine ff ?_ | refine fb ?_ | refine fo ?_
    first | refine l1f ?_ | refine l1b ?_ | refine l1o ?_
    refine bo ?_
    first | refine xf ?_ | refine xb ?_ | refine xoa ?_
    first | refine ff ?_ | refine fb ?_ | refine fo ?_
    first | refine l1f ?_ | refine l1b ?_ | refine l1o ?_
    first | refine xf ?_ | refine xb ?_ | refine xoa ?_
    first | refine ff ?_ | refine fb ?_ | refine fo ?_
    first | refine l1f ?_ | refine l1b ?_ | refine l1o ?_
    refine bo ?_
    refine bo ?_
    refine bo ?_
    refine as_ ?_
    refine rNil ?_
    refine awp_ret ?_
    exact ⟨.inr rfl, _, (.cons (by first | exact .v (by ((repeat apply Look.there rfl); exact Look.here)) (.f (.v _)) | exact .v (by ((repeat apply Look.there rfl); exact Look.here)) (.row rfl rfl) | exact .v (by ((repeat apply Look.there rfl); exact Look.here)) (.f .nil) | exact .a (by ((repeat apply Look.there rfl); exact Look.here)) | skip) .nil), by rw [area, if_pos g']; rfl⟩ -- LEAF 2: ret

theorem lim_ne {x : Int} (h : lim x ≠ x) : ¬ (0 ≤ x ∧ x ≤ 16384) := fun h' => h (lim_id h')
theorem lim_eq {x : Int} (h : lim x = x) : 0 ≤ x ∧ x ≤ 16384 := by have := lim_bd x; omega
theorem not_valid {t : Tri} (h : ¬ inP t.v) : valid t = false := by simp [valid, inR, h]
/-- frustum/frustumref34.Valid -/
theorem c50 (t : Tri) : Fn Try.prog 50 [A t] (.one (B (valid t))) := by
  refine fnI Try.func50 Try.ntmps50 fun hb => ?_
  refine sg ?_
  refine bx _ ?_
  refine as_ ?_
  refine rNil ?_
  refine sq ?_
  refine sg ?_
  refine as_ ?_
  refine rNil ?_
  refine bk ?_
  refine lu ?_
  refine lr ?_
  refine sq ?_
  refine sg ?_
  refine mv ?_
  refine bo ?_
  refine rNil ?_
  refine cn (fun h1 => ?_) (fun h1 => ?_)
  ·
    refine awp_skip ?_
    refine tn ?_
    refine sq ?_
    refine bk ?_
    refine sd mixO ?_
    refine mv ?_
    first | refine ff ?_ | refine fb ?_ | refine fo ?_
    first | refine xf ?_ | refine xb ?_ | refine xoa ?_
    first | refine ff ?_ | refine fb ?_ | refine fo ?_
    first | refine l1f ?_ | refine l1b ?_ | refine l1o ?_
    refine cl (c71 _) ?_
    refine mv ?_
    first | refine ff ?_ | refine fb ?_ | refine fo ?_
    first | refine xf ?_ | refine xb ?_ | refine xoa ?_
    first | refine ff ?_ | refine fb ?_ | refine fo ?_
    first | refine l1f ?_ | refine l1b ?_ | refine l1o ?_
    refine bo ?_
    refine mv ?_
    refine gd (fun h2 => ?_) (fun h2 => ?_)
    ·
      refine no ?_
      refine no ?_
      refine no ?_
      refine no ?_
      refine no ?_
      refine no ?_
      refine no ?_
      refine no ?_
      refine no ?_
      refine no ?_
      refine no ?_
      refine no ?_
      refine pkT ?_
      refine rNil ⟨rfl, ?_⟩
      refine cn (fun h3 => ?_) (fun h3 => ?_)
      ·
        refine sg ?_
        refine as_ ?_
        refine rNil ?_
        refine awp_ret ?_
        refine br ?_
        refine tr ?_
        refine tr ?_
        refine br ?_
        refine tr ?_
        exact ⟨.inr rfl, _, (.cons (by first | exact .v (by ((repeat apply Look.there rfl); exact Look.here)) (.f (.v _)) | exact .v (by ((repeat apply Look.there rfl); exact Look.here)) (.row rfl rfl) | exact .v (by ((repeat apply Look.there rfl); exact Look.here)) (.f .nil) | exact .a (by ((repeat apply Look.there rfl); exact Look.here)) | skip) .nil), oneB (by
          refine (not_valid fun hv => ?_).symm
          have l1 := lim_id (on_x hv.1); have l2 := lim_id (on_y hv.1); have l3 := lim_id (on_x hv.2.1); have l4 := lim_id (on_y hv.2.1); have l5 := lim_id (on_x hv.2.2); have l6 := lim_id (on_y hv.2.2)
          simp_all)⟩ -- LEAF 1: ret
      ·
        exact absurd h3 (by decide)
    ·
      refine mv ?_
      first | refine ff ?_ | refine fb ?_ | refine fo ?_
      first | refine xf ?_ | refine xb ?_ | refine xoa ?_
      first | refine ff ?_ | refine fb ?_ | refine fo ?_
      first | refine l1f ?_ | refine l1b ?_ | refine l1o ?_
      refine cl (c71 _) ?_
      refine mv ?_
      first | refine ff ?_ | refine fb ?_ | refine fo ?_
      first | refine xf ?_ | refine xb ?_ | refine xoa ?_
      first | refine ff ?_ | refine fb ?_ | refine fo ?_
      first | refine l1f ?_ | refine l1b ?_ | refine l1o ?_
      refine bo ?_
      refine pkF ?_
      refine rNil ⟨rfl, ?_⟩
      refine cn (fun h4 => ?_) (fun h4 => ?_)
      ·
        refine sg ?_
        refine as_ ?_
        refine rNil ?_
        refine awp_ret ?_
        refine br ?_
        refine tr ?_
        refine tr ?_
        refine br ?_
        refine tr ?_
        exact ⟨.inr rfl, _, (.cons (by first | exact .v (by ((repeat apply Look.there rfl); exact Look.here)) (.f (.v _)) | exact .v (by ((repeat apply Look.there rfl); exact Look.here)) (.row rfl rfl) | exact .v (by ((repeat apply Look.there rfl); exact Look.here)) (.f .nil) | exact .a (by ((repeat apply Look.there rfl); exact Look.here)) | skip) .nil), oneB (by
          refine (not_valid fun hv => ?_).symm
          have l1 := lim_id (on_x hv.1); have l2 := lim_id (on_y hv.1); have l3 := lim_id (on_x hv.2.1); have l4 := lim_id (on_y hv.2.1); have l5 := lim_id (on_x hv.2.2); have l6 := lim_id (on_y hv.2.2)
          simp_all)⟩ -- LEAF 2: ret
      ·
        refine awp_skip ?_
        refine bn_ ?_
        refine tn ?_
        refine rg ?_
        refine mv ?_
        refine bo ?_
        refine as_ ?_
        refine rNil ?_
        refine tn ?_
        refine lr ?_
        refine sq ?_
        refine sg ?_
        refine mv ?_
        refine bo ?_
        refine rNil ?_
        refine cn (fun h5 => ?_) (fun h5 => ?_)
        ·
          refine awp_skip ?_
          refine tn ?_
          refine sq ?_
          refine bk ?_
          refine sd mixO ?_
          refine mv ?_
          first | refine ff ?_ | refine fb ?_ | refine fo ?_
          first | refine xf ?_ | refine xb ?_ | refine xoa ?_
          first | refine ff ?_ | refine fb ?_ | refine fo ?_
          first | refine l1f ?_ | refine l1b ?_ | refine l1o ?_
          refine cl (c71 _) ?_
          refine mv ?_
          first | refine ff ?_ | refine fb ?_ | refine fo ?_
          first | refine xf ?_ | refine xb ?_ | refine xoa ?_
          first | refine ff ?_ | refine fb ?_ | refine fo ?_
          first | refine l1f ?_ | refine l1b ?_ | refine l1o ?_
          refine bo ?_
          refine mv ?_
          refine gd (fun h6 => ?_) (fun h6 => ?_)
          ·
            refine no ?_
            refine no ?_
            refine no ?_
            refine no ?_
            refine no ?_
            refine no ?_
            refine no ?_
            refine no ?_
            refine no ?_
            refine no ?_
            refine no ?_
            refine no ?_
            refine pkT ?_
            refine rNil ⟨rfl, ?_⟩
            refine cn (fun h7 => ?_) (fun h7 => ?_)
            ·
              refine sg ?_
              refine as_ ?_
              refine rNil ?_
              refine awp_ret ?_
              refine br ?_
              refine tr ?_
              refine tr ?_
              refine br ?_
              refine tr ?_
              exact ⟨.inr rfl, _, (.cons (by first | exact .v (by ((repeat apply Look.there rfl); exact Look.here)) (.f (.v _)) | exact .v (by ((repeat apply Look.there rfl); exact Look.here)) (.row rfl rfl) | exact .v (by ((repeat apply Look.there rfl); exact Look.here)) (.f .nil) | exact .a (by ((repeat apply Look.there rfl); exact Look.here)) | skip) .nil), oneB (by
                refine (not_valid fun hv => ?_).symm
                have l1 := lim_id (on_x hv.1); have l2 := lim_id (on_y hv.1); have l3 := lim_id (on_x hv.2.1); have l4 := lim_id (on_y hv.2.1); have l5 := lim_id (on_x hv.2.2); have l6 := lim_id (on_y hv.2.2)
                simp_all)⟩ -- LEAF 3: ret
            ·
              exact absurd h7 (by decide)
          ·
            refine mv ?_
            first | refine ff ?_ | refine fb ?_ | refine fo ?_
            first | refine xf ?_ | refine xb ?_ | refine xoa ?_
            first | refine ff ?_ | refine fb ?_ | refine fo ?_
            first | refine l1f ?_ | refine l1b ?_ | refine l1o ?_
            refine cl (c71 _) ?_
            refine mv ?_
            first | refine ff ?_ | refine fb ?_ | refine fo ?_
            first | refine xf ?_ | refine xb ?_ | refine xoa ?_
            first | refine ff ?_ | refine fb ?_ | refine fo ?_
            first | refine l1f ?_ | refine l1b ?_ | refine l1o ?_
            refine bo ?_
            refine pkF ?_
            refine rNil ⟨rfl, ?_⟩
            refine cn (fun h8 => ?_) (fun h8 => ?_)
            ·
              refine sg ?_
              refine as_ ?_
              refine rNil ?_
              refine awp_ret ?_
              refine br ?_
              refine tr ?_
              refine tr ?_
              refine br ?_
              refine tr ?_
              exact ⟨.inr rfl, _, (.cons (by first | exact .v (by ((repeat apply Look.there rfl); exact Look.here)) (.f (.v _)) | exact .v (by ((repeat apply Look.there rfl); exact Look.here)) (.row rfl rfl) | exact .v (by ((repeat apply Look.there rfl); exact Look.here)) (.f .nil) | exact .a (by ((repeat apply Look.there rfl); exact Look.here)) | skip) .nil), oneB (by
                refine (not_valid fun hv => ?_).symm
                have l1 := lim_id (on_x hv.1); have l2 := lim_id (on_y hv.1); have l3 := lim_id (on_x hv.2.1); have l4 := lim_id (on_y hv.2.1); have l5 := lim_id (on_x hv.2.2); have l6 := lim_id (on_y hv.2.2)
                simp_all)⟩ -- LEAF 4: ret
            ·
              refine awp_skip ?_
              refine bn_ ?_
              refine tn ?_
              refine rg ?_
              refine mv ?_
              refine bo ?_
              refine as_ ?_
              refine rNil ?_
              refine tn ?_
              refine lr ?_
              refine sq ?_
              refine sg ?_
              refine mv ?_
              refine bo ?_
              refine rNil ?_
              refine cn (fun h9 => ?_) (fun h9 => ?_)
              ·
                refine awp_skip ?_
                refine tn ?_
                refine sq ?_
                refine bk ?_
                refine sd mixO ?_
                refine mv ?_
                first | refine ff ?_ | refine fb ?_ | refine fo ?_
                first | refine xf ?_ | refine xb ?_ | refine xoa ?_
                first | refine ff ?_ | refine fb ?_ | refine fo ?_
                first | refine l1f ?_ | refine l1b ?_ | refine l1o ?_
                refine cl (c71 _) ?_
                refine mv ?_
                first | refine ff ?_ | refine fb ?_ | refine fo ?_
                first | refine xf ?_ | refine xb ?_ | refine xoa ?_
                first | refine ff ?_ | refine fb ?_ | refine fo ?_
                first | refine l1f ?_ | refine l1b ?_ | refine l1o ?_
                refine bo ?_
                refine mv ?_
                refine gd (fun h10 => ?_) (fun h10 => ?_)
                ·
                  refine no ?_
                  refine no ?_
                  refine no ?_
                  refine no ?_
                  refine no ?_
                  refine no ?_
                  refine no ?_
                  refine no ?_
                  refine no ?_
                  refine no ?_
                  refine no ?_
                  refine no ?_
                  refine pkT ?_
                  refine rNil ⟨rfl, ?_⟩
                  refine cn (fun h11 => ?_) (fun h11 => ?_)
                  ·
                    refine sg ?_
                    refine as_ ?_
                    refine rNil ?_
                    refine awp_ret ?_
                    refine br ?_
                    refine tr ?_
                    refine tr ?_
                    refine br ?_
                    refine tr ?_
                    exact ⟨.inr rfl, _, (.cons (by first | exact .v (by ((repeat apply Look.there rfl); exact Look.here)) (.f (.v _)) | exact .v (by ((repeat apply Look.there rfl); exact Look.here)) (.row rfl rfl) | exact .v (by ((repeat apply Look.there rfl); exact Look.here)) (.f .nil) | exact .a (by ((repeat apply Look.there rfl); exact Look.here)) | skip) .nil), oneB (by
                      refine (not_valid fun hv => ?_).symm
                      have l1 := lim_id (on_x hv.1); have l2 := lim_id (on_y hv.1); have l3 := lim_id (on_x hv.2.1); have l4 := lim_id (on_y hv.2.1); have l5 := lim_id (on_x hv.2.2); have l6 := lim_id (on_y hv.2.2)
                      simp_all)⟩ -- LEAF 5: ret
                  ·
                    exact absurd h11 (by decide)
                ·
                  refine mv ?_
                  first | refine ff ?_ | refine fb ?_ | refine fo ?_
                  first | refine xf ?_ | refine xb ?_ | refine xoa ?_
                  first | refine ff ?_ | refine fb ?_ | refine fo ?_
                  first | refine l1f ?_ | refine l1b ?_ | refine l1o ?_
                  refine cl (c71 _) ?_
                  refine mv ?_
                  first | refine ff ?_ | refine fb ?_ | refine fo ?_
                  first | refine xf ?_ | refine xb ?_ | refine xoa ?_
                  first | refine ff ?_ | refine fb ?_ | refine fo ?_
                  first | refine l1f ?_ | refine l1b ?_ | refine l1o ?_
                  refine bo ?_
                  refine pkF ?_
                  refine rNil ⟨rfl, ?_⟩
                  refine cn (fun h12 => ?_) (fun h12 => ?_)
                  ·
                    refine sg ?_
                    refine as_ ?_
                    refine rNil ?_
                    refine awp_ret ?_
                    refine br ?_
                    refine tr ?_
                    refine tr ?_
                    refine br ?_
                    refine tr ?_
                    exact ⟨.inr rfl, _, (.cons (by first | exact .v (by ((repeat apply Look.there rfl); exact Look.here)) (.f (.v _)) | exact .v (by ((repeat apply Look.there rfl); exact Look.here)) (.row rfl rfl) | exact .v (by ((repeat apply Look.there rfl); exact Look.here)) (.f .nil) | exact .a (by ((repeat apply Look.there rfl); exact Look.here)) | skip) .nil), oneB (by
                      refine (not_valid fun hv => ?_).symm
                      have l1 := lim_id (on_x hv.1); have l2 := lim_id (on_y hv.1); have l3 := lim_id (on_x hv.2.1); have l4 := lim_id (on_y hv.2.1); have l5 := lim_id (on_x hv.2.2); have l6 := lim_id (on_y hv.2.2)
                      simp_all)⟩ -- LEAF 6: ret
                  ·
                    refine awp_skip ?_
                    refine bn_ ?_
                    refine tn ?_
                    refine rg ?_
                    refine mv ?_
                    refine bo ?_
                    refine as_ ?_
                    refine rNil ?_
                    refine tn ?_
                    refine lr ?_
                    refine sq ?_
                    refine sg ?_
                    refine mv ?_
                    refine bo ?_
                    refine rNil ?_
                    refine cn (fun h13 => ?_) (fun h13 => ?_)
                    ·
                      exact absurd h13 (by decide)
                    ·
                      refine awp_exit ?_
                      refine te ?_
                      refine te ?_
                      refine xbk ?_
                      refine tn ?_
                      refine sg ?_
                      first | refine ff ?_ | refine fb ?_ | refine fo ?_
                      first | refine lAf ?_ | refine lAb ?_ | refine lAo ?_
                      refine cl (c72 t.v) ?_
                      refine bo ?_
                      refine as_ ?_
                      refine rNil ?_
                      refine awp_ret ?_
                      exact ⟨.inr rfl, _, (.cons (by first | exact .v (by ((repeat apply Look.there rfl); exact Look.here)) (.f (.v _)) | exact .v (by ((repeat apply Look.there rfl); exact Look.here)) (.row rfl rfl) | exact .v (by ((repeat apply Look.there rfl); exact Look.here)) (.f .nil) | exact .a (by ((repeat apply Look.there rfl); exact Look.here)) | skip) .nil), by
                        have l1 := lim_eq (x := t.v.a.x) (by simpa using h2)
                        have l2 := lim_eq (x := t.v.a.y) (by simpa using h4)
                        have l3 := lim_eq (x := t.v.b.x) (by simpa using h6)
                        have l4 := lim_eq (x := t.v.b.y) (by simpa using h8)
                        have l5 := lim_eq (x := t.v.c.x) (by simpa using h10)
                        have l6 := lim_eq (x := t.v.c.y) (by simpa using h12)
                        have hv : inP t.v := by unfold inP onP; omega
                        exact oneB (by simp [valid, inR, hv])⟩ -- LEAF 7: ret
              ·
                exact absurd h9 (by decide)
        ·
          exact absurd h5 (by decide)
  ·
    exact absurd h1 (by decide)

end Go.Proofs.Ytlaaigljlhkdpaa.VS
