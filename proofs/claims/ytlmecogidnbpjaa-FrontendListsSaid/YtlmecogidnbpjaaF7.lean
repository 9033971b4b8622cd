/- The walks of functions: what each computes, by itself. Conditions: none. -/
import Derived.Test.YtlmecogidnbpjaaF6
set_option linter.unusedVariables false
set_option linter.unusedSimpArgs false
namespace Go.Proofs.Ytlmecogidnbpjaa.VS
open Go
structure VP where
  x : Int
  y : Int
  w : Int
  h : Int
  mn : Int
  mx : Int
instance : Enc VP := ⟨fun v => [.i .i64 v.x, .i .i64 v.y, .i .i64 v.w, .i .i64 v.h, .i .i64 v.mn, .i .i64 v.mx]⟩
def okSide (a s : Int) : Prop := 0 ≤ a ∧ 1 ≤ s ∧ s ≤ 64 ∧ a ≤ 64 - s
instance (a s : Int) : Decidable (okSide a s) := inferInstanceAs (Decidable (_ ∧ _))
def okVP (v : VP) : Prop := okSide v.x v.w ∧ okSide v.y v.h ∧ 0 ≤ v.mn ∧ v.mn ≤ v.mx ∧ v.mx ≤ 65536
instance (v : VP) : Decidable (okVP v) := inferInstanceAs (Decidable (_ ∧ _))
/-- frustum/viewport.Valid$1 -/
theorem c65 (a s : Int) : Fn Try.prog 65 [I a, I s] (.one (B (decide (okSide a s)))) := by
  refine fnI Try.func65 Try.ntmps65 fun hb => ?_
  refine sg ?_
  refine as_ ?_
  refine rNil ?_
  refine sg ?_
  refine mv ?_
  refine bo (hz := by exact rfl) ?_
  refine mv ?_
  refine gd (fun h1 => ?_) (fun h1 => ?_)
  ·
    refine mv ?_
    refine bo (hz := by exact rfl) ?_
    refine pkT ?_
    refine mv ?_
    refine gd (fun h2 => ?_) (fun h2 => ?_)
    ·
      have g2 : 1 ≤ s := by simpa using h2
      refine mv ?_
      refine bo (hz := by exact rfl) ?_
      refine pkT ?_
      refine mv ?_
      refine gd (fun h3 => ?_) (fun h3 => ?_)
      ·
        have g3 : s ≤ 64 := by simpa using h3
        refine mv ?_
        refine mv ?_
        refine bo (hz := by first | exact bop_sub (by omega) (by omega) | exact rfl) ?_
        refine bo (hz := by exact rfl) ?_
        refine pkT ?_
        refine as_ ?_
        refine rNil ?_
        refine awp_ret ?_
        exact ⟨.inr rfl, _, (.cons (by first | exact .v (by ((repeat apply Look.there rfl); exact Look.here)) (.f (.v _)) | exact .v (by ((repeat apply Look.there rfl); exact Look.here)) (.row rfl rfl) | exact .v (by ((repeat apply Look.there rfl); exact Look.here)) (.f .nil) | exact .a (by ((repeat apply Look.there rfl); exact Look.here)) | skip) .nil), oneB (by simp only [decide_eq_true_eq, decide_eq_false_iff_not] at *; unfold okSide; first | (apply decide_eq_decide.2; omega) | exact (decide_eq_false (by omega)).symm | exact (decide_eq_true (by omega)).symm)⟩ -- LEAF 1: ret
      ·
        refine no ?_
        refine no ?_
        refine no ?_
        refine no ?_
        refine pkF ?_
        refine as_ ?_
        refine rNil ?_
        refine awp_ret ?_
        exact ⟨.inr rfl, _, (.cons (by first | exact .v (by ((repeat apply Look.there rfl); exact Look.here)) (.f (.v _)) | exact .v (by ((repeat apply Look.there rfl); exact Look.here)) (.row rfl rfl) | exact .v (by ((repeat apply Look.there rfl); exact Look.here)) (.f .nil) | exact .a (by ((repeat apply Look.there rfl); exact Look.here)) | skip) .nil), oneB (by simp only [decide_eq_true_eq, decide_eq_false_iff_not] at *; unfold okSide; first | (apply decide_eq_decide.2; omega) | exact (decide_eq_false (by omega)).symm | exact (decide_eq_true (by omega)).symm)⟩ -- LEAF 2: ret
    ·
      refine no ?_
      refine no ?_
      refine pkF ?_
      refine mv ?_
      refine no ?_
      refine no ?_
      refine no ?_
      refine no ?_
      refine pkF ?_
      refine as_ ?_
      refine rNil ?_
      refine awp_ret ?_
      exact ⟨.inr rfl, _, (.cons (by first | exact .v (by ((repeat apply Look.there rfl); exact Look.here)) (.f (.v _)) | exact .v (by ((repeat apply Look.there rfl); exact Look.here)) (.row rfl rfl) | exact .v (by ((repeat apply Look.there rfl); exact Look.here)) (.f .nil) | exact .a (by ((repeat apply Look.there rfl); exact Look.here)) | skip) .nil), oneB (by simp only [decide_eq_true_eq, decide_eq_false_iff_not] at *; unfold okSide; first | (apply decide_eq_decide.2; omega) | exact (decide_eq_false (by omega)).symm | exact (decide_eq_true (by omega)).symm)⟩ -- LEAF 3: ret
  ·
    refine no ?_
    refine no ?_
    refine pkF ?_
    refine mv ?_
    refine no ?_
    refine no ?_
    refine pkF ?_
    refine mv ?_
    refine no ?_
    refine no ?_
    refine no ?_
    refine no ?_
    refine pkF ?_
    refine as_ ?_
    refine rNil ?_
    refine awp_ret ?_
    exact ⟨.inr rfl, _, (.cons (by first | exact .v (by ((repeat apply Look.there rfl); exact Look.here)) (.f (.v _)) | exact .v (by ((repeat apply Look.there rfl); exact Look.here)) (.row rfl rfl) | exact .v (by ((repeat apply Look.there rfl); exact Look.here)) (.f .nil) | exact .a (by ((repeat apply Look.there rfl); exact Look.here)) | skip) .nil), oneB (by simp only [decide_eq_true_eq, decide_eq_false_iff_not] at *; unfold okSide; first | (apply decide_eq_decide.2; omega) | exact (decide_eq_false (by omega)).symm | exact (decide_eq_true (by omega)).symm)⟩ -- LEAF 4: ret

/-- frustum/viewport.Valid -/
theorem c34 (v : VP) : Fn Try.prog 34 [A v] (.one (B (decide (okVP v)))) := by
  refine fnI Try.func34 Try.ntmps34 fun hb => ?_
  refine sg ?_
  refine bx _ ?_
  refine as_ ?_
  refine rNil ?_
  refine sg ?_
  refine as_ ?_
  refine rNil ?_
  refine sg ?_
  refine mv ?_
  first | refine ff ?_ | refine fb ?_ | refine fo ?_
  first | refine l1f ?_ | refine l1b ?_ | refine l1o ?_
  first | refine ff ?_ | refine fb ?_ | refine fo ?_
  first | refine l1f ?_ | refine l1b ?_ | refine l1o ?_
  refine cl (c65 v.x v.w) ?_
  refine mv ?_
  refine gd (fun h1 => ?_) (fun h1 => ?_)
  ·
    refine mv ?_
    first | refine ff ?_ | refine fb ?_ | refine fo ?_
    first | refine l1f ?_ | refine l1b ?_ | refine l1o ?_
    first | refine ff ?_ | refine fb ?_ | refine fo ?_
    first | refine l1f ?_ | refine l1b ?_ | refine l1o ?_
    refine cl (c65 v.y v.h) ?_
    refine pkT ?_
    refine mv ?_
    refine gd (fun h2 => ?_) (fun h2 => ?_)
    ·
      first | refine ff ?_ | refine fb ?_ | refine fo ?_
      first | refine l1f ?_ | refine l1b ?_ | refine l1o ?_
      refine bo (hz := by exact rfl) ?_
      refine pkT ?_
      refine mv ?_
      refine gd (fun h3 => ?_) (fun h3 => ?_)
      ·
        first | refine ff ?_ | refine fb ?_ | refine fo ?_
        first | refine l1f ?_ | refine l1b ?_ | refine l1o ?_
        first | refine ff ?_ | refine fb ?_ | refine fo ?_
        first | refine l1f ?_ | refine l1b ?_ | refine l1o ?_
        refine bo (hz := by exact rfl) ?_
        refine pkT ?_
        refine mv ?_
        refine gd (fun h4 => ?_) (fun h4 => ?_)
        ·
          first | refine ff ?_ | refine fb ?_ | refine fo ?_
          first | refine l1f ?_ | refine l1b ?_ | refine l1o ?_
          refine bo (hz := by exact rfl) ?_
          refine pkT ?_
          refine as_ ?_
          refine rNil ?_
          refine awp_ret ?_
          exact ⟨.inr rfl, _, (.cons (by first | exact .v (by ((repeat apply Look.there rfl); exact Look.here)) (.f (.v _)) | exact .v (by ((repeat apply Look.there rfl); exact Look.here)) (.row rfl rfl) | exact .v (by ((repeat apply Look.there rfl); exact Look.here)) (.f .nil) | exact .a (by ((repeat apply Look.there rfl); exact Look.here)) | skip) .nil), oneB (by simp only [decide_eq_true_eq, decide_eq_false_iff_not] at *; unfold okVP; first | (apply decide_eq_decide.2; simp_all; done) | exact (decide_eq_false (by rintro ⟨q1, q2, q3, q4, q5⟩; first | exact absurd q1 (by assumption) | exact absurd q2 (by assumption) | omega)).symm)⟩ -- LEAF 1: ret
        ·
          refine no ?_
          refine no ?_
          refine no ?_
          refine pkF ?_
          refine as_ ?_
          refine rNil ?_
          refine awp_ret ?_
          exact ⟨.inr rfl, _, (.cons (by first | exact .v (by ((repeat apply Look.there rfl); exact Look.here)) (.f (.v _)) | exact .v (by ((repeat apply Look.there rfl); exact Look.here)) (.row rfl rfl) | exact .v (by ((repeat apply Look.there rfl); exact Look.here)) (.f .nil) | exact .a (by ((repeat apply Look.there rfl); exact Look.here)) | skip) .nil), oneB (by simp only [decide_eq_true_eq, decide_eq_false_iff_not] at *; unfold okVP; first | (apply decide_eq_decide.2; simp_all; done) | exact (decide_eq_false (by rintro ⟨q1, q2, q3, q4, q5⟩; first | exact absurd q1 (by assumption) | exact absurd q2 (by assumption) | omega)).symm)⟩ -- LEAF 2: ret
      ·
        refine no ?_
        refine no ?_
        refine no ?_
        refine no ?_
        refine no ?_
        refine pkF ?_
        refine mv ?_
        refine no ?_
        refine no ?_
        refine no ?_
        refine pkF ?_
        refine as_ ?_
        refine rNil ?_
        refine awp_ret ?_
        exact ⟨.inr rfl, _, (.cons (by first | exact .v (by ((repeat apply Look.there rfl); exact Look.here)) (.f (.v _)) | exact .v (by ((repeat apply Look.there rfl); exact Look.here)) (.row rfl rfl) | exact .v (by ((repeat apply Look.there rfl); exact Look.here)) (.f .nil) | exact .a (by ((repeat apply Look.there rfl); exact Look.here)) | skip) .nil), oneB (by simp only [decide_eq_true_eq, decide_eq_false_iff_not] at *; unfold okVP; first | (apply decide_eq_decide.2; simp_all; done) | exact (decide_eq_false (by rintro ⟨q1, q2, q3, q4, q5⟩; first | exact absurd q1 (by assumption) | exact absurd q2 (by assumption) | omega)).symm)⟩ -- LEAF 3: ret
    ·
      refine no ?_
      refine no ?_
      refine no ?_
      refine pkF ?_
      refine mv ?_
      refine no ?_
      refine no ?_
      refine no ?_
      refine no ?_
      refine no ?_
      refine pkF ?_
      refine mv ?_
      refine no ?_
      refine no ?_
      refine no ?_
      refine pkF ?_
      refine as_ ?_
      refine rNil ?_
      refine awp_ret ?_
      exact ⟨.inr rfl, _, (.cons (by first | exact .v (by ((repeat apply Look.there rfl); exact Look.here)) (.f (.v _)) | exact .v (by ((repeat apply Look.there rfl); exact Look.here)) (.row rfl rfl) | exact .v (by ((repeat apply Look.there rfl); exact Look.here)) (.f .nil) | exact .a (by ((repeat apply Look.there rfl); exact Look.here)) | skip) .nil), oneB (by simp only [decide_eq_true_eq, decide_eq_false_iff_not] at *; unfold okVP; first | (apply decide_eq_decide.2; simp_all; done) | exact (decide_eq_false (by rintro ⟨q1, q2, q3, q4, q5⟩; first | exact absurd q1 (by assumption) | exact absurd q2 (by assumption) | omega)).symm)⟩ -- LEAF 4: ret
  ·
    refine no ?_
    refine no ?_
    refine no ?_
    refine no ?_
    refine no ?_
    refine no ?_
    refine pkF ?_
    refine mv ?_
    refine no ?_
    refine no ?_
    refine no ?_
    refine pkF ?_
    refine mv ?_
    refine no ?_
    refine no ?_
    refine no ?_
    refine no ?_
    refine no ?_
    refine pkF ?_
    refine mv ?_
    refine no ?_
    refine no ?_
    refine no ?_
    refine pkF ?_
    refine as_ ?_
    refine rNil ?_
    refine awp_ret ?_
    exact ⟨.inr rfl, _, (.cons (by first | exact .v (by ((repeat apply Look.there rfl); exact Look.here)) (.f (.v _)) | exact .v (by ((repeat apply Look.there rfl); exact Look.here)) (.row rfl rfl) | exact .v (by ((repeat apply Look.there rfl); exact Look.here)) (.f .nil) | exact .a (by ((repeat apply Look.there rfl); exact Look.here)) | skip) .nil), oneB (by simp only [decide_eq_true_eq, decide_eq_false_iff_not] at *; unfold okVP; first | (apply decide_eq_decide.2; simp_all; done) | exact (decide_eq_false (by rintro ⟨q1, q2, q3, q4, q5⟩; first | exact absurd q1 (by assumption) | exact absurd q2 (by assumption) | omega)).symm)⟩ -- LEAF 5: ret

/-- frustum/frustumref32.within -/
theorem c73 (n lo hi : Int) : Fn Try.prog 73 [I n, I lo, I hi] (.one (B (decide (lo ≤ n ∧ n ≤ hi)))) := by
  refine fnI Try.func73 Try.ntmps73 fun hb => ?_
  refine sg ?_
  refine as_ ?_
  refine rNil ?_
  refine sg ?_
  refine mv ?_
  refine mv ?_
  refine bo (hz := by exact rfl) ?_
  refine mv ?_
  refine gd (fun h1 => ?_) (fun h1 => ?_)
  ·
    refine mv ?_
    refine mv ?_
    refine bo (hz := by exact rfl) ?_
    refine pkT ?_
    refine as_ ?_
    refine rNil ?_
    refine awp_ret ?_
    exact ⟨.inr rfl, _, (.cons (by first | exact .v (by ((repeat apply Look.there rfl); exact Look.here)) (.f (.v _)) | exact .v (by ((repeat apply Look.there rfl); exact Look.here)) (.row rfl rfl) | exact .v (by ((repeat apply Look.there rfl); exact Look.here)) (.f .nil) | exact .a (by ((repeat apply Look.there rfl); exact Look.here)) | skip) .nil), oneB (by simp only [decide_eq_true_eq, decide_eq_false_iff_not] at *; first | (apply decide_eq_decide.2; omega) | exact (decide_eq_false (by omega)).symm | exact (decide_eq_true (by omega)).symm)⟩ -- LEAF 1: ret
  ·
    refine no ?_
    refine no ?_
    refine no ?_
    refine pkF ?_
    refine as_ ?_
    refine rNil ?_
    refine awp_ret ?_
    exact ⟨.inr rfl, _, (.cons (by first | exact .v (by ((repeat apply Look.there rfl); exact Look.here)) (.f (.v _)) | exact .v (by ((repeat apply Look.there rfl); exact Look.here)) (.row rfl rfl) | exact .v (by ((repeat apply Look.there rfl); exact Look.here)) (.f .nil) | exact .a (by ((repeat apply Look.there rfl); exact Look.here)) | skip) .nil), oneB (by simp only [decide_eq_true_eq, decide_eq_false_iff_not] at *; first | (apply decide_eq_decide.2; omega) | exact (decide_eq_false (by omega)).symm | exact (decide_eq_true (by omega)).symm)⟩ -- LEAF 2: ret

/-- frustum/frustumref32.Valid -/
theorem c45 (v : VP) : Fn Try.prog 45 [A v] (.one (B (decide (okVP v)))) := by
  refine fnI Try.func45 Try.ntmps45 fun hb => ?_
  refine sg ?_
  refine bx _ ?_
  refine as_ ?_
  refine rNil ?_
  refine sg ?_
  first | refine ff ?_ | refine fb ?_ | refine fo ?_
  first | refine l1f ?_ | refine l1b ?_ | refine l1o ?_
  refine cl (c73 _ _ _) ?_
  refine mv ?_
  refine gd (fun h1 => ?_) (fun h1 => ?_)
  ·
    first | refine ff ?_ | refine fb ?_ | refine fo ?_
    first | refine l1f ?_ | refine l1b ?_ | refine l1o ?_
    refine cl (c73 _ _ _) ?_
    refine pkT ?_
    refine mv ?_
    refine gd (fun h2 => ?_) (fun h2 => ?_)
    ·
      first | refine ff ?_ | refine fb ?_ | refine fo ?_
      first | refine l1f ?_ | refine l1b ?_ | refine l1o ?_
      refine cl (c73 _ _ _) ?_
      refine pkT ?_
      refine mv ?_
      refine gd (fun h3 => ?_) (fun h3 => ?_)
      ·
        first | refine ff ?_ | refine fb ?_ | refine fo ?_
        first | refine l1f ?_ | refine l1b ?_ | refine l1o ?_
        refine cl (c73 _ _ _) ?_
        refine pkT ?_
        refine mv ?_
        refine gd (fun h4 => ?_) (fun h4 => ?_)
        ·
          have g1 := of_decide_eq_true h1
          have g2 := of_decide_eq_true h2
          have g3 := of_decide_eq_true h3
          have g4 := of_decide_eq_true h4
          first | refine ff ?_ | refine fb ?_ | refine fo ?_
          first | refine l1f ?_ | refine l1b ?_ | refine l1o ?_
          first | refine ff ?_ | refine fb ?_ | refine fo ?_
          first | refine l1f ?_ | refine l1b ?_ | refine l1o ?_
          refine bo (hz := by first | exact bop_add (by omega) (by omega) | exact rfl) ?_
          refine bo (hz := by exact rfl) ?_
          refine pkT ?_
          refine mv ?_
          refine gd (fun h5 => ?_) (fun h5 => ?_)
          ·
            first | refine ff ?_ | refine fb ?_ | refine fo ?_
            first | refine l1f ?_ | refine l1b ?_ | refine l1o ?_
            first | refine ff ?_ | refine fb ?_ | refine fo ?_
            first | refine l1f ?_ | refine l1b ?_ | refine l1o ?_
            refine bo (hz := by first | exact bop_add (by omega) (by omega) | exact rfl) ?_
            refine bo (hz := by exact rfl) ?_
            refine pkT ?_
            refine mv ?_
            refine gd (fun h6 => ?_) (fun h6 => ?_)
            ·
              first | refine ff ?_ | refine fb ?_ | refine fo ?_
              first | refine l1f ?_ | refine l1b ?_ | refine l1o ?_
              refine bo (hz := by exact rfl) ?_
              refine pkT ?_
              refine mv ?_
              refine gd (fun h7 => ?_) (fun h7 => ?_)
              ·
                first | refine ff ?_ | refine fb ?_ | refine fo ?_
                first | refine l1f ?_ | refine l1b ?_ | refine l1o ?_
                first | refine ff ?_ | refine fb ?_ | refine fo ?_
                first | refine l1f ?_ | refine l1b ?_ | refine l1o ?_
                refine bo (hz := by exact rfl) ?_
                refine pkT ?_
                refine mv ?_
                refine gd (fun h8 => ?_) (fun h8 => ?_)
                ·
                  first | refine ff ?_ | refine fb ?_ | refine fo ?_
                  first | refine l1f ?_ | refine l1b ?_ | refine l1o ?_
                  refine bo (hz := by exact rfl) ?_
                  refine pkT ?_
                  refine as_ ?_
                  refine rNil ?_
                  refine awp_ret ?_
                  exact ⟨.inr rfl, _, (.cons (by first | exact .v (by ((repeat apply Look.there rfl); exact Look.here)) (.f (.v _)) | exact .v (by ((repeat apply Look.there rfl); exact Look.here)) (.row rfl rfl) | exact .v (by ((repeat apply Look.there rfl); exact Look.here)) (.f .nil) | exact .a (by ((repeat apply Look.there rfl); exact Look.here)) | skip) .nil), oneB (by simp only [decide_eq_true_eq, decide_eq_false_iff_not] at *; unfold okVP okSide; first | (apply decide_eq_decide.2; omega) | exact (decide_eq_false (by omega)).symm | exact (decide_eq_true (by omega)).symm)⟩ -- LEAF 1: ret
                ·
                  refine no ?_
                  refine no ?_
                  refine no ?_
                  refine pkF ?_
                  refine as_ ?_
                  refine rNil ?_
                  refine awp_ret ?_
                  exact ⟨.inr rfl, _, (.cons (by first | exact .v (by ((repeat apply Look.there rfl); exact Look.here)) (.f (.v _)) | exact .v (by ((repeat apply Look.there rfl); exact Look.here)) (.row rfl rfl) | exact .v (by ((repeat apply Look.there rfl); exact Look.here)) (.f .nil) | exact .a (by ((repeat apply Look.there rfl); exact Look.here)) | skip) .nil), oneB (by simp only [decide_eq_true_eq, decide_eq_false_iff_not] at *; unfold okVP okSide; first | (apply decide_eq_decide.2; omega) | exact (decide_eq_false (by omega)).symm | exact (decide_eq_true (by omega)).symm)⟩ -- LEAF 2: ret
              ·
                refine no ?_
                refine no ?_
                refine no ?_
                refine no ?_
                refine no ?_
                refine pkF ?_
                refine mv ?_
                refine no ?_
                refine no ?_
                refine no ?_
                refine pkF ?_
                refine as_ ?_
                refine rNil ?_
                refine awp_ret ?_
                exact ⟨.inr rfl, _, (.cons (by first | exact .v (by ((repeat apply Look.there rfl); exact Look.here)) (.f (.v _)) | exact .v (by ((repeat apply Look.there rfl); exact Look.here)) (.row rfl rfl) | exact .v (by ((repeat apply Look.there rfl); exact Look.here)) (.f .nil) | exact .a (by ((repeat apply Look.there rfl); exact Look.here)) | skip) .nil), oneB (by simp only [decide_eq_true_eq, decide_eq_false_iff_not] at *; unfold okVP okSide; first | (apply decide_eq_decide.2; omega) | exact (decide_eq_false (by omega)).symm | exact (decide_eq_true (by omega)).symm)⟩ -- LEAF 3: ret
            ·
              refine no ?_
              refine no ?_
              refine no ?_
              refine pkF ?_
              refine mv ?_
              refine no ?_
              refine no ?_
              refine no ?_
              refine no ?_
              refine no ?_
              refine pkF ?_
              refine mv ?_
              refine no ?_
              refine no ?_
              refine no ?_
              refine pkF ?_
              refine as_ ?_
              refine rNil ?_
              refine awp_ret ?_
              exact ⟨.inr rfl, _, (.cons (by first | exact .v (by ((repeat apply Look.there rfl); exact Look.here)) (.f (.v _)) | exact .v (by ((repeat apply Look.there rfl); exact Look.here)) (.row rfl rfl) | exact .v (by ((repeat apply Look.there rfl); exact Look.here)) (.f .nil) | exact .a (by ((repeat apply Look.there rfl); exact Look.here)) | skip) .nil), oneB (by simp only [decide_eq_true_eq, decide_eq_false_iff_not] at *; unfold okVP okSide; first | (apply decide_eq_decide.2; omega) | exact (decide_eq_false (by omega)).symm | exact (decide_eq_true (by omega)).symm)⟩ -- LEAF 4: ret
          ·
            refine no ?_
            refine no ?_
            refine no ?_
            refine no ?_
            refine no ?_
            refine no ?_
            refine pkF ?_
            refine mv ?_
            refine no ?_
            refine no ?_
            refine no ?_
            refine pkF ?_
            refine mv ?_
            refine no ?_
            refine no ?_
            refine no ?_
            refine no ?_
            refine no ?_
            refine pkF ?_
            refine mv ?_
            refine no ?_
            refine no ?_
            refine no ?_
            refine pkF ?_
            refine as_ ?_
            refine rNil ?_
            refine awp_ret ?_
            exact ⟨.inr rfl, _, (.cons (by first | exact .v (by ((repeat apply Look.there rfl); exact Look.here)) (.f (.v _)) | exact .v (by ((repeat apply Look.there rfl); exact Look.here)) (.row rfl rfl) | exact .v (by ((repeat apply Look.there rfl); exact Look.here)) (.f .nil) | exact .a (by ((repeat apply Look.there rfl); exact Look.here)) | skip) .nil), oneB (by simp only [decide_eq_true_eq, decide_eq_false_iff_not] at *; unfold okVP okSide; first | (apply decide_eq_decide.2; omega) | exact (decide_eq_false (by omega)).symm | exact (decide_eq_true (by omega)).symm)⟩ -- LEAF 5: ret
        ·
          refine no ?_
          refine no ?_
          refine no ?_
          refine no ?_
          refine no ?_
          refine no ?_
          refine pkF ?_
          refine mv ?_
          refine no ?_
          refine no ?_
          refine no ?_
          refine no ?_
          refine no ?_
          refine no ?_
          refine pkF ?_
          refine mv ?_
          refine no ?_
          refine no ?_
          refine no ?_
          refine pkF ?_
          refine mv ?_
          refine no ?_
          refine no ?_
          refine no ?_
          refine no ?_
          refine no ?_
          refine pkF ?_
          refine mv ?_
          refine no ?_
          refine no ?_
          refine no ?_
          refine pkF ?_
          refine as_ ?_
          refine rNil ?_
          refine awp_ret ?_
          exact ⟨.inr rfl, _, (.cons (by first | exact .v (by ((repeat apply Look.there rfl); exact Look.here)) (.f (.v _)) | exact .v (by ((repeat apply Look.there rfl); exact Look.here)) (.row rfl rfl) | exact .v (by ((repeat apply Look.there rfl); exact Look.here)) (.f .nil) | exact .a (by ((repeat apply Look.there rfl); exact Look.here)) | skip) .nil), oneB (by simp only [decide_eq_true_eq, decide_eq_false_iff_not] at *; unfold okVP okSide; first | (apply decide_eq_decide.2; omega) | exact (decide_eq_false (by omega)).symm | exact (decide_eq_true (by omega)).symm)⟩ -- LEAF 6: ret
      ·
        refine no ?_
        refine no ?_
        refine no ?_
        refine pkF ?_
        refine mv ?_
        refine no ?_
        refine no ?_
        refine no ?_
        refine no ?_
        refine no ?_
        refine no ?_
        refine pkF ?_
        refine mv ?_
        refine no ?_
        refine no ?_
        refine no ?_
        refine no ?_
        refine no ?_
        refine no ?_
        refine pkF ?_
        refine mv ?_
        refine no ?_
        refine no ?_
        refine no ?_
        refine pkF ?_
        refine mv ?_
        refine no ?_
        refine no ?_
        refine no ?_
        refine no ?_
        refine no ?_
        refine pkF ?_
        refine mv ?_
        refine no ?_
        refine no ?_
        refine no ?_
        refine pkF ?_
        refine as_ ?_
        refine rNil ?_
        refine awp_ret ?_
        exact ⟨.inr rfl, _, (.cons (by first | exact .v (by ((repeat apply Look.there rfl); exact Look.here)) (.f (.v _)) | exact .v (by ((repeat apply Look.there rfl); exact Look.here)) (.row rfl rfl) | exact .v (by ((repeat apply Look.there rfl); exact Look.here)) (.f .nil) | exact .a (by ((repeat apply Look.there rfl); exact Look.here)) | skip) .nil), oneB (by simp only [decide_eq_true_eq, decide_eq_false_iff_not] at *; unfold okVP okSide; first | (apply decide_eq_decide.2; omega) | exact (decide_eq_false (by omega)).symm | exact (decide_eq_true (by omega)).symm)⟩ -- LEAF 7: ret
    ·
      refine no ?_
      refine no ?_
      refine no ?_
      refine pkF ?_
      refine mv ?_
      refine no ?_
      refine no ?_
      refine no ?_
      refine pkF ?_
      refine mv ?_
      refine no ?_
      refine no ?_
      refine no ?_
      refine no ?_
      refine no ?_
      refine no ?_
      refine pkF ?_
      refine mv ?_
      refine no ?_
      refine no ?_
      refine no ?_
      refine no ?_
      refine no ?_
      refine no ?_
      refine pkF ?_
      refine mv ?_
      refine no ?_
      refine no ?_
      refine no ?_
      refine pkF ?_
      refine mv ?_
      refine no ?_
      refine no ?_
      refine no ?_
      refine no ?_
      refine no ?_
      refine pkF ?_
      refine mv ?_
      refine no ?_
      refine no ?_
      refine no ?_
      refine pkF ?_
      refine as_ ?_
      refine rNil ?_
      refine awp_ret ?_
      exact ⟨.inr rfl, _, (.cons (by first | exact .v (by ((repeat apply Look.there rfl); exact Look.here)) (.f (.v _)) | exact .v (by ((repeat apply Look.there rfl); exact Look.here)) (.row rfl rfl) | exact .v (by ((repeat apply Look.there rfl); exact Look.here)) (.f .nil) | exact .a (by ((repeat apply Look.there rfl); exact Look.here)) | skip) .nil), oneB (by simp only [decide_eq_true_eq, decide_eq_false_iff_not] at *; unfold okVP okSide; first | (apply decide_eq_decide.2; omega) | exact (decide_eq_false (by omega)).symm | exact (decide_eq_true (by omega)).symm)⟩ -- LEAF 8: ret
  ·
    refine no ?_
    refine no ?_
    refine no ?_
    refine pkF ?_
    refine mv ?_
    refine no ?_
    refine no ?_
    refine no ?_
    refine pkF ?_
    refine mv ?_
    refine no ?_
    refine no ?_
    refine no ?_
    refine pkF ?_
    refine mv ?_
    refine no ?_
    refine no ?_
    refine no ?_
    refine no ?_
    refine no ?_
    refine no ?_
    refine pkF ?_
    refine mv ?_
    refine no ?_
    refine no ?_
    refine no ?_
    refine no ?_
    refine no ?_
    refine no ?_
    refine pkF ?_
    refine mv ?_
    refine no ?_
    refine no ?_
    refine no ?_
    refine pkF ?_
    refine mv ?_
    refine no ?_
    refine no ?_
    refine no ?_
    refine no ?_
    refine no ?_
    refine pkF ?_
    refine mv ?_
    refine no ?_
    refine no ?_
    refine no ?_
    refine pkF ?_
    refine as_ ?_
    refine rNil ?_
    refine awp_ret ?_
    exact ⟨.inr rfl, _, (.cons (by first | exact .v (by ((repeat apply Look.there rfl); exact Look.here)) (.f (.v _)) | exact .v (by ((repeat apply Look.there rfl); exact Look.here)) (.row rfl rfl) | exact .v (by ((repeat apply Look.there rfl); exact Look.here)) (.f .nil) | exact .a (by ((repeat apply Look.there rfl); exact Look.here)) | skip) .nil), oneB (by simp only [decide_eq_true_eq, decide_eq_false_iff_not] at *; unfold okVP okSide; first | (apply decide_eq_decide.2; omega) | exact (decide_eq_false (by omega)).symm | exact (decide_eq_true (by omega)).symm)⟩ -- LEAF 9: ret

def dpt (v : VP) (z w : Int) : Int := fadd v.mn (fmul (clamp (fdv z (mx w 256)) 0 65536) (sat (v.mx - v.mn)))
/-- frustum/viewport.Depth -/
theorem c37 (v : VP) (z w : Int) (hv : okVP v) : Fn Try.prog 37 [A v, I z, I w] (.one (I (dpt v z w))) := by
  refine fnI Try.func37 Try.ntmps37 fun hb => ?_
  unfold okVP at hv
  refine sg ?_
  refine bx _ ?_
  refine as_ ?_
  refine rNil ?_
  refine sg ?_
  refine mv ?_
  refine mv ?_
  refine mx2 ?_
  refine cl (c38 z (mx w 256) (mx256 w)) ?_
  refine cl (c66 _ _ _) ?_
  refine as_ ?_
  refine rNil ?_
  refine sd mixO ?_
  first | refine ff ?_ | refine fb ?_ | refine fo ?_
  first | refine l1f ?_ | refine l1b ?_ | refine l1o ?_
  refine mv ?_
  first | refine ff ?_ | refine fb ?_ | refine fo ?_
  first | refine l1f ?_ | refine l1b ?_ | refine l1o ?_
  first | refine ff ?_ | refine fb ?_ | refine fo ?_
  first | refine l1f ?_ | refine l1b ?_ | refine l1o ?_
  refine cl (c70 v.mx v.mn (by omega) (by omega)) ?_
  refine cl (c69 _ _) ?_
  refine cl (c68 _ _) ?_
  refine as_ ?_
  refine rNil ⟨rfl, ?_⟩
  refine awp_ret ?_
  exact ⟨.inr rfl, _, (.cons (by first | exact .v (by ((repeat apply Look.there rfl); exact Look.here)) (.f (.v _)) | exact .v (by ((repeat apply Look.there rfl); exact Look.here)) (.row rfl rfl) | exact .v (by ((repeat apply Look.there rfl); exact Look.here)) (.f .nil) | exact .a (by ((repeat apply Look.there rfl); exact Look.here)) | skip) .nil), rfl⟩ -- LEAF 1: ret

/-- frustum/frustumref32.Depth -/
theorem c48 (v : VP) (z w : Int) (hv : okVP v) : Fn Try.prog 48 [A v, I z, I w] (.one (I (dpt v z w))) := by
  refine fnI Try.func48 Try.ntmps48 fun hb => ?_
  unfold okVP at hv
  refine sg ?_
  refine bx _ ?_
  refine as_ ?_
  refine rNil ?_
  refine sg ?_
  refine mv ?_
  refine mv ?_
  refine mx2 ?_
  refine cl (c49 z (mx w 256) (mx256 w)) ?_
  refine cl (c74 _ _ _) ?_
  refine as_ ?_
  refine rNil ?_
  refine sd mixO ?_
  first | refine ff ?_ | refine fb ?_ | refine fo ?_
  first | refine l1f ?_ | refine l1b ?_ | refine l1o ?_
  refine mv ?_
  first | refine ff ?_ | refine fb ?_ | refine fo ?_
  first | refine l1f ?_ | refine l1b ?_ | refine l1o ?_
  first | refine ff ?_ | refine fb ?_ | refine fo ?_
  first | refine l1f ?_ | refine l1b ?_ | refine l1o ?_
  refine cl (c78 v.mx v.mn (by omega) (by omega)) ?_
  refine cl (c77 _ _) ?_
  refine cl (c76 _ _) ?_
  refine as_ ?_
  refine rNil ⟨rfl, ?_⟩
  refine awp_ret ?_
  exact ⟨.inr rfl, _, (.cons (by first | exact .v (by ((repeat apply Look.there rfl); exact Look.here)) (.f (.v _)) | exact .v (by ((repeat apply Look.there rfl); exact Look.here)) (.row rfl rfl) | exact .v (by ((repeat apply Look.there rfl); exact Look.here)) (.f .nil) | exact .a (by ((repeat apply Look.there rfl); exact Look.here)) | skip) .nil), rfl⟩ -- LEAF 1: ret

def trV (p : VP) (v : V) : V := ⟨crd p.x p.w (sat v.x) (sat v.w), crd p.y p.h (-sat v.y) (sat v.w), dpt p (sat v.z) (sat v.w), fdv 65536 (mx (sat v.w) 256), v.vs.map sat⟩
def trF (p : VP) (v : V) : V := if okVP p then trV p v else ⟨0, 0, 0, 0, []⟩
abbrev vpC (p : VP) : List Slot := [.r (I p.x), .r (I p.y), .r (I p.w), .r (I p.h), .r (I p.mn), .r (I p.mx)]
theorem trF_few (p : VP) {v : V} (h : Few v) : Few (trF p v) := by
  unfold trF Few trV
  split
  · rw [List.length_map]; exact h
  · show (0 : Nat) ≤ _; omega
set_option maxRecDepth 100000 in
/-- frustum/viewport.Transform -/
theorem c18 (p : VP) (v : V) (hf : Few v) : Fn Try.prog 18 [A p, A v] (.one (A (trF p v))) := by
  refine fnI Try.func18 Try.ntmps18 fun hb => ?_
  unfold Few at hf
  have hy := sat_bd v.y
  refine sg ?_
  refine bx _ ?_
  refine bx _ ?_
  refine al _ ?_
  refine rNil ?_
  refine sq ?_
  refine sg ?_
  first | refine lAf ?_ | refine lAb ?_ | refine lAo ?_
  refine cl (c34 p) ?_
  refine nt ?_
  refine rNil ?_
  refine cn (fun h1 => ?_) (fun h1 => ?_)
  ·
    refine sg ?_
    refine buS ?_
    refine sA ?_
    refine rNil ?_
    refine awp_ret ?_
    refine tr ?_
    exact ⟨.inr rfl, _, (.cons (resC (by ((repeat apply Look.there rfl); exact Look.here)) (by exact rfl) (by exact rfl) (by ((repeat (apply All2.cons; first | exact .f (.v _) | exact .row rfl (by first | exact rfl | simp) | exact .f .nil | exact .f (.fro rfl (by first | exact rfl | simp)))); exact All2.nil))) .nil), by rw [trF, if_neg (by simpa using h1)]; rfl⟩ -- LEAF 1: ret
  ·
    have hv : okVP p := by simpa using h1
    refine awp_skip ?_
    refine tn ?_
    refine sg ?_
    first | refine ff ?_ | refine fb ?_ | refine fo ?_
    first | refine ff ?_ | refine fb ?_ | refine fo ?_
    first | refine l1f ?_ | refine l1b ?_ | refine l1o ?_
    refine cl (c35 _) ?_
    refine as_ ?_
    refine rNil ?_
    refine sd mixO ?_
    first | refine ff ?_ | refine fb ?_ | refine fo ?_
    first | refine l1f ?_ | refine l1b ?_ | refine l1o ?_
    first | refine ff ?_ | refine fb ?_ | refine fo ?_
    first | refine l1f ?_ | refine l1b ?_ | refine l1o ?_
    first | refine ff ?_ | refine fb ?_ | refine fo ?_
    first | refine ff ?_ | refine fb ?_ | refine fo ?_
    first | refine l1f ?_ | refine l1b ?_ | refine l1o ?_
    refine cl (c35 _) ?_
    refine mv ?_
    refine cl (c36 _ _ _ _) ?_
    first | refine ff ?_ | refine fb ?_ | refine fo ?_
    first | refine l1f ?_ | refine l1b ?_ | refine l1o ?_
    first | refine ff ?_ | refine fb ?_ | refine fo ?_
    first | refine l1f ?_ | refine l1b ?_ | refine l1o ?_
    first | refine ff ?_ | refine fb ?_ | refine fo ?_
    first | refine ff ?_ | refine fb ?_ | refine fo ?_
    first | refine l1f ?_ | refine l1b ?_ | refine l1o ?_
    refine cl (c35 _) ?_
    refine ng ?_
    refine mv ?_
    refine cl (c36 _ _ _ _) ?_
    first | refine lAf ?_ | refine lAb ?_ | refine lAo ?_
    first | refine ff ?_ | refine fb ?_ | refine fo ?_
    first | refine ff ?_ | refine fb ?_ | refine fo ?_
    first | refine l1f ?_ | refine l1b ?_ | refine l1o ?_
    refine cl (c35 _) ?_
    refine mv ?_
    refine cl (c37 p _ _ hv) ?_
    refine mv ?_
    refine mx2 ?_
    refine cl (c38 _ _ (mx256 _)) ?_
    refine buSz ?_
    refine al _ ?_
    refine sA ?_
    refine rNil ⟨rfl, ?_⟩
    refine sq ?_
    refine sg ?_
    first | refine ff ?_ | refine fb ?_ | refine fo ?_
    first | refine l1f ?_ | refine l1b ?_ | refine l1o ?_
    first | refine lnM ?_ | refine ln ?_ | refine lnO ?_ | refine lnN ?_ | refine lnW ?_
    refine mv ?_
    refine rNil ?_
    refine bk ?_
    refine adB 4 3 3 1 4 65 ?_
    refine lp (fun n S => ∃ (k m : Nat), n = v.vs.length - k ∧ k ≤ v.vs.length ∧ m = k ∧ S = ⟨[(52, .r (I k)), (51, .r (I v.vs.length)), (50, .r (L v.vs)), (6, .box 3 0), (4, .box 2 0)], [.box 30 (vpC p), .box 51 (vC v), .box 65 [.r (I 0), .r (I 0), .r (I 0), .r (I 0), .nil], .box 65 [.r (I (trV p v).x), .r (I (trV p v).y), .r (I (trV p v).z), .r (I (trV p v).w), .own 4 m], .row 3 1 (((v.vs.take k).map sat).map Enc.c)]⟩) v.vs.length ?_ ?_
    · exact wx 5 ⟨0, 0, by omega, by omega, rfl, rfl⟩
    rintro n S ⟨k, m, hn, hk, hm, rfl⟩
    have hkl : (v.vs.take k).length = k := by simp; omega
    have hrow : m = (((v.vs.take k).map sat).map Enc.c).length := by simp; omega
    refine sg ?_
    refine bo (hz := by exact rfl) ?_
    refine rNil ?_
    refine sq ?_
    refine cn (fun h2 => ?_) (fun h2 => ?_)
    ·
      have hk1 : k < v.vs.length := by simpa using h2
      obtain ⟨x, hx⟩ := ex_get hk1
      have hs := take_snoc hx
      refine awp_skip ?_
      refine tn ?_
      refine sq ?_
      refine bk ?_
      refine sg ?_
      first | refine xs_ ?_ | refine xo ?_ | refine xw ?_
      first | refine l1f ?_ | refine l1b ?_ | refine l1o ?_
      refine as_ ?_
      refine rNil ?_
      refine rd mixO ?_
      first | refine ff ?_ | refine fb ?_ | refine fo ?_
      first | refine l1f ?_ | refine l1b ?_ | refine l1o ?_
      refine mv ?_
      refine cl (c35 _) ?_
      refine bs ?_
      first | refine ap ?_ | refine (apN _) ?_
      first | refine ff ?_ | refine fb ?_ | refine fo ?_
      first | refine s1 ?_ | refine s1w ?_
      refine rNil ⟨rfl, ?_⟩
      refine bn_ ?_
      refine tn ?_
      refine rg ?_
      refine bo (hz := by first | exact bop_add (by omega) (by omega) | exact rfl) ?_
      refine mv ?_
      refine rNil ?_
      refine tn ?_
      exact ⟨v.vs.length - (k + 1), by omega, wy 5 ⟨k + 1, m + 1, by omega, by omega, by omega, rfl⟩ (by simp [hs, RV.flat, Enc.c]; omega)⟩ -- LEAF 2: round of loop 1
    ·
      refine awp_exit ?_
      refine te ?_
      refine te ?_
      refine xbk ?_
      refine tn ?_
      have hkk : k = v.vs.length := by simp at h2; omega
      subst hm
      subst hkk
      rw [List.take_length] at hrow ⊢
      refine fz 4 ?_
      refine sg ?_
      refine lAbF 3 [4] ?_
      refine sA ?_
      refine rNil ?_
      refine awp_ret ?_
      exact ⟨.inr rfl, _, (.cons (resC (by ((repeat apply Look.there rfl); exact Look.here)) (by exact rfl) (by exact rfl) (by ((repeat (apply All2.cons; first | exact .f (.v _) | exact .row rfl (by first | exact rfl | simp) | exact .f .nil | exact .f (.fro rfl (by first | exact rfl | simp)))); exact All2.nil))) .nil), by rw [trF, if_pos hv]; rfl⟩ -- LEAF 3: ret

set_option maxRecDepth 100000 in
/-- frustum/frustumref32.Transform -/
theorem c21 (p : VP) (v : V) (hf : Few v) : Fn Try.prog 21 [A p, A v] (.one (A (trF p v))) := by
  refine fnI Try.func21 Try.ntmps21 fun hb => ?_
  unfold Few at hf
  have hy := sat_bd v.y
  refine sg ?_
  refine bx _ ?_
  refine bx _ ?_
  refine al _ ?_
  refine rNil ?_
  refine sq ?_
  refine sg ?_
  first | refine lAf ?_ | refine lAb ?_ | refine lAo ?_
  refine cl (c45 p) ?_
  refine nt ?_
  refine rNil ?_
  refine cn (fun h1 => ?_) (fun h1 => ?_)
  ·
    refine sg ?_
    refine buS ?_
    refine sA ?_
    refine rNil ?_
    refine awp_ret ?_
    refine tr ?_
    exact ⟨.inr rfl, _, (.cons (resC (by ((repeat apply Look.there rfl); exact Look.here)) (by exact rfl) (by exact rfl) (by ((repeat (apply All2.cons; first | exact .f (.v _) | exact .row rfl (by first | exact rfl | simp) | exact .f .nil | exact .f (.fro rfl (by first | exact rfl | simp)))); exact All2.nil))) .nil), by rw [trF, if_neg (by simpa using h1)]; rfl⟩ -- LEAF 1: ret
  ·
    have hv : okVP p := by simpa using h1
    refine awp_skip ?_
    refine tn ?_
    refine sg ?_
    first | refine ff ?_ | refine fb ?_ | refine fo ?_
    first | refine lAf ?_ | refine lAb ?_ | refine lAo ?_
    refine al _ ?_
    refine sA ?_
    refine rNil ?_
    refine sg ?_
    first | refine ff ?_ | refine fb ?_ | refine fo ?_
    first | refine l1f ?_ | refine l1b ?_ | refine l1o ?_
    refine cl (c46 _) ?_
    refine as_ ?_
    refine rNil ?_
    refine sg ?_
    refine buSz ?_
    refine al _ ?_
    refine sA ?_
    refine rNil ?_
    refine sd mixO ?_
    first | refine ff ?_ | refine fb ?_ | refine fo ?_
    first | refine l1f ?_ | refine l1b ?_ | refine l1o ?_
    first | refine ff ?_ | refine fb ?_ | refine fo ?_
    first | refine l1f ?_ | refine l1b ?_ | refine l1o ?_
    first | refine ff ?_ | refine fb ?_ | refine fo ?_
    first | refine l1f ?_ | refine l1b ?_ | refine l1o ?_
    refine cl (c46 _) ?_
    refine mv ?_
    refine cl (c47 _ _ _ _) ?_
    first | refine ff ?_ | refine fb ?_ | refine fo ?_
    first | refine s1 ?_ | refine s1w ?_
    refine rNil ⟨rfl, ?_⟩
    refine sd mixO ?_
    first | refine ff ?_ | refine fb ?_ | refine fo ?_
    first | refine l1f ?_ | refine l1b ?_ | refine l1o ?_
    first | refine ff ?_ | refine fb ?_ | refine fo ?_
    first | refine l1f ?_ | refine l1b ?_ | refine l1o ?_
    first | refine ff ?_ | refine fb ?_ | refine fo ?_
    first | refine l1f ?_ | refine l1b ?_ | refine l1o ?_
    refine cl (c46 _) ?_
    refine ng ?_
    refine mv ?_
    refine cl (c47 _ _ _ _) ?_
    first | refine ff ?_ | refine fb ?_ | refine fo ?_
    first | refine s1 ?_ | refine s1w ?_
    refine rNil ⟨rfl, ?_⟩
    refine sd mixO ?_
    first | refine lAf ?_ | refine lAb ?_ | refine lAo ?_
    first | refine ff ?_ | refine fb ?_ | refine fo ?_
    first | refine l1f ?_ | refine l1b ?_ | refine l1o ?_
    refine cl (c46 _) ?_
    refine mv ?_
    refine cl (c48 p _ _ hv) ?_
    first | refine ff ?_ | refine fb ?_ | refine fo ?_
    first | refine s1 ?_ | refine s1w ?_
    refine rNil ⟨rfl, ?_⟩
    refine sg ?_
    refine mv ?_
    refine mx2 ?_
    refine cl (c49 _ _ (mx256 _)) ?_
    first | refine ff ?_ | refine fb ?_ | refine fo ?_
    first | refine s1 ?_ | refine s1w ?_
    refine rNil ?_
    refine sq ?_
    refine sg ?_
    refine as_ ?_
    refine rNil ?_
    refine bk ?_
    refine adB 5 4 3 1 4 65 ?_
    refine lp (fun n S => ∃ (k m : Nat), n = v.vs.length - k ∧ k ≤ v.vs.length ∧ m = k ∧ S = ⟨[(8, .r (I k)), (7, .box 4 0), (3, .box 1 0), (4, .box 2 0)], [.box 30 (vpC p), .box 51 (vC v), .box 65 [.r (I 0), .r (I 0), .r (I 0), .r (I 0), .nil], .box 48 [.r (I v.x), .r (I v.y), .r (I v.z), .r (I v.w)], .box 65 [.r (I (trV p v).x), .r (I (trV p v).y), .r (I (trV p v).z), .r (I (trV p v).w), .own 5 m], .row 3 1 (((v.vs.take k).map sat).map Enc.c)]⟩) v.vs.length ?_ ?_
    · exact wx 6 ⟨0, 0, by omega, by omega, rfl, rfl⟩
    rintro n S ⟨k, m, hn, hk, hm, rfl⟩
    have hkl : (v.vs.take k).length = k := by simp; omega
    have hrow : m = (((v.vs.take k).map sat).map Enc.c).length := by simp; omega
    refine sq ?_
    refine sg ?_
    refine mv ?_
    first | refine ff ?_ | refine fb ?_ | refine fo ?_
    first | refine l1f ?_ | refine l1b ?_ | refine l1o ?_
    first | refine lnM ?_ | refine ln ?_ | refine lnO ?_ | refine lnN ?_ | refine lnW ?_
    refine bo (hz := by exact rfl) ?_
    refine rNil ?_
    refine cn (fun h2 => ?_) (fun h2 => ?_)
    ·
      have hk1 : k < v.vs.length := by simpa using h2
      obtain ⟨x, hx⟩ := ex_get hk1
      have hs := take_snoc hx
      refine awp_skip ?_
      refine tn ?_
      refine sq ?_
      refine bk ?_
      refine rd mixO ?_
      first | refine ff ?_ | refine fb ?_ | refine fo ?_
      first | refine l1f ?_ | refine l1b ?_ | refine l1o ?_
      first | refine ff ?_ | refine fb ?_ | refine fo ?_
      first | refine l1f ?_ | refine l1b ?_ | refine l1o ?_
      refine mv ?_
      first | refine xs_ ?_ | refine xo ?_ | refine xw ?_
      first | refine l1f ?_ | refine l1b ?_ | refine l1o ?_
      refine cl (c46 _) ?_
      refine bs ?_
      first | refine ap ?_ | refine (apN _) ?_
      first | refine ff ?_ | refine fb ?_ | refine fo ?_
      first | refine s1 ?_ | refine s1w ?_
      refine rNil ⟨rfl, ?_⟩
      refine bn_ ?_
      refine tn ?_
      refine rg ?_
      refine mv ?_
      refine bo (hz := by first | exact bop_add (by omega) (by omega) | exact rfl) ?_
      refine as_ ?_
      refine rNil ?_
      refine tn ?_
      exact ⟨v.vs.length - (k + 1), by omega, wy 6 ⟨k + 1, m + 1, by omega, by omega, by omega, rfl⟩ (by simp [hs, RV.flat, Enc.c]; omega)⟩ -- LEAF 2: round of loop 1
    ·
      refine awp_exit ?_
      refine te ?_
      refine te ?_
      refine xbk ?_
      refine tn ?_
      have hkk : k = v.vs.length := by simp at h2; omega
      subst hm
      subst hkk
      rw [List.take_length] at hrow ⊢
      refine fz 5 ?_
      refine sg ?_
      refine lAbF 4 [5] ?_
      refine sA ?_
      refine rNil ?_
      refine awp_ret ?_
      exact ⟨.inr rfl, _, (.cons (resC (by ((repeat apply Look.there rfl); exact Look.here)) (by exact rfl) (by exact rfl) (by ((repeat (apply All2.cons; first | exact .f (.v _) | exact .row rfl (by first | exact rfl | simp) | exact .f .nil | exact .f (.fro rfl (by first | exact rfl | simp)))); exact All2.nil))) .nil), by rw [trF, if_pos hv]; rfl⟩ -- LEAF 3: ret

end Go.Proofs.Ytlmecogidnbpjaa.VS
