/- The walks of functions: what each computes, by itself. Conditions: none. -/
import Derived.Test.YtlmecogidnbpjaaF8
set_option linter.unusedVariables false
set_option linter.unusedSimpArgs false
namespace Go.Proofs.Ytlmecogidnbpjaa.VS
open Go
def eqS (a b : V) : Bool := a.x == b.x && (a.y == b.y && (a.z == b.z && (a.w == b.w && a.vs == b.vs)))
theorem eqS_refl (a : V) : eqS a a = true := by simp [eqS]
def eqT (a b : Tri) : Bool := a.prim == b.prim && (a.front == b.front && (eqS a.v.a b.v.a && (eqS a.v.b b.v.b && eqS a.v.c b.v.c)))
theorem eqT_refl (a : Tri) : eqT a a = true := by simp [eqT, eqS_refl]
/-- frustum/frustumref32.Equal -/
theorem c29 (a b : V) : Fn Try.prog 29 [A a, A b] (.one (B (eqS a b))) := by
  refine fnI Try.func29 Try.ntmps29 fun hb => ?_
  refine sg ?_
  refine bx _ ?_
  refine bx _ ?_
  refine as_ ?_
  refine rNil ?_
  refine sg ?_
  first | refine ff ?_ | refine fb ?_ | refine fo ?_
  first | refine l1f ?_ | refine l1b ?_ | refine l1o ?_
  first | refine ff ?_ | refine fb ?_ | refine fo ?_
  first | refine l1f ?_ | refine l1b ?_ | refine l1o ?_
  refine bo (hz := by exact rfl) ?_
  refine mv ?_
  refine gd (fun h1 => ?_) (fun h1 => ?_)
  ·
    first | refine ff ?_ | refine fb ?_ | refine fo ?_
    first | refine l1f ?_ | refine l1b ?_ | refine l1o ?_
    first | refine ff ?_ | refine fb ?_ | refine fo ?_
    first | refine l1f ?_ | refine l1b ?_ | refine l1o ?_
    refine bo (hz := by exact rfl) ?_
    refine pkT ?_
    refine mv ?_
    refine gd (fun h2 => ?_) (fun h2 => ?_)
    ·
      first | refine ff ?_ | refine fb ?_ | refine fo ?_
      first | refine l1f ?_ | refine l1b ?_ | refine l1o ?_
      first | refine ff ?_ | refine fb ?_ | refine fo ?_
      first | refine l1f ?_ | refine l1b ?_ | refine l1o ?_
      refine bo (hz := by exact rfl) ?_
      refine pkT ?_
      refine mv ?_
      refine gd (fun h3 => ?_) (fun h3 => ?_)
      ·
        first | refine ff ?_ | refine fb ?_ | refine fo ?_
        first | refine l1f ?_ | refine l1b ?_ | refine l1o ?_
        first | refine ff ?_ | refine fb ?_ | refine fo ?_
        first | refine l1f ?_ | refine l1b ?_ | refine l1o ?_
        refine bo (hz := by exact rfl) ?_
        refine pkT ?_
        refine mv ?_
        refine gd (fun h4 => ?_) (fun h4 => ?_)
        ·
          first | refine ff ?_ | refine fb ?_ | refine fo ?_
          first | refine l1f ?_ | refine l1b ?_ | refine l1o ?_
          first | refine ff ?_ | refine fb ?_ | refine fo ?_
          first | refine l1f ?_ | refine l1b ?_ | refine l1o ?_
          refine cl (c10 a.vs b.vs) ?_
          refine pkT ?_
          refine as_ ?_
          refine rNil ?_
          refine awp_ret ?_
          exact ⟨.inr rfl, _, (.cons (by first | exact .v (by ((repeat apply Look.there rfl); exact Look.here)) (.f (.v _)) | exact .v (by ((repeat apply Look.there rfl); exact Look.here)) (.row rfl rfl) | exact .v (by ((repeat apply Look.there rfl); exact Look.here)) (.f .nil) | exact .a (by ((repeat apply Look.there rfl); exact Look.here)) | skip) .nil), oneB (by simp only [eqS, *, Bool.true_and, Bool.false_and])⟩ -- LEAF 1: ret
        ·
          refine no ?_
          refine no ?_
          refine no ?_
          refine no ?_
          refine no ?_
          refine pkF ?_
          refine as_ ?_
          refine rNil ?_
          refine awp_ret ?_
          exact ⟨.inr rfl, _, (.cons (by first | exact .v (by ((repeat apply Look.there rfl); exact Look.here)) (.f (.v _)) | exact .v (by ((repeat apply Look.there rfl); exact Look.here)) (.row rfl rfl) | exact .v (by ((repeat apply Look.there rfl); exact Look.here)) (.f .nil) | exact .a (by ((repeat apply Look.there rfl); exact Look.here)) | skip) .nil), oneB (by simp only [eqS, *, Bool.true_and, Bool.false_and])⟩ -- LEAF 2: ret
      ·
        refine no ?_
        refine no ?_
        refine no ?_
        refine no ?_
        refine no ?_
        refine pkF ?_
        refine mv ?_
        refine no ?_
        refine no ?_
        refine no ?_
        refine no ?_
        refine no ?_
        refine pkF ?_
        refine as_ ?_
        refine rNil ?_
        refine awp_ret ?_
        exact ⟨.inr rfl, _, (.cons (by first | exact .v (by ((repeat apply Look.there rfl); exact Look.here)) (.f (.v _)) | exact .v (by ((repeat apply Look.there rfl); exact Look.here)) (.row rfl rfl) | exact .v (by ((repeat apply Look.there rfl); exact Look.here)) (.f .nil) | exact .a (by ((repeat apply Look.there rfl); exact Look.here)) | skip) .nil), oneB (by simp only [eqS, *, Bool.true_and, Bool.false_and])⟩ -- LEAF 3: ret
    ·
      refine no ?_
      refine no ?_
      refine no ?_
      refine no ?_
      refine no ?_
      refine pkF ?_
      refine mv ?_
      refine no ?_
      refine no ?_
      refine no ?_
      refine no ?_
      refine no ?_
      refine pkF ?_
      refine mv ?_
      refine no ?_
      refine no ?_
      refine no ?_
      refine no ?_
      refine no ?_
      refine pkF ?_
      refine as_ ?_
      refine rNil ?_
      refine awp_ret ?_
      exact ⟨.inr rfl, _, (.cons (by first | exact .v (by ((repeat apply Look.there rfl); exact Look.here)) (.f (.v _)) | exact .v (by ((repeat apply Look.there rfl); exact Look.here)) (.row rfl rfl) | exact .v (by ((repeat apply Look.there rfl); exact Look.here)) (.f .nil) | exact .a (by ((repeat apply Look.there rfl); exact Look.here)) | skip) .nil), oneB (by simp only [eqS, *, Bool.true_and, Bool.false_and])⟩ -- LEAF 4: ret
  ·
    refine no ?_
    refine no ?_
    refine no ?_
    refine no ?_
    refine no ?_
    refine pkF ?_
    refine mv ?_
    refine no ?_
    refine no ?_
    refine no ?_
    refine no ?_
    refine no ?_
    refine pkF ?_
    refine mv ?_
    refine no ?_
    refine no ?_
    refine no ?_
    refine no ?_
    refine no ?_
    refine pkF ?_
    refine mv ?_
    refine no ?_
    refine no ?_
    refine no ?_
    refine no ?_
    refine no ?_
    refine pkF ?_
    refine as_ ?_
    refine rNil ?_
    refine awp_ret ?_
    exact ⟨.inr rfl, _, (.cons (by first | exact .v (by ((repeat apply Look.there rfl); exact Look.here)) (.f (.v _)) | exact .v (by ((repeat apply Look.there rfl); exact Look.here)) (.row rfl rfl) | exact .v (by ((repeat apply Look.there rfl); exact Look.here)) (.f .nil) | exact .a (by ((repeat apply Look.there rfl); exact Look.here)) | skip) .nil), oneB (by simp only [eqS, *, Bool.true_and, Bool.false_and])⟩ -- LEAF 5: ret

/-- frustum/frustumref44.EqualTriangle -/
theorem c14 (a b : Tri) : Fn Try.prog 14 [A a, A b] (.one (B (eqT a b))) := by
  refine fnI Try.func14 Try.ntmps14 fun hb => ?_
  refine sg ?_
  refine bx _ ?_
  refine bx _ ?_
  refine as_ ?_
  refine rNil ?_
  refine sg ?_
  first | refine ff ?_ | refine fb ?_ | refine fo ?_
  first | refine l1f ?_ | refine l1b ?_ | refine l1o ?_
  first | refine ff ?_ | refine fb ?_ | refine fo ?_
  first | refine l1f ?_ | refine l1b ?_ | refine l1o ?_
  refine bo (hz := by exact rfl) ?_
  refine mv ?_
  refine gd (fun h1 => ?_) (fun h1 => ?_)
  ·
    first | refine ff ?_ | refine fb ?_ | refine fo ?_
    first | refine l1f ?_ | refine l1b ?_ | refine l1o ?_
    first | refine ff ?_ | refine fb ?_ | refine fo ?_
    first | refine l1f ?_ | refine l1b ?_ | refine l1o ?_
    refine be ?_
    refine pkT ?_
    refine mv ?_
    refine gd (fun h2 => ?_) (fun h2 => ?_)
    ·
      first | refine ff ?_ | refine fb ?_ | refine fo ?_
      first | refine xf ?_ | refine xb ?_ | refine xoa ?_
      first | refine lAf ?_ | refine lAb ?_ | refine lAo ?_
      first | refine ff ?_ | refine fb ?_ | refine fo ?_
      first | refine xf ?_ | refine xb ?_ | refine xoa ?_
      first | refine lAf ?_ | refine lAb ?_ | refine lAo ?_
      refine cl (c29 a.v.a b.v.a) ?_
      refine pkT ?_
      refine mv ?_
      refine gd (fun h3 => ?_) (fun h3 => ?_)
      ·
        first | refine ff ?_ | refine fb ?_ | refine fo ?_
        first | refine xf ?_ | refine xb ?_ | refine xoa ?_
        first | refine lAf ?_ | refine lAb ?_ | refine lAo ?_
        first | refine ff ?_ | refine fb ?_ | refine fo ?_
        first | refine xf ?_ | refine xb ?_ | refine xoa ?_
        first | refine lAf ?_ | refine lAb ?_ | refine lAo ?_
        refine cl (c29 a.v.b b.v.b) ?_
        refine pkT ?_
        refine mv ?_
        refine gd (fun h4 => ?_) (fun h4 => ?_)
        ·
          first | refine ff ?_ | refine fb ?_ | refine fo ?_
          first | refine xf ?_ | refine xb ?_ | refine xoa ?_
          first | refine lAf ?_ | refine lAb ?_ | refine lAo ?_
          first | refine ff ?_ | refine fb ?_ | refine fo ?_
          first | refine xf ?_ | refine xb ?_ | refine xoa ?_
          first | refine lAf ?_ | refine lAb ?_ | refine lAo ?_
          refine cl (c29 a.v.c b.v.c) ?_
          refine pkT ?_
          refine as_ ?_
          refine rNil ?_
          refine awp_ret ?_
          exact ⟨.inr rfl, _, (.cons (by first | exact .v (by ((repeat apply Look.there rfl); exact Look.here)) (.f (.v _)) | exact .v (by ((repeat apply Look.there rfl); exact Look.here)) (.row rfl rfl) | exact .v (by ((repeat apply Look.there rfl); exact Look.here)) (.f .nil) | exact .a (by ((repeat apply Look.there rfl); exact Look.here)) | skip) .nil), oneB (by simp only [eqT, *, Bool.true_and, Bool.false_and])⟩ -- LEAF 1: ret
        ·
          refine no ?_
          refine no ?_
          refine no ?_
          refine no ?_
          refine no ?_
          refine no ?_
          refine no ?_
          refine pkF ?_
          refine as_ ?_
          refine rNil ?_
          refine awp_ret ?_
          exact ⟨.inr rfl, _, (.cons (by first | exact .v (by ((repeat apply Look.there rfl); exact Look.here)) (.f (.v _)) | exact .v (by ((repeat apply Look.there rfl); exact Look.here)) (.row rfl rfl) | exact .v (by ((repeat apply Look.there rfl); exact Look.here)) (.f .nil) | exact .a (by ((repeat apply Look.there rfl); exact Look.here)) | skip) .nil), oneB (by simp only [eqT, *, Bool.true_and, Bool.false_and])⟩ -- LEAF 2: ret
      ·
        refine no ?_
        refine no ?_
        refine no ?_
        refine no ?_
        refine no ?_
        refine no ?_
        refine no ?_
        refine pkF ?_
        refine mv ?_
        refine no ?_
        refine no ?_
        refine no ?_
        refine no ?_
        refine no ?_
        refine no ?_
        refine no ?_
        refine pkF ?_
        refine as_ ?_
        refine rNil ?_
        refine awp_ret ?_
        exact ⟨.inr rfl, _, (.cons (by first | exact .v (by ((repeat apply Look.there rfl); exact Look.here)) (.f (.v _)) | exact .v (by ((repeat apply Look.there rfl); exact Look.here)) (.row rfl rfl) | exact .v (by ((repeat apply Look.there rfl); exact Look.here)) (.f .nil) | exact .a (by ((repeat apply Look.there rfl); exact Look.here)) | skip) .nil), oneB (by simp only [eqT, *, Bool.true_and, Bool.false_and])⟩ -- LEAF 3: ret
    ·
      refine no ?_
      refine no ?_
      refine no ?_
      refine no ?_
      refine no ?_
      refine no ?_
      refine no ?_
      refine pkF ?_
      refine mv ?_
      refine no ?_
      refine no ?_
      refine no ?_
      refine no ?_
      refine no ?_
      refine no ?_
      refine no ?_
      refine pkF ?_
      refine mv ?_
      refine no ?_
      refine no ?_
      refine no ?_
      refine no ?_
      refine no ?_
      refine no ?_
      refine no ?_
      refine pkF ?_
      refine as_ ?_
      refine rNil ?_
      refine awp_ret ?_
      exact ⟨.inr rfl, _, (.cons (by first | exact .v (by ((repeat apply Look.there rfl); exact Look.here)) (.f (.v _)) | exact .v (by ((repeat apply Look.there rfl); exact Look.here)) (.row rfl rfl) | exact .v (by ((repeat apply Look.there rfl); exact Look.here)) (.f .nil) | exact .a (by ((repeat apply Look.there rfl); exact Look.here)) | skip) .nil), oneB (by simp only [eqT, *, Bool.true_and, Bool.false_and])⟩ -- LEAF 4: ret
  ·
    refine no ?_
    refine no ?_
    refine no ?_
    refine no ?_
    refine no ?_
    refine pkF ?_
    refine mv ?_
    refine no ?_
    refine no ?_
    refine no ?_
    refine no ?_
    refine no ?_
    refine no ?_
    refine no ?_
    refine pkF ?_
    refine mv ?_
    refine no ?_
    refine no ?_
    refine no ?_
    refine no ?_
    refine no ?_
    refine no ?_
    refine no ?_
    refine pkF ?_
    refine mv ?_
    refine no ?_
    refine no ?_
    refine no ?_
    refine no ?_
    refine no ?_
    refine no ?_
    refine no ?_
    refine pkF ?_
    refine as_ ?_
    refine rNil ?_
    refine awp_ret ?_
    exact ⟨.inr rfl, _, (.cons (by first | exact .v (by ((repeat apply Look.there rfl); exact Look.here)) (.f (.v _)) | exact .v (by ((repeat apply Look.there rfl); exact Look.here)) (.row rfl rfl) | exact .v (by ((repeat apply Look.there rfl); exact Look.here)) (.f .nil) | exact .a (by ((repeat apply Look.there rfl); exact Look.here)) | skip) .nil), oneB (by simp only [eqT, *, Bool.true_and, Bool.false_and])⟩ -- LEAF 5: ret

/-- frustum/frustumref44.Same -/
theorem c6 (l : List Tri) : Fn Try.prog 6 [L l, L l] (.one (B true)) := by
  refine fnI Try.func6 Try.ntmps6 fun hb => ?_
  have hla := bd_L (f := Enc.c) (l := l) hb (by simp)
  refine sg ?_
  refine as_ ?_
  refine rNil ?_
  refine sq ?_
  refine sg ?_
  refine mv ?_
  first | refine lnM ?_ | refine ln ?_ | refine lnO ?_ | refine lnN ?_ | refine lnW ?_
  refine mv ?_
  first | refine lnM ?_ | refine ln ?_ | refine lnO ?_ | refine lnN ?_ | refine lnW ?_
  refine bo (hz := by exact rfl) ?_
  refine rNil ?_
  refine cn (fun h1 => ?_) (fun h1 => ?_)
  ·
    simp at h1 -- END
  ·
    refine awp_skip ?_
    refine tn ?_
    refine sq ?_
    refine sg ?_
    refine as_ ?_
    refine rNil ?_
    refine bk ?_
    refine lp (fun n S => ∃ k : Nat, n = l.length - k ∧ k ≤ l.length ∧ S = ⟨[(5, .r (I k)), (0, .r (L l)), (1, .r (L l))], []⟩) l.length ?_ ?_
    · exact wx 0 ⟨0, rfl, by omega, rfl⟩
    rintro n S ⟨k, hn, hk, rfl⟩
    refine sq ?_
    refine sg ?_
    refine mv ?_
    refine mv ?_
    first | refine lnM ?_ | refine ln ?_ | refine lnO ?_ | refine lnN ?_ | refine lnW ?_
    refine bo (hz := by exact rfl) ?_
    refine rNil ?_
    refine cn (fun h2 => ?_) (fun h2 => ?_)
    ·
      obtain ⟨x, hx⟩ := ex_get (show k < l.length by simp at h2; omega)
      have hk1 : k < l.length := by simp at h2; omega
      refine awp_skip ?_
      refine tn ?_
      refine sq ?_
      refine bk ?_
      refine sd mixO ?_
      refine mv ?_
      refine mv ?_
      first | refine xs_ ?_ | refine xo ?_ | refine xw ?_
      first | refine lAf ?_ | refine lAb ?_ | refine lAo ?_
      refine mv ?_
      refine mv ?_
      first | refine xs_ ?_ | refine xo ?_ | refine xw ?_
      first | refine lAf ?_ | refine lAb ?_ | refine lAo ?_
      refine cl (c14 x x) ?_
      refine nt ?_
      refine rNil ⟨rfl, ?_⟩
      refine cn (fun h3 => ?_) (fun h3 => ?_)
      ·
        rw [eqT_refl] at h3; cases h3 -- END
      ·
        refine awp_skip ?_
        refine bn_ ?_
        refine tn ?_
        refine rg ?_
        refine mv ?_
        refine bo (hz := by first | exact bop_add (by omega) (by omega) | exact rfl) ?_
        refine as_ ?_
        refine rNil ?_
        refine tn ?_
        exact ⟨l.length - (k + 1), by omega, wx 0 ⟨k + 1, rfl, by omega, rfl⟩⟩ -- LEAF 1: round of loop 1
    ·
      refine awp_exit ?_
      refine te ?_
      refine te ?_
      refine xbk ?_
      refine tn ?_
      refine sg ?_
      refine as_ ?_
      refine rNil ?_
      refine awp_ret ?_
      exact ⟨.inr rfl, _, (.cons (by first | exact .v (by ((repeat apply Look.there rfl); exact Look.here)) (.f (.v _)) | exact .v (by ((repeat apply Look.there rfl); exact Look.here)) (.row rfl rfl) | exact .v (by ((repeat apply Look.there rfl); exact Look.here)) (.f .nil) | exact .a (by ((repeat apply Look.there rfl); exact Look.here)) | skip) .nil), rfl⟩ -- LEAF 2: ret

def valid (t : Tri) : Bool := inR t.v && decide (area t.v > 0)
/-- frustum/edge.Valid -/
theorem c25 (t : Tri) : Fn Try.prog 25 [A t] (.one (B (valid t))) := by
  refine fnI Try.func25 Try.ntmps25 fun hb => ?_
  refine sg ?_
  refine bx _ ?_
  refine as_ ?_
  refine rNil ?_
  refine sg ?_
  first | refine ff ?_ | refine fb ?_ | refine fo ?_
  first | refine lAf ?_ | refine lAb ?_ | refine lAo ?_
  refine cl (c54 t.v) ?_
  refine mv ?_
  refine gd (fun h1 => ?_) (fun h1 => ?_)
  ·
    first | refine ff ?_ | refine fb ?_ | refine fo ?_
    first | refine lAf ?_ | refine lAb ?_ | refine lAo ?_
    refine cl (c39 t.v) ?_
    refine bo (hz := by exact rfl) ?_
    refine pkT ?_
    refine as_ ?_
    refine rNil ?_
    refine awp_ret ?_
    exact ⟨.inr rfl, _, (.cons (by first | exact .v (by ((repeat apply Look.there rfl); exact Look.here)) (.f (.v _)) | exact .v (by ((repeat apply Look.there rfl); exact Look.here)) (.row rfl rfl) | exact .v (by ((repeat apply Look.there rfl); exact Look.here)) (.f .nil) | exact .a (by ((repeat apply Look.there rfl); exact Look.here)) | skip) .nil), oneB (by simp_all [valid])⟩ -- LEAF 1: ret
  ·
    refine no ?_
    refine no ?_
    refine no ?_
    refine no ?_
    refine pkF ?_
    refine as_ ?_
    refine rNil ?_
    refine awp_ret ?_
    exact ⟨.inr rfl, _, (.cons (by first | exact .v (by ((repeat apply Look.there rfl); exact Look.here)) (.f (.v _)) | exact .v (by ((repeat apply Look.there rfl); exact Look.here)) (.row rfl rfl) | exact .v (by ((repeat apply Look.there rfl); exact Look.here)) (.f .nil) | exact .a (by ((repeat apply Look.there rfl); exact Look.here)) | skip) .nil), oneB (by simp_all [valid])⟩ -- LEAF 2: ret

/-- frustum/frustumlaw44.corner -/
theorem c24 (x y : Int) : Fn Try.prog 24 [I x, I y] (.one (A (⟨x, y, 32768, 65536, []⟩ : V))) := by
  refine fnI Try.func24 Try.ntmps24 fun hb => ?_
  refine sg ?_
  refine al _ ?_
  refine rNil ?_
  refine sg ?_
  refine mv ?_
  refine mv ?_
  refine buS ?_
  refine buS ?_
  refine sA ?_
  refine rNil ?_
  refine awp_ret ?_
  exact ⟨.inr rfl, _, (.cons (resC (by ((repeat apply Look.there rfl); exact Look.here)) (by exact rfl) (by exact rfl) (by ((repeat (apply All2.cons; first | exact .f (.v _) | exact .row rfl (by first | exact rfl | simp) | exact .f .nil | exact .f (.fro rfl (by first | exact rfl | simp)))); exact All2.nil))) .nil), rfl⟩ -- LEAF 1: ret

abbrev plC (g : Nat → FV) (m : Int) (cw : Bool) (p : VP) : List FV := [g 0, g 1, g 2, g 3, g 4, g 5, g 6, g 7, g 8, g 9, g 10, g 11, g 12, g 13, g 14, g 15, g 16, g 17, g 18, g 19, g 20, g 21, g 22, g 23, g 24, g 25, g 26, .i .i64 m, .b cw, .i .i64 p.x, .i .i64 p.y, .i .i64 p.w, .i .i64 p.h, .i .i64 p.mn, .i .i64 p.mx, g 35, g 36, g 37, g 38, g 39, g 40, g 41, g 42, g 43, g 44, g 45, g 46, g 47, g 48, g 49, g 50, g 51, g 52, g 53, g 54, g 55, g 56, g 57, g 58, g 59, g 60, g 61]
abbrev plS (g : Nat → FV) (m : Int) (cw : Bool) (p : VP) : List Slot := [.r (.v (g 0)), .r (.v (g 1)), .r (.v (g 2)), .r (.v (g 3)), .r (.v (g 4)), .r (.v (g 5)), .r (.v (g 6)), .r (.v (g 7)), .r (.v (g 8)), .r (.v (g 9)), .r (.v (g 10)), .r (.v (g 11)), .r (.v (g 12)), .r (.v (g 13)), .r (.v (g 14)), .r (.v (g 15)), .r (.v (g 16)), .r (.v (g 17)), .r (.v (g 18)), .r (.v (g 19)), .r (.v (g 20)), .r (.v (g 21)), .r (.v (g 22)), .r (.v (g 23)), .r (.v (g 24)), .r (.v (g 25)), .r (.v (g 26)), .r (.v (.i .i64 m)), .r (.v (.b cw)), .r (.v (.i .i64 p.x)), .r (.v (.i .i64 p.y)), .r (.v (.i .i64 p.w)), .r (.v (.i .i64 p.h)), .r (.v (.i .i64 p.mn)), .r (.v (.i .i64 p.mx)), .r (.v (g 35)), .r (.v (g 36)), .r (.v (g 37)), .r (.v (g 38)), .r (.v (g 39)), .r (.v (g 40)), .r (.v (g 41)), .r (.v (g 42)), .r (.v (g 43)), .r (.v (g 44)), .r (.v (g 45)), .r (.v (g 46)), .r (.v (g 47)), .r (.v (g 48)), .r (.v (g 49)), .r (.v (g 50)), .r (.v (g 51)), .r (.v (g 52)), .r (.v (g 53)), .r (.v (g 54)), .r (.v (g 55)), .r (.v (g 56)), .r (.v (g 57)), .r (.v (g 58)), .r (.v (g 59)), .r (.v (g 60)), .r (.v (g 61))]
abbrev t3C (t : T3 V) : List Slot := [.r (I t.a.x), .r (I t.a.y), .r (I t.a.z), .r (I t.a.w), .r (.v (.sl (t.a.vs.map Enc.c))), .r (I t.b.x), .r (I t.b.y), .r (I t.b.z), .r (I t.b.w), .r (.v (.sl (t.b.vs.map Enc.c))), .r (I t.c.x), .r (I t.c.y), .r (I t.c.z), .r (I t.c.w), .r (.v (.sl (t.c.vs.map Enc.c)))]
def trT (p : VP) (c : T3 V) : T3 V := ⟨trF p c.a, trF p c.b, trF p c.c⟩
def scr1 (p : VP) (m : Int) (cw : Bool) (pr : Int) (c : T3 V) : List Tri := if keepF (area (trT p c)) m cw = true then [setF (trT p c) m cw pr] else []
def scrK (p : VP) (m : Int) (cw : Bool) (pr : Int) (l : List (T3 V)) (k : Nat) : List Tri := (l.take k).flatMap (scr1 p m cw pr)
def scrF (p : VP) (m : Int) (cw : Bool) (pr : Int) (t : T3 V) : List Tri := (clipF t).flatMap (scr1 p m cw pr)
theorem scrK_snoc {p : VP} {m : Int} {cw : Bool} {pr : Int} {l : List (T3 V)} {k : Nat} {c : T3 V} (h : l[k]? = some c) : scrK p m cw pr l (k + 1) = scrK p m cw pr l k ++ scr1 p m cw pr c := by
  rw [scrK, take_snoc h, List.flatMap_append]; simp [scrK]
theorem trT_few {p : VP} {c : T3 V} (h : FewT c) : FewT (trT p c) := ⟨trF_few p h.1, trF_few p h.2.1, trF_few p h.2.2⟩
set_option maxRecDepth 100000 in
set_option maxHeartbeats 2000000 in
/-- frustum/frontend.Screen -/
theorem c7 (g : Nat → FV) (m : Int) (cw : Bool) (p : VP) (t : T3 V) (pr : Int) (hf : FewT t) : Fn Try.prog 7 [.agg (plC g m cw p), A t, I pr] (.one (L (scrF p m cw pr t))) := by
  refine fnI Try.func7 Try.ntmps7 fun hb => ?_
  obtain ⟨hcl, hcf⟩ := clip_fine hf
  refine sg ?_
  refine bx _ ?_
  refine bx _ ?_
  refine as_ ?_
  refine rNil ?_
  refine sg ?_
  refine as_ ?_
  refine rNil ?_
  refine sq ?_
  refine sg ?_
  first | refine lAf ?_ | refine lAb ?_ | refine lAo ?_
  refine cl (c17 t hf) ?_
  first | refine lnM ?_ | refine ln ?_ | refine lnO ?_ | refine lnN ?_ | refine lnW ?_
  refine mv ?_
  refine rNil ?_
  refine bk ?_
  unfold scrF
  generalize clipF t = l at *
  refine adN 2 7 68 17 ?_
  refine lp (fun n S => ∃ (k o : Nat), n = l.length - k ∧ k ≤ l.length ∧ o = (scrK p m cw pr l k).length ∧ o ≤ k ∧ S = ⟨[(18, .r (I k)), (17, .r (I l.length)), (16, .r (L l)), (7, .own 2 o), (3, .box 0 0), (2, .r (I pr))], [.box 46 (plS g m cw p), .box 52 (t3C t), .row 68 17 ((scrK p m cw pr l k).map Enc.c)]⟩) l.length ?_ ?_
  · exact wx 3 ⟨0, 0, by omega, by omega, rfl, by omega, rfl⟩
  rintro n S ⟨k, o, hn, hk, ho, hok, rfl⟩
  have hrow : o = ((scrK p m cw pr l k).map Enc.c).length := by rw [List.length_map]; exact ho
  refine sg ?_
  refine bo (hz := by exact rfl) ?_
  refine rNil ?_
  refine sq ?_
  refine cn (fun h1 => ?_) (fun h1 => ?_)
  ·
    have hk1 : k < l.length := by simpa using h1
    obtain ⟨c, hc⟩ := ex_get hk1
    have hfc := hcf c (List.mem_of_getElem? hc)
    have hsn := scrK_snoc (p := p) (m := m) (cw := cw) (pr := pr) hc
    have hset := c19 (trT p c) m cw pr (trT_few hfc)
    generalize scrK p m cw pr l k = done at *
    have hca := c18 p c.a hfc.1
    have hcb := c18 p c.b hfc.2.1
    have hcc := c18 p c.c hfc.2.2
    refine awp_skip ?_
    refine tn ?_
    refine sq ?_
    refine bk ?_
    refine sg ?_
    first | refine xs_ ?_ | refine xo ?_ | refine xw ?_
    first | refine lAf ?_ | refine lAb ?_ | refine lAo ?_
    refine al _ ?_
    refine sA ?_
    refine rNil ?_
    refine sg ?_
    refine al _ ?_
    refine rNil ?_
    refine sq ?_
    refine sg ?_
    first | refine lAf ?_ | refine lAb ?_ | refine lAo ?_
    refine mv ?_
    refine rNil ?_
    refine bk ?_
    refine lu ?_
    refine lr ?_
    refine sg ?_
    refine bo (hz := by exact rfl) ?_
    refine rNil ?_
    refine sq ?_
    refine cn (fun h2 => ?_) (fun h2 => ?_)
    ·
      refine awp_skip ?_
      refine tn ?_
      refine sq ?_
      refine bk ?_
      refine sg ?_
      refine mv ?_
      refine ixA ?_
      refine al _ ?_
      refine as_ ?_
      refine sA ?_
      refine rNil ?_
      refine rg ?_
      refine mv ?_
      first | refine ff ?_ | refine fb ?_ | refine fo ?_
      first | refine lAf ?_ | refine lAb ?_ | refine lAo ?_
      first | refine lAf ?_ | refine lAb ?_ | refine lAo ?_
      first | refine cl hca ?_ | refine cl hcb ?_ | refine cl hcc ?_
      first | refine xf ?_ | refine xb ?_ | refine xoa ?_
      refine sA ?_
      refine rNil ?_
      refine bn_ ?_
      refine tn ?_
      refine rg ?_
      refine bo (hz := by first | exact bop_add (by omega) (by omega) | exact rfl) ?_
      refine mv ?_
      refine rNil ?_
      refine tn ?_
      refine lr ?_
      refine sg ?_
      refine bo (hz := by exact rfl) ?_
      refine rNil ?_
      refine sq ?_
      refine cn (fun h3 => ?_) (fun h3 => ?_)
      ·
        refine awp_skip ?_
        refine tn ?_
        refine sq ?_
        refine bk ?_
        refine sg ?_
        refine mv ?_
        refine ixA ?_
        refine al _ ?_
        refine as_ ?_
        refine sA ?_
        refine rNil ?_
        refine rg ?_
        refine mv ?_
        first | refine ff ?_ | refine fb ?_ | refine fo ?_
        first | refine lAf ?_ | refine lAb ?_ | refine lAo ?_
        first | refine lAf ?_ | refine lAb ?_ | refine lAo ?_
        first | refine cl hca ?_ | refine cl hcb ?_ | refine cl hcc ?_
        first | refine xf ?_ | refine xb ?_ | refine xoa ?_
        refine sA ?_
        refine rNil ?_
        refine bn_ ?_
        refine tn ?_
        refine rg ?_
        refine bo (hz := by first | exact bop_add (by omega) (by omega) | exact rfl) ?_
        refine mv ?_
        refine rNil ?_
        refine tn ?_
        refine lr ?_
        refine sg ?_
        refine bo (hz := by exact rfl) ?_
        refine rNil ?_
        refine sq ?_
        refine cn (fun h4 => ?_) (fun h4 => ?_)
        ·
          refine awp_skip ?_
          refine tn ?_
          refine sq ?_
          refine bk ?_
          refine sg ?_
          refine mv ?_
          refine ixA ?_
          refine al _ ?_
          refine as_ ?_
          refine sA ?_
          refine rNil ?_
          refine rg ?_
          refine mv ?_
          first | refine ff ?_ | refine fb ?_ | refine fo ?_
          first | refine lAf ?_ | refine lAb ?_ | refine lAo ?_
          first | refine lAf ?_ | refine lAb ?_ | refine lAo ?_
          first | refine cl hca ?_ | refine cl hcb ?_ | refine cl hcc ?_
          first | refine xf ?_ | refine xb ?_ | refine xoa ?_
          refine sA ?_
          refine rNil ?_
          refine bn_ ?_
          refine tn ?_
          refine rg ?_
          refine bo (hz := by first | exact bop_add (by omega) (by omega) | exact rfl) ?_
          refine mv ?_
          refine rNil ?_
          refine tn ?_
          refine lr ?_
          refine sg ?_
          refine bo (hz := by exact rfl) ?_
          refine rNil ?_
          refine sq ?_
          refine cn (fun h5 => ?_) (fun h5 => ?_)
          ·
            exact absurd h5 (by decide)
          ·
            refine awp_exit ?_
            refine te ?_
            refine te ?_
            refine xbk ?_
            refine tn ?_
            refine sg ?_
            first | refine lAf ?_ | refine lAb ?_ | refine lAo ?_
            first | refine ff ?_ | refine fb ?_ | refine fo ?_
            first | refine l1f ?_ | refine l1b ?_ | refine l1o ?_
            first | refine ff ?_ | refine fb ?_ | refine fo ?_
            first | refine l1f ?_ | refine l1b ?_ | refine l1o ?_
            refine mv ?_
            refine cl (hset) ?_
            refine mv ?_
            refine ex ?_
            refine ex ?_
            refine al _ ?_
            refine sA ?_
            refine as_ ?_
            refine rNil ?_
            refine sg ?_
            refine mv ?_
            refine rNil ?_
            refine cn (fun h6 => ?_) (fun h6 => ?_)
            ·
              have hs1 : scr1 p m cw pr c = [setF (trT p c) m cw pr] := if_pos h6
              refine rg ?_
              refine mv ?_
              first | refine lAf ?_ | refine lAb ?_ | refine lAo ?_
              refine bs ?_
              first | refine ap ?_ | refine (apN _) ?_
              refine as_ ?_
              refine rNil ?_
              refine bn_ ?_
              refine tn ?_
              refine rg ?_
              refine bo (hz := by first | exact bop_add (by omega) (by omega) | exact rfl) ?_
              refine mv ?_
              refine rNil ?_
              refine tn ?_
              exact ⟨l.length - (k + 1), by omega, wy 3 ⟨k + 1, o + 1, by omega, by omega, by rw [hsn, hs1, List.length_append, ← ho]; rfl, by omega, rfl⟩ (by rw [hsn, hs1, List.map_append]; rfl)⟩ -- LEAF 1: round of loop 1
            ·
              have hs1 : scr1 p m cw pr c = [] := if_neg (by rw [h6]; decide)
              refine awp_skip ?_
              refine bn_ ?_
              refine tn ?_
              refine rg ?_
              refine bo (hz := by first | exact bop_add (by omega) (by omega) | exact rfl) ?_
              refine mv ?_
              refine rNil ?_
              refine tn ?_
              exact ⟨l.length - (k + 1), by omega, wy 3 ⟨k + 1, o, by omega, by omega, by rw [hsn, hs1, List.append_nil, ← ho], by omega, rfl⟩ (by rw [hsn, hs1, List.append_nil]; rfl)⟩ -- LEAF 2: round of loop 1
        ·
          exact absurd h4 (by decide)
      ·
        exact absurd h3 (by decide)
    ·
      exact absurd h2 (by decide)
  ·
    refine awp_exit ?_
    refine te ?_
    refine te ?_
    refine xbk ?_
    refine tn ?_
    refine sg ?_
    refine mv ?_
    refine as_ ?_
    refine rNil ?_
    refine awp_ret ?_
    have hkk : k = l.length := by simp at h1; omega
    subst hkk
    have hall : scrK p m cw pr l l.length = l.flatMap (scr1 p m cw pr) := by rw [scrK, List.take_length]
    rw [hall] at hrow ⊢
    exact ⟨.inr rfl, _, .cons (.v (by ((repeat apply Look.there rfl); exact Look.here)) (.row rfl hrow)) .nil, rfl⟩ -- LEAF 3: ret

set_option maxRecDepth 100000 in
set_option maxHeartbeats 2000000 in
/-- frustum/frustumref44.Screen -/
theorem c8 (g : Nat → FV) (m : Int) (cw : Bool) (p : VP) (t : T3 V) (pr : Int) (hf : FewT t) : Fn Try.prog 8 [.agg (plC g m cw p), A t, I pr] (.one (L (scrF p m cw pr t))) := by
  refine fnI Try.func8 Try.ntmps8 fun hb => ?_
  obtain ⟨hcl, hcf⟩ := clip_fine hf
  refine sg ?_
  refine bx _ ?_
  refine bx _ ?_
  refine as_ ?_
  refine rNil ?_
  refine sg ?_
  refine (bsO _) ?_
  refine as_ ?_
  refine rNil ?_
  refine sg ?_
  first | refine lAf ?_ | refine lAb ?_ | refine lAo ?_
  refine cl (c20 t hf) ?_
  refine as_ ?_
  refine rNil ?_
  refine sq ?_
  refine sg ?_
  refine as_ ?_
  refine rNil ?_
  refine bk ?_
  unfold scrF
  generalize clipF t = l at *
  refine lp (fun n S => ∃ (k o : Nat), n = l.length - k ∧ k ≤ l.length ∧ o = (scrK p m cw pr l k).length ∧ o ≤ k ∧ S = ⟨[(9, .r (I k)), (8, .r (L l)), (7, .own 2 o), (3, .box 0 0), (2, .r (I pr))], [.box 46 (plS g m cw p), .box 52 (t3C t), .row 68 17 ((scrK p m cw pr l k).map Enc.c)]⟩) l.length ?_ ?_
  · exact wx 3 ⟨0, 0, by omega, by omega, rfl, by omega, rfl⟩
  rintro n S ⟨k, o, hn, hk, ho, hok, rfl⟩
  have hrow : o = ((scrK p m cw pr l k).map Enc.c).length := by rw [List.length_map]; exact ho
  refine sq ?_
  refine sg ?_
  refine mv ?_
  refine mv ?_
  first | refine lnM ?_ | refine ln ?_ | refine lnO ?_ | refine lnN ?_ | refine lnW ?_
  refine bo (hz := by exact rfl) ?_
  refine rNil ?_
  refine cn (fun h1 => ?_) (fun h1 => ?_)
  ·
    have hk1 : k < l.length := by simpa using h1
    obtain ⟨c, hc⟩ := ex_get hk1
    have hfc := hcf c (List.mem_of_getElem? hc)
    have hsn := scrK_snoc (p := p) (m := m) (cw := cw) (pr := pr) hc
    have hset := c22 (trT p c) m cw pr (trT_few hfc)
    generalize scrK p m cw pr l k = done at *
    have hca := c21 p c.a hfc.1
    have hcb := c21 p c.b hfc.2.1
    have hcc := c21 p c.c hfc.2.2
    refine awp_skip ?_
    refine tn ?_
    refine sq ?_
    refine bk ?_
    refine sg ?_
    refine buA ?_
    refine al _ ?_
    refine sA ?_
    refine rNil ?_
    refine sq ?_
    refine sg ?_
    refine as_ ?_
    refine rNil ?_
    refine bk ?_
    refine lu ?_
    refine lr ?_
    refine sq ?_
    refine sg ?_
    refine mv ?_
    refine bo (hz := by exact rfl) ?_
    refine rNil ?_
    refine cn (fun h2 => ?_) (fun h2 => ?_)
    ·
      refine awp_skip ?_
      refine tn ?_
      refine sq ?_
      refine bk ?_
      refine rd mixO ?_
      refine mv ?_
      first | refine ff ?_ | refine fb ?_ | refine fo ?_
      first | refine lAf ?_ | refine lAb ?_ | refine lAo ?_
      refine mv ?_
      refine mv ?_
      refine mv ?_
      first | refine xs_ ?_ | refine xo ?_ | refine xw ?_
      first | refine xf ?_ | refine xb ?_ | refine xoa ?_
      first | refine lAf ?_ | refine lAb ?_ | refine lAo ?_
      first | refine cl hca ?_ | refine cl hcb ?_ | refine cl hcc ?_
      first | refine xf ?_ | refine xb ?_ | refine xoa ?_
      refine sA ?_
      refine rNil ⟨rfl, ?_⟩
      refine bn_ ?_
      refine tn ?_
      refine rg ?_
      refine mv ?_
      refine bo (hz := by first | exact bop_add (by omega) (by omega) | exact rfl) ?_
      refine as_ ?_
      refine rNil ?_
      refine tn ?_
      refine lr ?_
      refine sq ?_
      refine sg ?_
      refine mv ?_
      refine bo (hz := by exact rfl) ?_
      refine rNil ?_
      refine cn (fun h3 => ?_) (fun h3 => ?_)
      ·
        refine awp_skip ?_
        refine tn ?_
        refine sq ?_
        refine bk ?_
        refine rd mixO ?_
        refine mv ?_
        first | refine ff ?_ | refine fb ?_ | refine fo ?_
        first | refine lAf ?_ | refine lAb ?_ | refine lAo ?_
        refine mv ?_
        refine mv ?_
        refine mv ?_
        first | refine xs_ ?_ | refine xo ?_ | refine xw ?_
        first | refine xf ?_ | refine xb ?_ | refine xoa ?_
        first | refine lAf ?_ | refine lAb ?_ | refine lAo ?_
        first | refine cl hca ?_ | refine cl hcb ?_ | refine cl hcc ?_
        first | refine xf ?_ | refine xb ?_ | refine xoa ?_
        refine sA ?_
        refine rNil ⟨rfl, ?_⟩
        refine bn_ ?_
        refine tn ?_
        refine rg ?_
        refine mv ?_
        refine bo (hz := by first | exact bop_add (by omega) (by omega) | exact rfl) ?_
        refine as_ ?_
        refine rNil ?_
        refine tn ?_
        refine lr ?_
        refine sq ?_
        refine sg ?_
        refine mv ?_
        refine bo (hz := by exact rfl) ?_
        refine rNil ?_
        refine cn (fun h4 => ?_) (fun h4 => ?_)
        ·
          refine awp_skip ?_
          refine tn ?_
          refine sq ?_
          refine bk ?_
          refine rd mixO ?_
          refine mv ?_
          first | refine ff ?_ | refine fb ?_ | refine fo ?_
          first | refine lAf ?_ | refine lAb ?_ | refine lAo ?_
          refine mv ?_
          refine mv ?_
          refine mv ?_
          first | refine xs_ ?_ | refine xo ?_ | refine xw ?_
          first | refine xf ?_ | refine xb ?_ | refine xoa ?_
          first | refine lAf ?_ | refine lAb ?_ | refine lAo ?_
          first | refine cl hca ?_ | refine cl hcb ?_ | refine cl hcc ?_
          first | refine xf ?_ | refine xb ?_ | refine xoa ?_
          refine sA ?_
          refine rNil ⟨rfl, ?_⟩
          refine bn_ ?_
          refine tn ?_
          refine rg ?_
          refine mv ?_
          refine bo (hz := by first | exact bop_add (by omega) (by omega) | exact rfl) ?_
          refine as_ ?_
          refine rNil ?_
          refine tn ?_
          refine lr ?_
          refine sq ?_
          refine sg ?_
          refine mv ?_
          refine bo (hz := by exact rfl) ?_
          refine rNil ?_
          refine cn (fun h5 => ?_) (fun h5 => ?_)
          ·
            exact absurd h5 (by decide)
          ·
            refine awp_exit ?_
            refine te ?_
            refine te ?_
            refine xbk ?_
            refine tn ?_
            refine sg ?_
            first | refine lAf ?_ | refine lAb ?_ | refine lAo ?_
            first | refine ff ?_ | refine fb ?_ | refine fo ?_
            first | refine l1f ?_ | refine l1b ?_ | refine l1o ?_
            first | refine ff ?_ | refine fb ?_ | refine fo ?_
            first | refine l1f ?_ | refine l1b ?_ | refine l1o ?_
            refine mv ?_
            refine cl (hset) ?_
            refine mv ?_
            refine ex ?_
            refine ex ?_
            refine al _ ?_
            refine sA ?_
            refine as_ ?_
            refine rNil ?_
            refine sg ?_
            refine mv ?_
            refine rNil ?_
            refine cn (fun h6 => ?_) (fun h6 => ?_)
            ·
              have hs1 : scr1 p m cw pr c = [setF (trT p c) m cw pr] := if_pos h6
              refine rg ?_
              refine mv ?_
              first | refine lAf ?_ | refine lAb ?_ | refine lAo ?_
              refine bs ?_
              first | refine ap ?_ | refine (apN _) ?_
              refine as_ ?_
              refine rNil ?_
              refine bn_ ?_
              refine tn ?_
              refine rg ?_
              refine mv ?_
              refine bo (hz := by first | exact bop_add (by omega) (by omega) | exact rfl) ?_
              refine as_ ?_
              refine rNil ?_
              refine tn ?_
              exact ⟨l.length - (k + 1), by omega, wy 3 ⟨k + 1, o + 1, by omega, by omega, by rw [hsn, hs1, List.length_append, ← ho]; rfl, by omega, rfl⟩ (by rw [hsn, hs1, List.map_append]; rfl)⟩ -- LEAF 1: round of loop 1
            ·
              have hs1 : scr1 p m cw pr c = [] := if_neg (by rw [h6]; decide)
              refine awp_skip ?_
              refine bn_ ?_
              refine tn ?_
              refine rg ?_
              refine mv ?_
              refine bo (hz := by first | exact bop_add (by omega) (by omega) | exact rfl) ?_
              refine as_ ?_
              refine rNil ?_
              refine tn ?_
              exact ⟨l.length - (k + 1), by omega, wy 3 ⟨k + 1, o, by omega, by omega, by rw [hsn, hs1, List.append_nil, ← ho], by omega, rfl⟩ (by rw [hsn, hs1, List.append_nil]; rfl)⟩ -- LEAF 2: round of loop 1
        ·
          exact absurd h4 (by decide)
      ·
        exact absurd h3 (by decide)
    ·
      exact absurd h2 (by decide)
  ·
    refine awp_exit ?_
    refine te ?_
    refine te ?_
    refine xbk ?_
    refine tn ?_
    refine sg ?_
    refine mv ?_
    refine as_ ?_
    refine rNil ?_
    refine awp_ret ?_
    have hkk : k = l.length := by simp at h1; omega
    subst hkk
    have hall : scrK p m cw pr l l.length = l.flatMap (scr1 p m cw pr) := by rw [scrK, List.take_length]
    rw [hall] at hrow ⊢
    exact ⟨.inr rfl, _, .cons (.v (by ((repeat apply Look.there rfl); exact Look.here)) (.row rfl hrow)) .nil, rfl⟩ -- LEAF 3: ret

end Go.Proofs.Ytlmecogidnbpjaa.VS
