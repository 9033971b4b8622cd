/- The walks of functions: what each computes, by itself. Conditions: none. -/
import Derived.Test.YtlmecogidnbpjaaF11
import Derived.Test.YtlmecogidnbpjaaLP
import Derived.Test.YtlmecogidnbpjaaSH
set_option linter.unusedVariables false
set_option linter.unusedSimpArgs false
namespace Go.Proofs.Ytlmecogidnbpjaa.VS
open Go
/-- frustum/viewport.Equal -/
theorem c28 (a b : V) : Fn Try.prog 28 [A a, A b] (.one (B (eqS a b))) := by
  refine fnI Try.func28 Try.ntmps28 fun hb => ?_
  refine sg ?_
  refine bx _ ?_
  refine bx _ ?_
  refine as_ ?_
  refine rNil ?_
  refine sg ?_
  first | refine ff ?_ | refine fb ?_ | refine fo ?_
  first | refine l1f ?_ | refine l1b ?_ | refine l1o ?_
  first | refine ff ?_ | refine fb ?_ | refine fo ?_
  first | refine l1f ?_ | refine l1b ?_ | refine l1o ?_
  refine bo (hz := by exact rfl) ?_
  refine mv ?_
  refine gd (fun h1 => ?_) (fun h1 => ?_)
  ·
    first | refine ff ?_ | refine fb ?_ | refine fo ?_
    first | refine l1f ?_ | refine l1b ?_ | refine l1o ?_
    first | refine ff ?_ | refine fb ?_ | refine fo ?_
    first | refine l1f ?_ | refine l1b ?_ | refine l1o ?_
    refine bo (hz := by exact rfl) ?_
    refine pkT ?_
    refine mv ?_
    refine gd (fun h2 => ?_) (fun h2 => ?_)
    ·
      first | refine ff ?_ | refine fb ?_ | refine fo ?_
      first | refine l1f ?_ | refine l1b ?_ | refine l1o ?_
      first | refine ff ?_ | refine fb ?_ | refine fo ?_
      first | refine l1f ?_ | refine l1b ?_ | refine l1o ?_
      refine bo (hz := by exact rfl) ?_
      refine pkT ?_
      refine mv ?_
      refine gd (fun h3 => ?_) (fun h3 => ?_)
      ·
        first | refine ff ?_ | refine fb ?_ | refine fo ?_
        first | refine l1f ?_ | refine l1b ?_ | refine l1o ?_
        first | refine ff ?_ | refine fb ?_ | refine fo ?_
        first | refine l1f ?_ | refine l1b ?_ | refine l1o ?_
        refine bo (hz := by exact rfl) ?_
        refine pkT ?_
        refine mv ?_
        refine gd (fun h4 => ?_) (fun h4 => ?_)
        ·
          first | refine ff ?_ | refine fb ?_ | refine fo ?_
          first | refine l1f ?_ | refine l1b ?_ | refine l1o ?_
          first | refine ff ?_ | refine fb ?_ | refine fo ?_
          first | refine l1f ?_ | refine l1b ?_ | refine l1o ?_
          refine cl (c59 a.vs b.vs) ?_
          refine pkT ?_
          refine as_ ?_
          refine rNil ?_
          refine awp_ret ?_
          exact ⟨.inr rfl, _, (.cons (by first | exact .v (by ((repeat apply Look.there rfl); exact Look.here)) (.f (.v _)) | exact .v (by ((repeat apply Look.there rfl); exact Look.here)) (.row rfl rfl) | exact .v (by ((repeat apply Look.there rfl); exact Look.here)) (.f .nil) | exact .a (by ((repeat apply Look.there rfl); exact Look.here)) | skip) .nil), oneB (by simp only [eqS, *, Bool.true_and, Bool.false_and])⟩ -- LEAF 1: ret
        ·
          refine no ?_
          refine no ?_
          refine no ?_
          refine no ?_
          refine no ?_
          refine pkF ?_
          refine as_ ?_
          refine rNil ?_
          refine awp_ret ?_
          exact ⟨.inr rfl, _, (.cons (by first | exact .v (by ((repeat apply Look.there rfl); exact Look.here)) (.f (.v _)) | exact .v (by ((repeat apply Look.there rfl); exact Look.here)) (.row rfl rfl) | exact .v (by ((repeat apply Look.there rfl); exact Look.here)) (.f .nil) | exact .a (by ((repeat apply Look.there rfl); exact Look.here)) | skip) .nil), oneB (by simp only [eqS, *, Bool.true_and, Bool.false_and])⟩ -- LEAF 2: ret
      ·
        refine no ?_
        refine no ?_
        refine no ?_
        refine no ?_
        refine no ?_
        refine pkF ?_
        refine mv ?_
        refine no ?_
        refine no ?_
        refine no ?_
        refine no ?_
        refine no ?_
        refine pkF ?_
        refine as_ ?_
        refine rNil ?_
        refine awp_ret ?_
        exact ⟨.inr rfl, _, (.cons (by first | exact .v (by ((repeat apply Look.there rfl); exact Look.here)) (.f (.v _)) | exact .v (by ((repeat apply Look.there rfl); exact Look.here)) (.row rfl rfl) | exact .v (by ((repeat apply Look.there rfl); exact Look.here)) (.f .nil) | exact .a (by ((repeat apply Look.there rfl); exact Look.here)) | skip) .nil), oneB (by simp only [eqS, *, Bool.true_and, Bool.false_and])⟩ -- LEAF 3: ret
    ·
      refine no ?_
      refine no ?_
      refine no ?_
      refine no ?_
      refine no ?_
      refine pkF ?_
      refine mv ?_
      refine no ?_
      refine no ?_
      refine no ?_
      refine no ?_
      refine no ?_
      refine pkF ?_
      refine mv ?_
      refine no ?_
      refine no ?_
      refine no ?_
      refine no ?_
      refine no ?_
      refine pkF ?_
      refine as_ ?_
      refine rNil ?_
      refine awp_ret ?_
      exact ⟨.inr rfl, _, (.cons (by first | exact .v (by ((repeat apply Look.there rfl); exact Look.here)) (.f (.v _)) | exact .v (by ((repeat apply Look.there rfl); exact Look.here)) (.row rfl rfl) | exact .v (by ((repeat apply Look.there rfl); exact Look.here)) (.f .nil) | exact .a (by ((repeat apply Look.there rfl); exact Look.here)) | skip) .nil), oneB (by simp only [eqS, *, Bool.true_and, Bool.false_and])⟩ -- LEAF 4: ret
  ·
    refine no ?_
    refine no ?_
    refine no ?_
    refine no ?_
    refine no ?_
    refine pkF ?_
    refine mv ?_
    refine no ?_
    refine no ?_
    refine no ?_
    refine no ?_
    refine no ?_
    refine pkF ?_
    refine mv ?_
    refine no ?_
    refine no ?_
    refine no ?_
    refine no ?_
    refine no ?_
    refine pkF ?_
    refine mv ?_
    refine no ?_
    refine no ?_
    refine no ?_
    refine no ?_
    refine no ?_
    refine pkF ?_
    refine as_ ?_
    refine rNil ?_
    refine awp_ret ?_
    exact ⟨.inr rfl, _, (.cons (by first | exact .v (by ((repeat apply Look.there rfl); exact Look.here)) (.f (.v _)) | exact .v (by ((repeat apply Look.there rfl); exact Look.here)) (.row rfl rfl) | exact .v (by ((repeat apply Look.there rfl); exact Look.here)) (.f .nil) | exact .a (by ((repeat apply Look.there rfl); exact Look.here)) | skip) .nil), oneB (by simp only [eqS, *, Bool.true_and, Bool.false_and])⟩ -- LEAF 5: ret

/-- frustum/frontend.EqualTriangle -/
theorem c13 (a b : Tri) : Fn Try.prog 13 [A a, A b] (.one (B (eqT a b))) := by
  refine fnI Try.func13 Try.ntmps13 fun hb => ?_
  refine sg ?_
  refine bx _ ?_
  refine bx _ ?_
  refine as_ ?_
  refine rNil ?_
  refine sq ?_
  refine sg ?_
  refine mv ?_
  refine rNil ?_
  refine bk ?_
  refine lu ?_
  refine lr ?_
  refine sg ?_
  refine bo (hz := by exact rfl) ?_
  refine rNil ?_
  refine sq ?_
  refine cn (fun h1 => ?_) (fun h1 => ?_)
  ·
    refine awp_skip ?_
    refine tn ?_
    refine sq ?_
    refine bk ?_
    refine sg ?_
    refine mv ?_
    refine as_ ?_
    refine rNil ?_
    refine sd mixO ?_
    refine mv ?_
    first | refine ff ?_ | refine fb ?_ | refine fo ?_
    first | refine xf ?_ | refine xb ?_ | refine xoa ?_
    first | refine lAf ?_ | refine lAb ?_ | refine lAo ?_
    refine mv ?_
    first | refine ff ?_ | refine fb ?_ | refine fo ?_
    first | refine xf ?_ | refine xb ?_ | refine xoa ?_
    first | refine lAf ?_ | refine lAb ?_ | refine lAo ?_
    first | refine cl (c28 a.v.a b.v.a) ?_ | refine cl (c28 a.v.b b.v.b) ?_ | refine cl (c28 a.v.c b.v.c) ?_
    refine nt ?_
    refine rNil ⟨rfl, ?_⟩
    refine cn (fun h2 => ?_) (fun h2 => ?_)
    ·
      refine sg ?_
      refine as_ ?_
      refine rNil ?_
      refine awp_ret ?_
      refine br ?_
      refine tr ?_
      refine tr ?_
      refine br ?_
      refine tr ?_
      exact ⟨.inr rfl, _, (.cons (by first | exact .v (by ((repeat apply Look.there rfl); exact Look.here)) (.f (.v _)) | exact .v (by ((repeat apply Look.there rfl); exact Look.here)) (.row rfl rfl) | exact .v (by ((repeat apply Look.there rfl); exact Look.here)) (.f .nil) | exact .a (by ((repeat apply Look.there rfl); exact Look.here)) | skip) .nil), oneB (by simp only [Bool.not_eq_true', Bool.not_eq_false'] at *; simp only [eqT, *, Bool.true_and, Bool.and_true, Bool.false_and, Bool.and_false])⟩ -- LEAF 1: ret
    ·
      refine awp_skip ?_
      refine bn_ ?_
      refine tn ?_
      refine rg ?_
      refine bo (hz := by first | exact bop_add (by omega) (by omega) | exact rfl) ?_
      refine mv ?_
      refine rNil ?_
      refine tn ?_
      refine lr ?_
      refine sg ?_
      refine bo (hz := by exact rfl) ?_
      refine rNil ?_
      refine sq ?_
      refine cn (fun h3 => ?_) (fun h3 => ?_)
      ·
        refine awp_skip ?_
        refine tn ?_
        refine sq ?_
        refine bk ?_
        refine sg ?_
        refine mv ?_
        refine as_ ?_
        refine rNil ?_
        refine sd mixO ?_
        refine mv ?_
        first | refine ff ?_ | refine fb ?_ | refine fo ?_
        first | refine xf ?_ | refine xb ?_ | refine xoa ?_
        first | refine lAf ?_ | refine lAb ?_ | refine lAo ?_
        refine mv ?_
        first | refine ff ?_ | refine fb ?_ | refine fo ?_
        first | refine xf ?_ | refine xb ?_ | refine xoa ?_
        first | refine lAf ?_ | refine lAb ?_ | refine lAo ?_
        first | refine cl (c28 a.v.a b.v.a) ?_ | refine cl (c28 a.v.b b.v.b) ?_ | refine cl (c28 a.v.c b.v.c) ?_
        refine nt ?_
        refine rNil ⟨rfl, ?_⟩
        refine cn (fun h4 => ?_) (fun h4 => ?_)
        ·
          refine sg ?_
          refine as_ ?_
          refine rNil ?_
          refine awp_ret ?_
          refine br ?_
          refine tr ?_
          refine tr ?_
          refine br ?_
          refine tr ?_
          exact ⟨.inr rfl, _, (.cons (by first | exact .v (by ((repeat apply Look.there rfl); exact Look.here)) (.f (.v _)) | exact .v (by ((repeat apply Look.there rfl); exact Look.here)) (.row rfl rfl) | exact .v (by ((repeat apply Look.there rfl); exact Look.here)) (.f .nil) | exact .a (by ((repeat apply Look.there rfl); exact Look.here)) | skip) .nil), oneB (by simp only [Bool.not_eq_true', Bool.not_eq_false'] at *; simp only [eqT, *, Bool.true_and, Bool.and_true, Bool.false_and, Bool.and_false])⟩ -- LEAF 2: ret
        ·
          refine awp_skip ?_
          refine bn_ ?_
          refine tn ?_
          refine rg ?_
          refine bo (hz := by first | exact bop_add (by omega) (by omega) | exact rfl) ?_
          refine mv ?_
          refine rNil ?_
          refine tn ?_
          refine lr ?_
          refine sg ?_
          refine bo (hz := by exact rfl) ?_
          refine rNil ?_
          refine sq ?_
          refine cn (fun h5 => ?_) (fun h5 => ?_)
          ·
            refine awp_skip ?_
            refine tn ?_
            refine sq ?_
            refine bk ?_
            refine sg ?_
            refine mv ?_
            refine as_ ?_
            refine rNil ?_
            refine sd mixO ?_
            refine mv ?_
            first | refine ff ?_ | refine fb ?_ | refine fo ?_
            first | refine xf ?_ | refine xb ?_ | refine xoa ?_
            first | refine lAf ?_ | refine lAb ?_ | refine lAo ?_
            refine mv ?_
            first | refine ff ?_ | refine fb ?_ | refine fo ?_
            first | refine xf ?_ | refine xb ?_ | refine xoa ?_
            first | refine lAf ?_ | refine lAb ?_ | refine lAo ?_
            first | refine cl (c28 a.v.a b.v.a) ?_ | refine cl (c28 a.v.b b.v.b) ?_ | refine cl (c28 a.v.c b.v.c) ?_
            refine nt ?_
            refine rNil ⟨rfl, ?_⟩
            refine cn (fun h6 => ?_) (fun h6 => ?_)
            ·
              refine sg ?_
              refine as_ ?_
              refine rNil ?_
              refine awp_ret ?_
              refine br ?_
              refine tr ?_
              refine tr ?_
              refine br ?_
              refine tr ?_
              exact ⟨.inr rfl, _, (.cons (by first | exact .v (by ((repeat apply Look.there rfl); exact Look.here)) (.f (.v _)) | exact .v (by ((repeat apply Look.there rfl); exact Look.here)) (.row rfl rfl) | exact .v (by ((repeat apply Look.there rfl); exact Look.here)) (.f .nil) | exact .a (by ((repeat apply Look.there rfl); exact Look.here)) | skip) .nil), oneB (by simp only [Bool.not_eq_true', Bool.not_eq_false'] at *; simp only [eqT, *, Bool.true_and, Bool.and_true, Bool.false_and, Bool.and_false])⟩ -- LEAF 3: ret
            ·
              refine awp_skip ?_
              refine bn_ ?_
              refine tn ?_
              refine rg ?_
              refine bo (hz := by first | exact bop_add (by omega) (by omega) | exact rfl) ?_
              refine mv ?_
              refine rNil ?_
              refine tn ?_
              refine lr ?_
              refine sg ?_
              refine bo (hz := by exact rfl) ?_
              refine rNil ?_
              refine sq ?_
              refine cn (fun h7 => ?_) (fun h7 => ?_)
              ·
                exact absurd h7 (by decide)
              ·
                refine awp_exit ?_
                refine te ?_
                refine te ?_
                refine xbk ?_
                refine tn ?_
                refine sg ?_
                first | refine ff ?_ | refine fb ?_ | refine fo ?_
                first | refine l1f ?_ | refine l1b ?_ | refine l1o ?_
                first | refine ff ?_ | refine fb ?_ | refine fo ?_
                first | refine l1f ?_ | refine l1b ?_ | refine l1o ?_
                refine bo (hz := by exact rfl) ?_
                refine mv ?_
                refine gd (fun h8 => ?_) (fun h8 => ?_)
                ·
                  first | refine ff ?_ | refine fb ?_ | refine fo ?_
                  first | refine l1f ?_ | refine l1b ?_ | refine l1o ?_
                  first | refine ff ?_ | refine fb ?_ | refine fo ?_
                  first | refine l1f ?_ | refine l1b ?_ | refine l1o ?_
                  refine be ?_
                  refine pkT ?_
                  refine as_ ?_
                  refine rNil ?_
                  refine awp_ret ?_
                  exact ⟨.inr rfl, _, (.cons (by first | exact .v (by ((repeat apply Look.there rfl); exact Look.here)) (.f (.v _)) | exact .v (by ((repeat apply Look.there rfl); exact Look.here)) (.row rfl rfl) | exact .v (by ((repeat apply Look.there rfl); exact Look.here)) (.f .nil) | exact .a (by ((repeat apply Look.there rfl); exact Look.here)) | skip) .nil), oneB (by simp only [Bool.not_eq_true', Bool.not_eq_false'] at *; simp only [eqT, *, Bool.true_and, Bool.and_true, Bool.false_and, Bool.and_false])⟩ -- LEAF 4: ret
                ·
                  refine no ?_
                  refine no ?_
                  refine no ?_
                  refine no ?_
                  refine no ?_
                  refine pkF ?_
                  refine as_ ?_
                  refine rNil ?_
                  refine awp_ret ?_
                  exact ⟨.inr rfl, _, (.cons (by first | exact .v (by ((repeat apply Look.there rfl); exact Look.here)) (.f (.v _)) | exact .v (by ((repeat apply Look.there rfl); exact Look.here)) (.row rfl rfl) | exact .v (by ((repeat apply Look.there rfl); exact Look.here)) (.f .nil) | exact .a (by ((repeat apply Look.there rfl); exact Look.here)) | skip) .nil), oneB (by simp only [Bool.not_eq_true', Bool.not_eq_false'] at *; simp only [eqT, *, Bool.true_and, Bool.and_true, Bool.false_and, Bool.and_false])⟩ -- LEAF 5: ret
          ·
            exact absurd h5 (by decide)
      ·
        exact absurd h3 (by decide)
  ·
    exact absurd h1 (by decide)

def prims (l : List Tri) : List Int := l.map Tri.prim
@[simp] theorem prims_length (l : List Tri) : (prims l).length = l.length := by simp [prims]
theorem prims_at {l : List Tri} {k : Nat} {x : Tri} (h : l[k]? = some x) : (prims l)[k]? = some x.prim := by simp [prims, h]
theorem prims_snoc {l : List Tri} {k : Nat} {x : Tri} (h : l[k]? = some x) : (prims l).take (k + 1) = (prims l).take k ++ [x.prim] := by
  rw [List.take_add_one, prims_at h]; rfl
/-- frustum/frontend.Primitives -/
theorem c15e : Fn Try.prog 15 [L ([] : List Tri)] (.one (I 0)) := by
  refine fnI Try.func15 Try.ntmps15 fun hb => ?_
  refine sg ?_
  refine as_ ?_
  refine rNil ?_
  refine sg ?_
  refine as_ ?_
  refine rNil ?_
  refine sq ?_
  refine sg ?_
  refine mv ?_
  first | refine lnM ?_ | refine ln ?_ | refine lnO ?_ | refine lnN ?_ | refine lnW ?_
  refine mv ?_
  refine rNil ?_
  refine bk ?_
  refine lp (fun n S => n = 0 ∧ S = ⟨[(8, .r (I 0)), (7, .r (I 0)), (6, .r (L ([] : List Tri))), (3, .nil), (0, .r (L ([] : List Tri)))], []⟩) 0 ?_ ?_
  · exact wx 0 ⟨rfl, rfl⟩
  rintro n S ⟨hn, rfl⟩
  refine sg ?_
  refine bo (hz := by exact rfl) ?_
  refine rNil ?_
  refine sq ?_
  refine cn (fun h1 => ?_) (fun h1 => ?_)
  ·
    exact absurd h1 (by decide) -- END
  ·
    refine awp_exit ?_
    refine te ?_
    refine te ?_
    refine xbk ?_
    refine tn ?_
    refine sg ?_
    refine mv ?_
    refine cl (c30e) ?_
    refine rNil ?_
    refine sg ?_
    refine mv ?_
    refine cl (c31e) ?_
    first | refine lnM ?_ | refine ln ?_ | refine lnO ?_ | refine lnN ?_ | refine lnW ?_
    refine as_ ?_
    refine rNil ?_
    refine awp_ret ?_
    exact ⟨.inr rfl, _, (.cons (by first | exact .v (by ((repeat apply Look.there rfl); exact Look.here)) (.f (.v _)) | exact .v (by ((repeat apply Look.there rfl); exact Look.here)) (.row rfl rfl) | exact .v (by ((repeat apply Look.there rfl); exact Look.here)) (.f .nil) | exact .a (by ((repeat apply Look.there rfl); exact Look.here)) | skip) .nil), rfl⟩ -- LEAF 1: ret

/-- frustum/frontend.Primitives -/
theorem c15n (l : List Tri) (h0 : 0 < l.length) (hl62 : l.length ≤ 2000000000000) : Fn Try.prog 15 [L l] (.one (I (difs (prims l) l.length))) := by
  refine fnI Try.func15 Try.ntmps15 fun hb => ?_
  have hl := bd_L (f := Enc.c) (l := l) hb (by simp)
  refine sg ?_
  refine as_ ?_
  refine rNil ?_
  refine sg ?_
  refine as_ ?_
  refine rNil ?_
  refine sq ?_
  refine sg ?_
  refine mv ?_
  first | refine lnM ?_ | refine ln ?_ | refine lnO ?_ | refine lnN ?_ | refine lnW ?_
  refine mv ?_
  refine rNil ?_
  refine bk ?_
  refine adN 0 3 3 1 ?_
  refine lp (fun n S => ∃ (k m : Nat), n = l.length - k ∧ k ≤ l.length ∧ m = k ∧ S = ⟨[(8, .r (I k)), (7, .r (I l.length)), (6, .r (L l)), (3, .own 0 m), (0, .r (L l))], [.row 3 1 (((prims l).take k).map Enc.c)]⟩) l.length ?_ ?_
  · exact wx 1 ⟨0, 0, by omega, by omega, rfl, rfl⟩
  rintro n S ⟨k, m, hn, hk, hm, rfl⟩
  have hrow : m = (((prims l).take k).map Enc.c).length := by simp [hm]; omega
  refine sg ?_
  refine bo (hz := by exact rfl) ?_
  refine rNil ?_
  refine sq ?_
  refine cn (fun h1 => ?_) (fun h1 => ?_)
  ·
    have hk1 : k < l.length := by simp at h1; omega
    obtain ⟨x, hx⟩ := ex_get hk1
    have hsn := prims_snoc hx
    have hkl : ((prims l).take k).length = k := by simp; omega
    generalize (prims l).take k = done at *
    refine awp_skip ?_
    refine tn ?_
    refine sq ?_
    refine bk ?_
    refine sg ?_
    first | refine xs_ ?_ | refine xo ?_ | refine xw ?_
    first | refine lAf ?_ | refine lAb ?_ | refine lAo ?_
    refine al _ ?_
    refine sA ?_
    refine rNil ?_
    refine rg ?_
    refine mv ?_
    first | refine ff ?_ | refine fb ?_ | refine fo ?_
    first | refine l1f ?_ | refine l1b ?_ | refine l1o ?_
    refine bs ?_
    first | refine ap ?_ | refine (apN _) ?_
    refine as_ ?_
    refine rNil ?_
    refine bn_ ?_
    refine tn ?_
    refine rg ?_
    refine bo (hz := by first | exact bop_add (by omega) (by omega) | exact rfl) ?_
    refine mv ?_
    refine rNil ?_
    refine tn ?_
    exact ⟨l.length - (k + 1), by omega, wy 1 ⟨k + 1, m + 1, by omega, by omega, by omega, rfl⟩ (by rw [hsn, List.map_append]; rfl)⟩ -- LEAF 1: round of loop 1
  ·
    have hkk : k = l.length := by simp at h1; omega
    subst hkk
    have hm' : m = (prims l).length := by simp [hm]
    subst hm'
    rw [show (prims l).take l.length = prims l from List.take_of_length_le (by simp)]
    have hpl := prims_len (prims l)
    have hq : 0 < (prims l).length := by simpa using h0
    have hq2 : (prims l).length < 4611686018427387904 := by simp; omega
    refine awp_exit ?_
    refine te ?_
    refine te ?_
    refine xbk ?_
    refine tn ?_
    refine sg ?_
    refine mv ?_
    refine srtR 0 sortC hq hq2 ?_
    refine rNil ?_
    refine sg ?_
    refine mv ?_
    refine cmpR 0 (zs := srt (prims l)) compC (by simpa [srt] using hq) (by simp [srt]; omega) ?_
    first | refine lnM ?_ | refine ln ?_ | refine lnO ?_ | refine lnN ?_ | refine lnW ?_
    refine as_ ?_
    refine rNil ?_
    refine awp_ret ?_
    exact ⟨.inr rfl, _, (.cons (by first | exact .v (by ((repeat apply Look.there rfl); exact Look.here)) (.f (.v _)) | exact .v (by ((repeat apply Look.there rfl); exact Look.here)) (.row rfl rfl) | exact .v (by ((repeat apply Look.there rfl); exact Look.here)) (.f .nil) | exact .a (by ((repeat apply Look.there rfl); exact Look.here)) | skip) .nil), oneI (by rw [hpl, prims_length])⟩ -- LEAF 2: ret

/-- frustum/frustumref44.Primitives -/
theorem c16 (l : List Tri) : Fn Try.prog 16 [L l] (.one (I (difs (prims l) l.length))) := by
  refine fnI Try.func16 Try.ntmps16 fun hb => ?_
  have hl := bd_L (f := Enc.c) (l := l) hb (by simp)
  refine sg ?_
  refine as_ ?_
  refine rNil ?_
  refine sg ?_
  refine as_ ?_
  refine rNil ?_
  refine sq ?_
  refine sg ?_
  refine as_ ?_
  refine rNil ?_
  refine bk ?_
  refine lp (fun n S => ∃ (k : Nat), n = l.length - k ∧ k ≤ l.length ∧ S = ⟨[(4, .r (I k)), (3, .r (I (difs (prims l) k))), (0, .r (L l))], []⟩) l.length ?_ ?_
  · exact wx 0 ⟨0, rfl, by omega, rfl⟩
  rintro n S ⟨k, hn, hk, rfl⟩
  have hdl := difs_le (prims l) k
  refine sq ?_
  refine sg ?_
  refine mv ?_
  refine mv ?_
  first | refine lnM ?_ | refine ln ?_ | refine lnO ?_ | refine lnN ?_ | refine lnW ?_
  refine bo (hz := by exact rfl) ?_
  refine rNil ?_
  refine cn (fun h1 => ?_) (fun h1 => ?_)
  ·
    have hk1 : k < l.length := by simp at h1; omega
    obtain ⟨x, hx⟩ := ex_get hk1
    have hds := difs_succ (prims_at hx)
    refine awp_skip ?_
    refine tn ?_
    refine sq ?_
    refine bk ?_
    refine sg ?_
    refine as_ ?_
    refine rNil ?_
    refine sq ?_
    refine sg ?_
    refine as_ ?_
    refine rNil ?_
    refine bk ?_
    refine lp (fun n' S => ∃ (j : Nat) (f : Bool), n' = k - j ∧ j ≤ k ∧ f = decide (x.prim ∈ (prims l).take j) ∧ S = ⟨[(6, .r (I j)), (5, .r (B f)), (4, .r (I k)), (3, .r (I (difs (prims l) k))), (0, .r (L l))], []⟩) k ?_ ?_
    · exact wx 0 ⟨0, false, rfl, by omega, by simp, rfl⟩
    rintro n' S ⟨j, f, hn', hj, hf, rfl⟩
    refine sq ?_
    refine sg ?_
    refine mv ?_
    refine mv ?_
    refine bo (hz := by exact rfl) ?_
    refine rNil ?_
    refine cn (fun h2 => ?_) (fun h2 => ?_)
    ·
      have hj1 : j < k := by simp at h2; omega
      obtain ⟨y, hy⟩ := ex_get (show j < l.length by omega)
      have hjs := prims_snoc hy
      refine awp_skip ?_
      refine tn ?_
      refine sq ?_
      refine bk ?_
      refine sd mixO ?_
      refine mv ?_
      refine mv ?_
      first | refine xs_ ?_ | refine xo ?_ | refine xw ?_
      first | refine ff ?_ | refine fb ?_ | refine fo ?_
      first | refine l1f ?_ | refine l1b ?_ | refine l1o ?_
      refine mv ?_
      refine mv ?_
      first | refine xs_ ?_ | refine xo ?_ | refine xw ?_
      first | refine ff ?_ | refine fb ?_ | refine fo ?_
      first | refine l1f ?_ | refine l1b ?_ | refine l1o ?_
      refine bo (hz := by exact rfl) ?_
      refine rNil ⟨rfl, ?_⟩
      refine cn (fun h3 => ?_) (fun h3 => ?_)
      ·
        refine rg ?_
        refine as_ ?_
        refine rNil ?_
        refine bn_ ?_
        refine tn ?_
        refine rg ?_
        refine mv ?_
        refine bo (hz := by first | exact bop_add (by omega) (by omega) | exact rfl) ?_
        refine as_ ?_
        refine rNil ?_
        refine tn ?_
        have e : y.prim = x.prim := by simpa using h3
        exact ⟨k - (j + 1), by omega, wx 0 ⟨j + 1, true, rfl, by omega, by rw [hjs, e]; simp, rfl⟩⟩ -- LEAF 1: round of loop 2
      ·
        refine awp_skip ?_
        refine bn_ ?_
        refine tn ?_
        refine rg ?_
        refine mv ?_
        refine bo (hz := by first | exact bop_add (by omega) (by omega) | exact rfl) ?_
        refine as_ ?_
        refine rNil ?_
        refine tn ?_
        have e : ¬ y.prim = x.prim := by simpa using h3
        exact ⟨k - (j + 1), by omega, wx 0 ⟨j + 1, f, rfl, by omega, by rw [hjs, hf]; apply decide_eq_decide.2; simp [show ¬ x.prim = y.prim from fun h => e h.symm], rfl⟩⟩ -- LEAF 2: round of loop 2
    ·
      have hjk : j = k := by simp at h2; omega
      subst hjk
      refine awp_exit ?_
      refine te ?_
      refine te ?_
      refine xbk ?_
      refine tn ?_
      refine sg ?_
      refine mv ?_
      refine nt ?_
      refine rNil ?_
      refine cn (fun h4 => ?_) (fun h4 => ?_)
      ·
        refine rg ?_
        refine mv ?_
        refine bo (hz := by first | exact bop_add (by omega) (by omega) | exact rfl) ?_
        refine as_ ?_
        refine rNil ?_
        refine bn_ ?_
        refine tn ?_
        refine rg ?_
        refine mv ?_
        refine bo (hz := by first | exact bop_add (by omega) (by omega) | exact rfl) ?_
        refine as_ ?_
        refine rNil ?_
        refine tn ?_
        have e : x.prim ∉ (prims l).take j := by simpa [hf] using h4
        rw [if_neg e] at hds
        exact ⟨l.length - (j + 1), by omega, wx 0 ⟨j + 1, rfl, by omega, by rw [hds]; rfl⟩⟩ -- LEAF 3: round of loop 1
      ·
        refine awp_skip ?_
        refine bn_ ?_
        refine tn ?_
        refine rg ?_
        refine mv ?_
        refine bo (hz := by first | exact bop_add (by omega) (by omega) | exact rfl) ?_
        refine as_ ?_
        refine rNil ?_
        refine tn ?_
        have e : x.prim ∈ (prims l).take j := by simpa [hf] using h4
        rw [if_pos e] at hds
        exact ⟨l.length - (j + 1), by omega, wx 0 ⟨j + 1, rfl, by omega, by rw [hds]; rfl⟩⟩ -- LEAF 4: round of loop 1
  ·
    have hkk : k = l.length := by simp at h1; omega
    subst hkk
    refine awp_exit ?_
    refine te ?_
    refine te ?_
    refine xbk ?_
    refine tn ?_
    refine sg ?_
    refine mv ?_
    refine as_ ?_
    refine rNil ?_
    refine awp_ret ?_
    exact ⟨.inr rfl, _, (.cons (by first | exact .v (by ((repeat apply Look.there rfl); exact Look.here)) (.f (.v _)) | exact .v (by ((repeat apply Look.there rfl); exact Look.here)) (.row rfl rfl) | exact .v (by ((repeat apply Look.there rfl); exact Look.here)) (.f .nil) | exact .a (by ((repeat apply Look.there rfl); exact Look.here)) | skip) .nil), rfl⟩ -- LEAF 5: ret

theorem c15 (l : List Tri) (h : l.length ≤ 2000000000000) : Fn Try.prog 15 [L l] (.one (I (difs (prims l) l.length))) := by
  cases l with
  | nil => exact c15e
  | cons x l => exact c15n _ (by simp) h
/-- frustum/frustumlaw44.FrontendLists -/
theorem c5 (l : List Tri) (hl62 : l.length ≤ 2000000000000) : Fn Try.prog 5 [L l] (.one (B true)) := by
  refine fnI Try.func5 Try.ntmps5 fun hb => ?_
  have hl := bd_L (f := Enc.c) (l := l) hb (by simp)
  refine sg ?_
  refine as_ ?_
  refine rNil ?_
  refine sq ?_
  refine sg ?_
  refine mv ?_
  first | refine lnM ?_ | refine ln ?_ | refine lnO ?_ | refine lnN ?_ | refine lnW ?_
  refine mv ?_
  refine rNil ?_
  refine bk ?_
  refine lp (fun n S => ∃ (k : Nat), n = l.length - k ∧ k ≤ l.length ∧ S = ⟨[(6, .r (I k)), (5, .r (I l.length)), (0, .r (L l))], []⟩) l.length ?_ ?_
  · exact wx 0 ⟨0, rfl, by omega, rfl⟩
  rintro n S ⟨k, hn, hk, rfl⟩
  refine sg ?_
  refine bo (hz := by exact rfl) ?_
  refine rNil ?_
  refine sq ?_
  refine cn (fun h1 => ?_) (fun h1 => ?_)
  ·
    have hk1 : k < l.length := by simp at h1; omega
    obtain ⟨x, hx⟩ := ex_get hk1
    obtain ⟨x0, hx0⟩ := ex_get (show 0 < l.length by omega)
    refine awp_skip ?_
    refine tn ?_
    refine sq ?_
    refine bk ?_
    refine sg ?_
    refine mv ?_
    refine as_ ?_
    refine rNil ?_
    refine sd mixO ?_
    refine mv ?_
    first | refine xs_ ?_ | refine xo ?_ | refine xw ?_
    first | refine lAf ?_ | refine lAb ?_ | refine lAo ?_
    refine mv ?_
    refine mv ?_
    first | refine xs_ ?_ | refine xo ?_ | refine xw ?_
    first | refine lAf ?_ | refine lAb ?_ | refine lAo ?_
    refine cl (c13 x0 x) ?_
    refine mv ?_
    first | refine xs_ ?_ | refine xo ?_ | refine xw ?_
    first | refine lAf ?_ | refine lAb ?_ | refine lAo ?_
    refine mv ?_
    refine mv ?_
    first | refine xs_ ?_ | refine xo ?_ | refine xw ?_
    first | refine lAf ?_ | refine lAb ?_ | refine lAo ?_
    refine cl (c14 x0 x) ?_
    refine bn ?_
    refine mv ?_
    refine gd (fun h2 => ?_) (fun h2 => ?_)
    ·
      simp at h2 -- END
    ·
      refine mv ?_
      refine mv ?_
      first | refine xs_ ?_ | refine xo ?_ | refine xw ?_
      first | refine lAf ?_ | refine lAb ?_ | refine lAo ?_
      refine mv ?_
      refine mv ?_
      first | refine xs_ ?_ | refine xo ?_ | refine xw ?_
      first | refine lAf ?_ | refine lAb ?_ | refine lAo ?_
      refine cl (c13 x x) ?_
      refine nt ?_
      refine pkF ?_
      refine rNil ⟨rfl, ?_⟩
      refine cn (fun h3 => ?_) (fun h3 => ?_)
      ·
        simp [eqT_refl] at h3 -- END
      ·
        refine awp_skip ?_
        refine bn_ ?_
        refine tn ?_
        refine rg ?_
        refine bo (hz := by first | exact bop_add (by omega) (by omega) | exact rfl) ?_
        refine mv ?_
        refine rNil ?_
        refine tn ?_
        exact ⟨l.length - (k + 1), by omega, wx 0 ⟨k + 1, rfl, by omega, rfl⟩⟩ -- LEAF 1: round of loop 1
  ·
    refine awp_exit ?_
    refine te ?_
    refine te ?_
    refine xbk ?_
    refine tn ?_
    refine sg ?_
    refine mv ?_
    refine cl (c15 l hl62) ?_
    refine mv ?_
    refine cl (c16 l) ?_
    refine bo (hz := by exact rfl) ?_
    refine mv ?_
    refine gd (fun h4 => ?_) (fun h4 => ?_)
    ·
      refine cl (c9) ?_
      refine pkT ?_
      refine as_ ?_
      refine rNil ?_
      refine awp_ret ?_
      exact ⟨.inr rfl, _, (.cons (by first | exact .v (by ((repeat apply Look.there rfl); exact Look.here)) (.f (.v _)) | exact .v (by ((repeat apply Look.there rfl); exact Look.here)) (.row rfl rfl) | exact .v (by ((repeat apply Look.there rfl); exact Look.here)) (.f .nil) | exact .a (by ((repeat apply Look.there rfl); exact Look.here)) | skip) .nil), rfl⟩ -- LEAF 2: ret
    ·
      simp at h4 -- END

end Go.Proofs.Ytlmecogidnbpjaa.VS
