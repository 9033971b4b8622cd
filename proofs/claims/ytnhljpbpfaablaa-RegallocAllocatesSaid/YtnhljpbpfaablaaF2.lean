/- The walks of functions: what each computes, by itself. Conditions: none. -/
import Derived.Test.YtnhljpbpfaablaaF1
set_option linter.unusedVariables false
set_option linter.unusedSimpArgs false
namespace Go.Proofs.Ytnhljpbpfaablaa.VS
open Go
def rgsF (x : Ins) : List FV := [.i .i64 x.dst, .b (dF x.op), .i .i64 x.a, .b (aF x.op), .i .i64 x.b, .b (bF x.op), .i .i64 x.c, .b (cF x.op)]
/-- frustum/isa.registers -/
theorem c53 (x : Ins) : Fn Try.prog 53 [A x] (.one (.agg (rgsF x))) := by
  refine fnI Try.func53 Try.ntmps53 fun hb => ?_
  refine sg ?_
  refine bx _ ?_
  refine al _ ?_
  refine rNil ?_
  refine sg ?_
  first | refine ff ?_ | refine fb ?_ | refine fo ?_
  first | refine l1f ?_ | refine l1b ?_ | refine l1o ?_
  refine cl (c41 x.op) ?_
  refine mv ?_
  refine ex ?_
  refine ex ?_
  refine ex ?_
  refine ex ?_
  refine ex ?_
  refine as_ ?_
  refine as_ ?_
  refine as_ ?_
  refine as_ ?_
  refine as_ ?_
  refine rNil ?_
  refine sg ?_
  first | refine ff ?_ | refine fb ?_ | refine fo ?_
  first | refine l1f ?_ | refine l1b ?_ | refine l1o ?_
  refine mv ?_
  refine buS ?_
  first | refine ff ?_ | refine fb ?_ | refine fo ?_
  first | refine l1f ?_ | refine l1b ?_ | refine l1o ?_
  refine mv ?_
  refine buS ?_
  first | refine ff ?_ | refine fb ?_ | refine fo ?_
  first | refine l1f ?_ | refine l1b ?_ | refine l1o ?_
  refine mv ?_
  refine buS ?_
  first | refine ff ?_ | refine fb ?_ | refine fo ?_
  first | refine l1f ?_ | refine l1b ?_ | refine l1o ?_
  refine mv ?_
  refine buS ?_
  refine buA ?_
  refine sA ?_
  refine rNil ?_
  refine awp_ret ?_
  exact ⟨.inr rfl, _, (.cons (resC (by ((repeat apply Look.there rfl); exact Look.here)) (by exact rfl) (by exact rfl) (by ((repeat (apply All2.cons; first | exact .f (.v _) | exact .row rfl (by first | exact rfl | simp) | exact .f .nil | exact .f (.fro rfl (by first | exact rfl | simp)))); exact All2.nil))) .nil), rfl⟩ -- LEAF 1: ret

def usesF (x : Ins) : List Int := (if aF x.op = true then [x.a] else []) ++ ((if bF x.op = true then [x.b] else []) ++ (if cF x.op = true then [x.c] else []))
def dstF (x : Ins) : Int := if dF x.op = true then x.dst else -1
/-- frustum/isa.Uses -/
theorem c43 (x : Ins) : Fn Try.prog 43 [A x] (.one (L (usesF x))) := by
  refine fnI Try.func43 Try.ntmps43 fun hb => ?_
  refine sg ?_
  refine bx _ ?_
  refine as_ ?_
  refine rNil ?_
  refine sg ?_
  refine as_ ?_
  refine rNil ?_
  refine sg ?_
  first | refine lAf ?_ | refine lAb ?_ | refine lAo ?_
  refine cl (c53 x) ?_
  refine al _ ?_
  refine sA ?_
  refine rNil ?_
  refine sq ?_
  refine sg ?_
  refine (slA 1) ?_
  first | refine lnM ?_ | refine ln ?_ | refine lnO ?_ | refine lnN ?_ | refine lnW ?_ | refine lnS ?_
  refine mv ?_
  refine rNil ?_
  refine bk ?_
  refine adN 2 3 3 1 ?_
  refine lu ?_
  refine lr ?_
  refine sg ?_
  refine bo (hz := by exact rfl) ?_
  refine rNil ?_
  refine sq ?_
  refine cn (fun h1 => ?_) (fun h1 => ?_)
  ·
    refine awp_skip ?_
    refine tn ?_
    refine sq ?_
    refine bk ?_
    refine sg ?_
    first | refine xs_ ?_ | refine xo ?_ | refine xw ?_ | refine xsl ?_
    first | refine lAf ?_ | refine lAb ?_ | refine lAo ?_
    refine al _ ?_
    refine sA ?_
    refine rNil ?_
    refine sg ?_
    first | refine ff ?_ | refine fb ?_ | refine fo ?_
    first | refine l1f ?_ | refine l1b ?_ | refine l1o ?_
    refine rNil ?_
    refine cn (fun h2 => ?_) (fun h2 => ?_)
    ·
      refine rg ?_
      refine mv ?_
      first | refine ff ?_ | refine fb ?_ | refine fo ?_
      first | refine l1f ?_ | refine l1b ?_ | refine l1o ?_
      refine bs ?_
      first | refine ap ?_ | refine (apN _) ?_
      refine as_ ?_
      refine rNil ?_
      refine bn_ ?_
      refine tn ?_
      refine rg ?_
      refine bo (hz := by first | exact bop_add (by omega) (by omega) | exact rfl) ?_
      refine mv ?_
      refine rNil ?_
      refine tn ?_
      refine lr ?_
      refine sg ?_
      refine bo (hz := by exact rfl) ?_
      refine rNil ?_
      refine sq ?_
      refine cn (fun h3 => ?_) (fun h3 => ?_)
      ·
        refine awp_skip ?_
        refine tn ?_
        refine sq ?_
        refine bk ?_
        refine sg ?_
        first | refine xs_ ?_ | refine xo ?_ | refine xw ?_ | refine xsl ?_
        first | refine lAf ?_ | refine lAb ?_ | refine lAo ?_
        refine al _ ?_
        refine sA ?_
        refine rNil ?_
        refine sg ?_
        first | refine ff ?_ | refine fb ?_ | refine fo ?_
        first | refine l1f ?_ | refine l1b ?_ | refine l1o ?_
        refine rNil ?_
        refine cn (fun h4 => ?_) (fun h4 => ?_)
        ·
          refine rg ?_
          refine mv ?_
          first | refine ff ?_ | refine fb ?_ | refine fo ?_
          first | refine l1f ?_ | refine l1b ?_ | refine l1o ?_
          refine bs ?_
          first | refine ap ?_ | refine (apN _) ?_
          refine as_ ?_
          refine rNil ?_
          refine bn_ ?_
          refine tn ?_
          refine rg ?_
          refine bo (hz := by first | exact bop_add (by omega) (by omega) | exact rfl) ?_
          refine mv ?_
          refine rNil ?_
          refine tn ?_
          refine lr ?_
          refine sg ?_
          refine bo (hz := by exact rfl) ?_
          refine rNil ?_
          refine sq ?_
          refine cn (fun h5 => ?_) (fun h5 => ?_)
          ·
            refine awp_skip ?_
            refine tn ?_
            refine sq ?_
            refine bk ?_
            refine sg ?_
            first | refine xs_ ?_ | refine xo ?_ | refine xw ?_ | refine xsl ?_
            first | refine lAf ?_ | refine lAb ?_ | refine lAo ?_
            refine al _ ?_
            refine sA ?_
            refine rNil ?_
            refine sg ?_
            first | refine ff ?_ | refine fb ?_ | refine fo ?_
            first | refine l1f ?_ | refine l1b ?_ | refine l1o ?_
            refine rNil ?_
            refine cn (fun h6 => ?_) (fun h6 => ?_)
            ·
              refine rg ?_
              refine mv ?_
              first | refine ff ?_ | refine fb ?_ | refine fo ?_
              first | refine l1f ?_ | refine l1b ?_ | refine l1o ?_
              refine bs ?_
              first | refine ap ?_ | refine (apN _) ?_
              refine as_ ?_
              refine rNil ?_
              refine bn_ ?_
              refine tn ?_
              refine rg ?_
              refine bo (hz := by first | exact bop_add (by omega) (by omega) | exact rfl) ?_
              refine mv ?_
              refine rNil ?_
              refine tn ?_
              refine lr ?_
              refine sg ?_
              refine bo (hz := by exact rfl) ?_
              refine rNil ?_
              refine sq ?_
              refine cn (fun h7 => ?_) (fun h7 => ?_)
              ·
                exact absurd h7 (by decide)
              ·
                refine awp_exit ?_
                refine te ?_
                refine te ?_
                refine xbk ?_
                refine tn ?_
                refine sg ?_
                refine mv ?_
                refine as_ ?_
                refine rNil ?_
                refine awp_ret ?_
                exact ⟨.inr rfl, _, (.cons (by first | exact .v (by ((repeat apply Look.there rfl); exact Look.here)) (.f (.v _)) | exact .v (by ((repeat apply Look.there rfl); exact Look.here)) (.row rfl (by first | exact rfl | (simp; done) | (simp; omega))) | exact .v (by ((repeat apply Look.there rfl); exact Look.here)) (.f .nil) | exact .a (by ((repeat apply Look.there rfl); exact Look.here)) | skip) .nil), (by simp only [usesF, *, ↓reduceIte, Bool.false_eq_true]; rfl)⟩ -- LEAF 1: ret
            ·
              refine awp_skip ?_
              refine bn_ ?_
              refine tn ?_
              refine rg ?_
              refine bo (hz := by first | exact bop_add (by omega) (by omega) | exact rfl) ?_
              refine mv ?_
              refine rNil ?_
              refine tn ?_
              refine lr ?_
              refine sg ?_
              refine bo (hz := by exact rfl) ?_
              refine rNil ?_
              refine sq ?_
              refine cn (fun h8 => ?_) (fun h8 => ?_)
              ·
                exact absurd h8 (by decide)
              ·
                refine awp_exit ?_
                refine te ?_
                refine te ?_
                refine xbk ?_
                refine tn ?_
                refine sg ?_
                refine mv ?_
                refine as_ ?_
                refine rNil ?_
                refine awp_ret ?_
                exact ⟨.inr rfl, _, (.cons (by first | exact .v (by ((repeat apply Look.there rfl); exact Look.here)) (.f (.v _)) | exact .v (by ((repeat apply Look.there rfl); exact Look.here)) (.row rfl (by first | exact rfl | (simp; done) | (simp; omega))) | exact .v (by ((repeat apply Look.there rfl); exact Look.here)) (.f .nil) | exact .a (by ((repeat apply Look.there rfl); exact Look.here)) | skip) .nil), (by simp only [usesF, *, ↓reduceIte, Bool.false_eq_true]; rfl)⟩ -- LEAF 2: ret
          ·
            exact absurd h5 (by decide)
        ·
          refine awp_skip ?_
          refine bn_ ?_
          refine tn ?_
          refine rg ?_
          refine bo (hz := by first | exact bop_add (by omega) (by omega) | exact rfl) ?_
          refine mv ?_
          refine rNil ?_
          refine tn ?_
          refine lr ?_
          refine sg ?_
          refine bo (hz := by exact rfl) ?_
          refine rNil ?_
          refine sq ?_
          refine cn (fun h9 => ?_) (fun h9 => ?_)
          ·
            refine awp_skip ?_
            refine tn ?_
            refine sq ?_
            refine bk ?_
            refine sg ?_
            first | refine xs_ ?_ | refine xo ?_ | refine xw ?_ | refine xsl ?_
            first | refine lAf ?_ | refine lAb ?_ | refine lAo ?_
            refine al _ ?_
            refine sA ?_
            refine rNil ?_
            refine sg ?_
            first | refine ff ?_ | refine fb ?_ | refine fo ?_
            first | refine l1f ?_ | refine l1b ?_ | refine l1o ?_
            refine rNil ?_
            refine cn (fun h10 => ?_) (fun h10 => ?_)
            ·
              refine rg ?_
              refine mv ?_
              first | refine ff ?_ | refine fb ?_ | refine fo ?_
              first | refine l1f ?_ | refine l1b ?_ | refine l1o ?_
              refine bs ?_
              first | refine ap ?_ | refine (apN _) ?_
              refine as_ ?_
              refine rNil ?_
              refine bn_ ?_
              refine tn ?_
              refine rg ?_
              refine bo (hz := by first | exact bop_add (by omega) (by omega) | exact rfl) ?_
              refine mv ?_
              refine rNil ?_
              refine tn ?_
              refine lr ?_
              refine sg ?_
              refine bo (hz := by exact rfl) ?_
              refine rNil ?_
              refine sq ?_
              refine cn (fun h11 => ?_) (fun h11 => ?_)
              ·
                exact absurd h11 (by decide)
              ·
                refine awp_exit ?_
                refine te ?_
                refine te ?_
                refine xbk ?_
                refine tn ?_
                refine sg ?_
                refine mv ?_
                refine as_ ?_
                refine rNil ?_
                refine awp_ret ?_
                exact ⟨.inr rfl, _, (.cons (by first | exact .v (by ((repeat apply Look.there rfl); exact Look.here)) (.f (.v _)) | exact .v (by ((repeat apply Look.there rfl); exact Look.here)) (.row rfl (by first | exact rfl | (simp; done) | (simp; omega))) | exact .v (by ((repeat apply Look.there rfl); exact Look.here)) (.f .nil) | exact .a (by ((repeat apply Look.there rfl); exact Look.here)) | skip) .nil), (by simp only [usesF, *, ↓reduceIte, Bool.false_eq_true]; rfl)⟩ -- LEAF 3: ret
            ·
              refine awp_skip ?_
              refine bn_ ?_
              refine tn ?_
              refine rg ?_
              refine bo (hz := by first | exact bop_add (by omega) (by omega) | exact rfl) ?_
              refine mv ?_
              refine rNil ?_
              refine tn ?_
              refine lr ?_
              refine sg ?_
              refine bo (hz := by exact rfl) ?_
              refine rNil ?_
              refine sq ?_
              refine cn (fun h12 => ?_) (fun h12 => ?_)
              ·
                exact absurd h12 (by decide)
              ·
                refine awp_exit ?_
                refine te ?_
                refine te ?_
                refine xbk ?_
                refine tn ?_
                refine sg ?_
                refine mv ?_
                refine as_ ?_
                refine rNil ?_
                refine awp_ret ?_
                exact ⟨.inr rfl, _, (.cons (by first | exact .v (by ((repeat apply Look.there rfl); exact Look.here)) (.f (.v _)) | exact .v (by ((repeat apply Look.there rfl); exact Look.here)) (.row rfl (by first | exact rfl | (simp; done) | (simp; omega))) | exact .v (by ((repeat apply Look.there rfl); exact Look.here)) (.f .nil) | exact .a (by ((repeat apply Look.there rfl); exact Look.here)) | skip) .nil), (by simp only [usesF, *, ↓reduceIte, Bool.false_eq_true]; rfl)⟩ -- LEAF 4: ret
          ·
            exact absurd h9 (by decide)
      ·
        exact absurd h3 (by decide)
    ·
      refine awp_skip ?_
      refine bn_ ?_
      refine tn ?_
      refine rg ?_
      refine bo (hz := by first | exact bop_add (by omega) (by omega) | exact rfl) ?_
      refine mv ?_
      refine rNil ?_
      refine tn ?_
      refine lr ?_
      refine sg ?_
      refine bo (hz := by exact rfl) ?_
      refine rNil ?_
      refine sq ?_
      refine cn (fun h13 => ?_) (fun h13 => ?_)
      ·
        refine awp_skip ?_
        refine tn ?_
        refine sq ?_
        refine bk ?_
        refine sg ?_
        first | refine xs_ ?_ | refine xo ?_ | refine xw ?_ | refine xsl ?_
        first | refine lAf ?_ | refine lAb ?_ | refine lAo ?_
        refine al _ ?_
        refine sA ?_
        refine rNil ?_
        refine sg ?_
        first | refine ff ?_ | refine fb ?_ | refine fo ?_
        first | refine l1f ?_ | refine l1b ?_ | refine l1o ?_
        refine rNil ?_
        refine cn (fun h14 => ?_) (fun h14 => ?_)
        ·
          refine rg ?_
          refine mv ?_
          first | refine ff ?_ | refine fb ?_ | refine fo ?_
          first | refine l1f ?_ | refine l1b ?_ | refine l1o ?_
          refine bs ?_
          first | refine ap ?_ | refine (apN _) ?_
          refine as_ ?_
          refine rNil ?_
          refine bn_ ?_
          refine tn ?_
          refine rg ?_
          refine bo (hz := by first | exact bop_add (by omega) (by omega) | exact rfl) ?_
          refine mv ?_
          refine rNil ?_
          refine tn ?_
          refine lr ?_
          refine sg ?_
          refine bo (hz := by exact rfl) ?_
          refine rNil ?_
          refine sq ?_
          refine cn (fun h15 => ?_) (fun h15 => ?_)
          ·
            refine awp_skip ?_
            refine tn ?_
            refine sq ?_
            refine bk ?_
            refine sg ?_
            first | refine xs_ ?_ | refine xo ?_ | refine xw ?_ | refine xsl ?_
            first | refine lAf ?_ | refine lAb ?_ | refine lAo ?_
            refine al _ ?_
            refine sA ?_
            refine rNil ?_
            refine sg ?_
            first | refine ff ?_ | refine fb ?_ | refine fo ?_
            first | refine l1f ?_ | refine l1b ?_ | refine l1o ?_
            refine rNil ?_
            refine cn (fun h16 => ?_) (fun h16 => ?_)
            ·
              refine rg ?_
              refine mv ?_
              first | refine ff ?_ | refine fb ?_ | refine fo ?_
              first | refine l1f ?_ | refine l1b ?_ | refine l1o ?_
              refine bs ?_
              first | refine ap ?_ | refine (apN _) ?_
              refine as_ ?_
              refine rNil ?_
              refine bn_ ?_
              refine tn ?_
              refine rg ?_
              refine bo (hz := by first | exact bop_add (by omega) (by omega) | exact rfl) ?_
              refine mv ?_
              refine rNil ?_
              refine tn ?_
              refine lr ?_
              refine sg ?_
              refine bo (hz := by exact rfl) ?_
              refine rNil ?_
              refine sq ?_
              refine cn (fun h17 => ?_) (fun h17 => ?_)
              ·
                exact absurd h17 (by decide)
              ·
                refine awp_exit ?_
                refine te ?_
                refine te ?_
                refine xbk ?_
                refine tn ?_
                refine sg ?_
                refine mv ?_
                refine as_ ?_
                refine rNil ?_
                refine awp_ret ?_
                exact ⟨.inr rfl, _, (.cons (by first | exact .v (by ((repeat apply Look.there rfl); exact Look.here)) (.f (.v _)) | exact .v (by ((repeat apply Look.there rfl); exact Look.here)) (.row rfl (by first | exact rfl | (simp; done) | (simp; omega))) | exact .v (by ((repeat apply Look.there rfl); exact Look.here)) (.f .nil) | exact .a (by ((repeat apply Look.there rfl); exact Look.here)) | skip) .nil), (by simp only [usesF, *, ↓reduceIte, Bool.false_eq_true]; rfl)⟩ -- LEAF 5: ret
            ·
              refine awp_skip ?_
              refine bn_ ?_
              refine tn ?_
              refine rg ?_
              refine bo (hz := by first | exact bop_add (by omega) (by omega) | exact rfl) ?_
              refine mv ?_
              refine rNil ?_
              refine tn ?_
              refine lr ?_
              refine sg ?_
              refine bo (hz := by exact rfl) ?_
              refine rNil ?_
              refine sq ?_
              refine cn (fun h18 => ?_) (fun h18 => ?_)
              ·
                exact absurd h18 (by decide)
              ·
                refine awp_exit ?_
                refine te ?_
                refine te ?_
                refine xbk ?_
                refine tn ?_
                refine sg ?_
                refine mv ?_
                refine as_ ?_
                refine rNil ?_
                refine awp_ret ?_
                exact ⟨.inr rfl, _, (.cons (by first | exact .v (by ((repeat apply Look.there rfl); exact Look.here)) (.f (.v _)) | exact .v (by ((repeat apply Look.there rfl); exact Look.here)) (.row rfl (by first | exact rfl | (simp; done) | (simp; omega))) | exact .v (by ((repeat apply Look.there rfl); exact Look.here)) (.f .nil) | exact .a (by ((repeat apply Look.there rfl); exact Look.here)) | skip) .nil), (by simp only [usesF, *, ↓reduceIte, Bool.false_eq_true]; rfl)⟩ -- LEAF 6: ret
          ·
            exact absurd h15 (by decide)
        ·
          refine awp_skip ?_
          refine bn_ ?_
          refine tn ?_
          refine rg ?_
          refine bo (hz := by first | exact bop_add (by omega) (by omega) | exact rfl) ?_
          refine mv ?_
          refine rNil ?_
          refine tn ?_
          refine lr ?_
          refine sg ?_
          refine bo (hz := by exact rfl) ?_
          refine rNil ?_
          refine sq ?_
          refine cn (fun h19 => ?_) (fun h19 => ?_)
          ·
            refine awp_skip ?_
            refine tn ?_
            refine sq ?_
            refine bk ?_
            refine sg ?_
            first | refine xs_ ?_ | refine xo ?_ | refine xw ?_ | refine xsl ?_
            first | refine lAf ?_ | refine lAb ?_ | refine lAo ?_
            refine al _ ?_
            refine sA ?_
            refine rNil ?_
            refine sg ?_
            first | refine ff ?_ | refine fb ?_ | refine fo ?_
            first | refine l1f ?_ | refine l1b ?_ | refine l1o ?_
            refine rNil ?_
            refine cn (fun h20 => ?_) (fun h20 => ?_)
            ·
              refine rg ?_
              refine mv ?_
              first | refine ff ?_ | refine fb ?_ | refine fo ?_
              first | refine l1f ?_ | refine l1b ?_ | refine l1o ?_
              refine bs ?_
              first | refine ap ?_ | refine (apN _) ?_
              refine as_ ?_
              refine rNil ?_
              refine bn_ ?_
              refine tn ?_
              refine rg ?_
              refine bo (hz := by first | exact bop_add (by omega) (by omega) | exact rfl) ?_
              refine mv ?_
              refine rNil ?_
              refine tn ?_
              refine lr ?_
              refine sg ?_
              refine bo (hz := by exact rfl) ?_
              refine rNil ?_
              refine sq ?_
              refine cn (fun h21 => ?_) (fun h21 => ?_)
              ·
                exact absurd h21 (by decide)
              ·
                refine awp_exit ?_
                refine te ?_
                refine te ?_
                refine xbk ?_
                refine tn ?_
                refine sg ?_
                refine mv ?_
                refine as_ ?_
                refine rNil ?_
                refine awp_ret ?_
                exact ⟨.inr rfl, _, (.cons (by first | exact .v (by ((repeat apply Look.there rfl); exact Look.here)) (.f (.v _)) | exact .v (by ((repeat apply Look.there rfl); exact Look.here)) (.row rfl (by first | exact rfl | (simp; done) | (simp; omega))) | exact .v (by ((repeat apply Look.there rfl); exact Look.here)) (.f .nil) | exact .a (by ((repeat apply Look.there rfl); exact Look.here)) | skip) .nil), (by simp only [usesF, *, ↓reduceIte, Bool.false_eq_true]; rfl)⟩ -- LEAF 7: ret
            ·
              refine awp_skip ?_
              refine bn_ ?_
              refine tn ?_
              refine rg ?_
              refine bo (hz := by first | exact bop_add (by omega) (by omega) | exact rfl) ?_
              refine mv ?_
              refine rNil ?_
              refine tn ?_
              refine lr ?_
              refine sg ?_
              refine bo (hz := by exact rfl) ?_
              refine rNil ?_
              refine sq ?_
              refine cn (fun h22 => ?_) (fun h22 => ?_)
              ·
                exact absurd h22 (by decide)
              ·
                refine awp_exit ?_
                refine te ?_
                refine te ?_
                refine xbk ?_
                refine tn ?_
                refine sg ?_
                refine mv ?_
                refine as_ ?_
                refine rNil ?_
                refine awp_ret ?_
                exact ⟨.inr rfl, _, (.cons (by first | exact .v (by ((repeat apply Look.there rfl); exact Look.here)) (.f (.v _)) | exact .v (by ((repeat apply Look.there rfl); exact Look.here)) (.row rfl (by first | exact rfl | (simp; done) | (simp; omega))) | exact .v (by ((repeat apply Look.there rfl); exact Look.here)) (.f .nil) | exact .a (by ((repeat apply Look.there rfl); exact Look.here)) | skip) .nil), (by simp only [usesF, *, ↓reduceIte, Bool.false_eq_true]; rfl)⟩ -- LEAF 8: ret
          ·
            exact absurd h19 (by decide)
      ·
        exact absurd h13 (by decide)
  ·
    exact absurd h1 (by decide)

/-- frustum/frustumref22.Uses -/
theorem c48 (x : Ins) : Fn Try.prog 48 [A x] (.one (L (usesF x))) := by
  refine fnI Try.func48 Try.ntmps48 fun hb => ?_
  refine sg ?_
  refine bx _ ?_
  refine as_ ?_
  refine rNil ?_
  refine sg ?_
  first | refine ff ?_ | refine fb ?_ | refine fo ?_
  first | refine l1f ?_ | refine l1b ?_ | refine l1o ?_
  refine cl (c49 x.op) ?_
  refine mv ?_
  refine ex ?_
  refine ex ?_
  refine ex ?_
  refine ex ?_
  refine ex ?_
  refine as_ ?_
  refine as_ ?_
  refine as_ ?_
  refine as_ ?_
  refine as_ ?_
  refine rNil ?_
  refine sg ?_
  refine (bsO _) ?_
  refine as_ ?_
  refine rNil ?_
  refine sq ?_
  refine sg ?_
  refine mv ?_
  refine rNil ?_
  refine cn (fun h1 => ?_) (fun h1 => ?_)
  ·
    refine rg ?_
    refine mv ?_
    first | refine ff ?_ | refine fb ?_ | refine fo ?_
    first | refine l1f ?_ | refine l1b ?_ | refine l1o ?_
    refine bs ?_
    first | refine ap ?_ | refine (apN _) ?_
    refine as_ ?_
    refine rNil ?_
    refine tn ?_
    refine sq ?_
    refine sg ?_
    refine mv ?_
    refine rNil ?_
    refine cn (fun h2 => ?_) (fun h2 => ?_)
    ·
      refine rg ?_
      refine mv ?_
      first | refine ff ?_ | refine fb ?_ | refine fo ?_
      first | refine l1f ?_ | refine l1b ?_ | refine l1o ?_
      refine bs ?_
      first | refine ap ?_ | refine (apN _) ?_
      refine as_ ?_
      refine rNil ?_
      refine tn ?_
      refine sq ?_
      refine sg ?_
      refine mv ?_
      refine rNil ?_
      refine cn (fun h3 => ?_) (fun h3 => ?_)
      ·
        refine rg ?_
        refine mv ?_
        first | refine ff ?_ | refine fb ?_ | refine fo ?_
        first | refine l1f ?_ | refine l1b ?_ | refine l1o ?_
        refine bs ?_
        first | refine ap ?_ | refine (apN _) ?_
        refine as_ ?_
        refine rNil ?_
        refine tn ?_
        refine sg ?_
        refine mv ?_
        refine as_ ?_
        refine rNil ?_
        refine awp_ret ?_
        exact ⟨.inr rfl, _, (.cons (by first | exact .v (by ((repeat apply Look.there rfl); exact Look.here)) (.f (.v _)) | exact .v (by ((repeat apply Look.there rfl); exact Look.here)) (.row rfl (by first | exact rfl | (simp; done) | (simp; omega))) | exact .v (by ((repeat apply Look.there rfl); exact Look.here)) (.f .nil) | exact .a (by ((repeat apply Look.there rfl); exact Look.here)) | skip) .nil), (by simp only [usesF, *, ↓reduceIte, Bool.false_eq_true]; rfl)⟩ -- LEAF 1: ret
      ·
        refine awp_skip ?_
        refine tn ?_
        refine sg ?_
        refine mv ?_
        refine as_ ?_
        refine rNil ?_
        refine awp_ret ?_
        exact ⟨.inr rfl, _, (.cons (by first | exact .v (by ((repeat apply Look.there rfl); exact Look.here)) (.f (.v _)) | exact .v (by ((repeat apply Look.there rfl); exact Look.here)) (.row rfl (by first | exact rfl | (simp; done) | (simp; omega))) | exact .v (by ((repeat apply Look.there rfl); exact Look.here)) (.f .nil) | exact .a (by ((repeat apply Look.there rfl); exact Look.here)) | skip) .nil), (by simp only [usesF, *, ↓reduceIte, Bool.false_eq_true]; rfl)⟩ -- LEAF 2: ret
    ·
      refine awp_skip ?_
      refine tn ?_
      refine sq ?_
      refine sg ?_
      refine mv ?_
      refine rNil ?_
      refine cn (fun h4 => ?_) (fun h4 => ?_)
      ·
        refine rg ?_
        refine mv ?_
        first | refine ff ?_ | refine fb ?_ | refine fo ?_
        first | refine l1f ?_ | refine l1b ?_ | refine l1o ?_
        refine bs ?_
        first | refine ap ?_ | refine (apN _) ?_
        refine as_ ?_
        refine rNil ?_
        refine tn ?_
        refine sg ?_
        refine mv ?_
        refine as_ ?_
        refine rNil ?_
        refine awp_ret ?_
        exact ⟨.inr rfl, _, (.cons (by first | exact .v (by ((repeat apply Look.there rfl); exact Look.here)) (.f (.v _)) | exact .v (by ((repeat apply Look.there rfl); exact Look.here)) (.row rfl (by first | exact rfl | (simp; done) | (simp; omega))) | exact .v (by ((repeat apply Look.there rfl); exact Look.here)) (.f .nil) | exact .a (by ((repeat apply Look.there rfl); exact Look.here)) | skip) .nil), (by simp only [usesF, *, ↓reduceIte, Bool.false_eq_true]; rfl)⟩ -- LEAF 3: ret
      ·
        refine awp_skip ?_
        refine tn ?_
        refine sg ?_
        refine mv ?_
        refine as_ ?_
        refine rNil ?_
        refine awp_ret ?_
        exact ⟨.inr rfl, _, (.cons (by first | exact .v (by ((repeat apply Look.there rfl); exact Look.here)) (.f (.v _)) | exact .v (by ((repeat apply Look.there rfl); exact Look.here)) (.row rfl (by first | exact rfl | (simp; done) | (simp; omega))) | exact .v (by ((repeat apply Look.there rfl); exact Look.here)) (.f .nil) | exact .a (by ((repeat apply Look.there rfl); exact Look.here)) | skip) .nil), (by simp only [usesF, *, ↓reduceIte, Bool.false_eq_true]; rfl)⟩ -- LEAF 4: ret
  ·
    refine awp_skip ?_
    refine tn ?_
    refine sq ?_
    refine sg ?_
    refine mv ?_
    refine rNil ?_
    refine cn (fun h5 => ?_) (fun h5 => ?_)
    ·
      refine rg ?_
      refine mv ?_
      first | refine ff ?_ | refine fb ?_ | refine fo ?_
      first | refine l1f ?_ | refine l1b ?_ | refine l1o ?_
      refine bs ?_
      first | refine ap ?_ | refine (apN _) ?_
      refine as_ ?_
      refine rNil ?_
      refine tn ?_
      refine sq ?_
      refine sg ?_
      refine mv ?_
      refine rNil ?_
      refine cn (fun h6 => ?_) (fun h6 => ?_)
      ·
        refine rg ?_
        refine mv ?_
        first | refine ff ?_ | refine fb ?_ | refine fo ?_
        first | refine l1f ?_ | refine l1b ?_ | refine l1o ?_
        refine bs ?_
        first | refine ap ?_ | refine (apN _) ?_
        refine as_ ?_
        refine rNil ?_
        refine tn ?_
        refine sg ?_
        refine mv ?_
        refine as_ ?_
        refine rNil ?_
        refine awp_ret ?_
        exact ⟨.inr rfl, _, (.cons (by first | exact .v (by ((repeat apply Look.there rfl); exact Look.here)) (.f (.v _)) | exact .v (by ((repeat apply Look.there rfl); exact Look.here)) (.row rfl (by first | exact rfl | (simp; done) | (simp; omega))) | exact .v (by ((repeat apply Look.there rfl); exact Look.here)) (.f .nil) | exact .a (by ((repeat apply Look.there rfl); exact Look.here)) | skip) .nil), (by simp only [usesF, *, ↓reduceIte, Bool.false_eq_true]; rfl)⟩ -- LEAF 5: ret
      ·
        refine awp_skip ?_
        refine tn ?_
        refine sg ?_
        refine mv ?_
        refine as_ ?_
        refine rNil ?_
        refine awp_ret ?_
        exact ⟨.inr rfl, _, (.cons (by first | exact .v (by ((repeat apply Look.there rfl); exact Look.here)) (.f (.v _)) | exact .v (by ((repeat apply Look.there rfl); exact Look.here)) (.row rfl (by first | exact rfl | (simp; done) | (simp; omega))) | exact .v (by ((repeat apply Look.there rfl); exact Look.here)) (.f .nil) | exact .a (by ((repeat apply Look.there rfl); exact Look.here)) | skip) .nil), (by simp only [usesF, *, ↓reduceIte, Bool.false_eq_true]; rfl)⟩ -- LEAF 6: ret
    ·
      refine awp_skip ?_
      refine tn ?_
      refine sq ?_
      refine sg ?_
      refine mv ?_
      refine rNil ?_
      refine cn (fun h7 => ?_) (fun h7 => ?_)
      ·
        refine rg ?_
        refine mv ?_
        first | refine ff ?_ | refine fb ?_ | refine fo ?_
        first | refine l1f ?_ | refine l1b ?_ | refine l1o ?_
        refine bs ?_
        first | refine ap ?_ | refine (apN _) ?_
        refine as_ ?_
        refine rNil ?_
        refine tn ?_
        refine sg ?_
        refine mv ?_
        refine as_ ?_
        refine rNil ?_
        refine awp_ret ?_
        exact ⟨.inr rfl, _, (.cons (by first | exact .v (by ((repeat apply Look.there rfl); exact Look.here)) (.f (.v _)) | exact .v (by ((repeat apply Look.there rfl); exact Look.here)) (.row rfl (by first | exact rfl | (simp; done) | (simp; omega))) | exact .v (by ((repeat apply Look.there rfl); exact Look.here)) (.f .nil) | exact .a (by ((repeat apply Look.there rfl); exact Look.here)) | skip) .nil), (by simp only [usesF, *, ↓reduceIte, Bool.false_eq_true]; rfl)⟩ -- LEAF 7: ret
      ·
        refine awp_skip ?_
        refine tn ?_
        refine sg ?_
        refine mv ?_
        refine as_ ?_
        refine rNil ?_
        refine awp_ret ?_
        exact ⟨.inr rfl, _, (.cons (by first | exact .v (by ((repeat apply Look.there rfl); exact Look.here)) (.f (.v _)) | exact .v (by ((repeat apply Look.there rfl); exact Look.here)) (.row rfl (by first | exact rfl | (simp; done) | (simp; omega))) | exact .v (by ((repeat apply Look.there rfl); exact Look.here)) (.f .nil) | exact .a (by ((repeat apply Look.there rfl); exact Look.here)) | skip) .nil), (by simp only [usesF, *, ↓reduceIte, Bool.false_eq_true]; rfl)⟩ -- LEAF 8: ret

/-- frustum/regalloc.mentions -/
theorem c26 (x : Ins) : Fn Try.prog 26 [A x] (.many [L (usesF x), I (dstF x)]) := by
  refine fnI Try.func26 Try.ntmps26 fun hb => ?_
  refine sg ?_
  refine bx _ ?_
  refine as_ ?_
  refine as_ ?_
  refine rNil ?_
  refine sg ?_
  refine as_ ?_
  refine rNil ?_
  refine sq ?_
  refine sg ?_
  first | refine ff ?_ | refine fb ?_ | refine fo ?_
  first | refine l1f ?_ | refine l1b ?_ | refine l1o ?_
  refine cl (c41 x.op) ?_
  refine mv ?_
  refine ex ?_
  refine ex ?_
  refine ex ?_
  refine ex ?_
  refine ex ?_
  refine as_ ?_
  refine as_ ?_
  refine as_ ?_
  refine as_ ?_
  refine as_ ?_
  refine rNil ?_
  refine sg ?_
  refine mv ?_
  refine rNil ?_
  refine cn (fun h1 => ?_) (fun h1 => ?_)
  ·
    refine rg ?_
    first | refine ff ?_ | refine fb ?_ | refine fo ?_
    first | refine l1f ?_ | refine l1b ?_ | refine l1o ?_
    refine as_ ?_
    refine rNil ?_
    refine tn ?_
    refine sg ?_
    first | refine lAf ?_ | refine lAb ?_ | refine lAo ?_
    refine cl (c43 x) ?_
    refine mv ?_
    refine as_ ?_
    refine as_ ?_
    refine rNil ?_
    refine awp_ret ?_
    exact ⟨.inr rfl, _, (.cons (by first | exact .v (by ((repeat apply Look.there rfl); exact Look.here)) (.f (.v _)) | exact .v (by ((repeat apply Look.there rfl); exact Look.here)) (.row rfl (by first | exact rfl | (simp; done) | (simp; omega))) | exact .v (by ((repeat apply Look.there rfl); exact Look.here)) (.f .nil) | exact .a (by ((repeat apply Look.there rfl); exact Look.here)) | skip) (.cons (by first | exact .v (by ((repeat apply Look.there rfl); exact Look.here)) (.f (.v _)) | exact .v (by ((repeat apply Look.there rfl); exact Look.here)) (.row rfl (by first | exact rfl | (simp; done) | (simp; omega))) | exact .v (by ((repeat apply Look.there rfl); exact Look.here)) (.f .nil) | exact .a (by ((repeat apply Look.there rfl); exact Look.here)) | skip) .nil)), (by simp only [dstF, *, ↓reduceIte, Bool.false_eq_true]; rfl)⟩ -- LEAF 1: ret
  ·
    refine awp_skip ?_
    refine tn ?_
    refine sg ?_
    first | refine lAf ?_ | refine lAb ?_ | refine lAo ?_
    refine cl (c43 x) ?_
    refine mv ?_
    refine as_ ?_
    refine as_ ?_
    refine rNil ?_
    refine awp_ret ?_
    exact ⟨.inr rfl, _, (.cons (by first | exact .v (by ((repeat apply Look.there rfl); exact Look.here)) (.f (.v _)) | exact .v (by ((repeat apply Look.there rfl); exact Look.here)) (.row rfl (by first | exact rfl | (simp; done) | (simp; omega))) | exact .v (by ((repeat apply Look.there rfl); exact Look.here)) (.f .nil) | exact .a (by ((repeat apply Look.there rfl); exact Look.here)) | skip) (.cons (by first | exact .v (by ((repeat apply Look.there rfl); exact Look.here)) (.f (.v _)) | exact .v (by ((repeat apply Look.there rfl); exact Look.here)) (.row rfl (by first | exact rfl | (simp; done) | (simp; omega))) | exact .v (by ((repeat apply Look.there rfl); exact Look.here)) (.f .nil) | exact .a (by ((repeat apply Look.there rfl); exact Look.here)) | skip) .nil)), (by simp only [dstF, *, ↓reduceIte, Bool.false_eq_true]; rfl)⟩ -- LEAF 2: ret

def unF (x : Ins) : Bool := (!dF x.op && x.dst != 0) || ((!aF x.op && x.a != 0) || ((!bF x.op && x.b != 0) || ((!cF x.op && x.c != 0) || (!mF x.op && x.imm != 0))))
/-- frustum/frustumref22.unused -/
theorem c45 (x : Ins) : Fn Try.prog 45 [A x] (.one (B (unF x))) := by
  refine fnI Try.func45 Try.ntmps45 fun hb => ?_
  refine sg ?_
  refine bx _ ?_
  refine as_ ?_
  refine rNil ?_
  refine sg ?_
  first | refine ff ?_ | refine fb ?_ | refine fo ?_
  first | refine l1f ?_ | refine l1b ?_ | refine l1o ?_
  refine cl (c49 x.op) ?_
  refine mv ?_
  refine ex ?_
  refine ex ?_
  refine ex ?_
  refine ex ?_
  refine ex ?_
  refine as_ ?_
  refine as_ ?_
  refine as_ ?_
  refine as_ ?_
  refine as_ ?_
  refine rNil ?_
  refine sg ?_
  refine mv ?_
  refine nt ?_
  refine mv ?_
  refine gd (fun h1 => ?_) (fun h1 => ?_)
  ·
    first | refine ff ?_ | refine fb ?_ | refine fo ?_
    first | refine l1f ?_ | refine l1b ?_ | refine l1o ?_
    refine bo (hz := by exact rfl) ?_
    refine pkT ?_
    refine mv ?_
    refine gd (fun h2 => ?_) (fun h2 => ?_)
    ·
      refine no ?_
      refine no ?_
      refine no ?_
      refine noU ?_
      refine noU ?_
      refine noU ?_
      refine no ?_
      refine pkT ?_
      refine mv ?_
      refine no ?_
      refine no ?_
      refine no ?_
      refine noU ?_
      refine noU ?_
      refine noU ?_
      refine no ?_
      refine pkT ?_
      refine mv ?_
      refine no ?_
      refine no ?_
      refine no ?_
      refine noU ?_
      refine noU ?_
      refine noU ?_
      refine no ?_
      refine pkT ?_
      refine mv ?_
      refine no ?_
      refine no ?_
      refine no ?_
      refine noU ?_
      refine noU ?_
      refine noU ?_
      refine no ?_
      refine pkT ?_
      refine as_ ?_
      refine rNil ?_
      refine awp_ret ?_
      exact ⟨.inr rfl, _, (.cons (by first | exact .v (by ((repeat apply Look.there rfl); exact Look.here)) (.f (.v _)) | exact .v (by ((repeat apply Look.there rfl); exact Look.here)) (.row rfl (by first | exact rfl | (simp; done) | (simp; omega))) | exact .v (by ((repeat apply Look.there rfl); exact Look.here)) (.f .nil) | exact .a (by ((repeat apply Look.there rfl); exact Look.here)) | skip) .nil), oneB (by simp_all [unF])⟩ -- LEAF 1: ret
    ·
      refine mv ?_
      refine nt ?_
      refine mv ?_
      refine gd (fun h3 => ?_) (fun h3 => ?_)
      ·
        first | refine ff ?_ | refine fb ?_ | refine fo ?_
        first | refine l1f ?_ | refine l1b ?_ | refine l1o ?_
        refine bo (hz := by exact rfl) ?_
        refine pkT ?_
        refine pkF ?_
        refine mv ?_
        refine gd (fun h4 => ?_) (fun h4 => ?_)
        ·
          refine no ?_
          refine no ?_
          refine no ?_
          refine noU ?_
          refine noU ?_
          refine noU ?_
          refine no ?_
          refine pkT ?_
          refine mv ?_
          refine no ?_
          refine no ?_
          refine no ?_
          refine noU ?_
          refine noU ?_
          refine noU ?_
          refine no ?_
          refine pkT ?_
          refine mv ?_
          refine no ?_
          refine no ?_
          refine no ?_
          refine noU ?_
          refine noU ?_
          refine noU ?_
          refine no ?_
          refine pkT ?_
          refine as_ ?_
          refine rNil ?_
          refine awp_ret ?_
          exact ⟨.inr rfl, _, (.cons (by first | exact .v (by ((repeat apply Look.there rfl); exact Look.here)) (.f (.v _)) | exact .v (by ((repeat apply Look.there rfl); exact Look.here)) (.row rfl (by first | exact rfl | (simp; done) | (simp; omega))) | exact .v (by ((repeat apply Look.there rfl); exact Look.here)) (.f .nil) | exact .a (by ((repeat apply Look.there rfl); exact Look.here)) | skip) .nil), oneB (by simp_all [unF])⟩ -- LEAF 2: ret
        ·
          refine mv ?_
          refine nt ?_
          refine mv ?_
          refine gd (fun h5 => ?_) (fun h5 => ?_)
          ·
            first | refine ff ?_ | refine fb ?_ | refine fo ?_
            first | refine l1f ?_ | refine l1b ?_ | refine l1o ?_
            refine bo (hz := by exact rfl) ?_
            refine pkT ?_
            refine pkF ?_
            refine mv ?_
            refine gd (fun h6 => ?_) (fun h6 => ?_)
            ·
              refine no ?_
              refine no ?_
              refine no ?_
              refine noU ?_
              refine noU ?_
              refine noU ?_
              refine no ?_
              refine pkT ?_
              refine mv ?_
              refine no ?_
              refine no ?_
              refine no ?_
              refine noU ?_
              refine noU ?_
              refine noU ?_
              refine no ?_
              refine pkT ?_
              refine as_ ?_
              refine rNil ?_
              refine awp_ret ?_
              exact ⟨.inr rfl, _, (.cons (by first | exact .v (by ((repeat apply Look.there rfl); exact Look.here)) (.f (.v _)) | exact .v (by ((repeat apply Look.there rfl); exact Look.here)) (.row rfl (by first | exact rfl | (simp; done) | (simp; omega))) | exact .v (by ((repeat apply Look.there rfl); exact Look.here)) (.f .nil) | exact .a (by ((repeat apply Look.there rfl); exact Look.here)) | skip) .nil), oneB (by simp_all [unF])⟩ -- LEAF 3: ret
            ·
              refine mv ?_
              refine nt ?_
              refine mv ?_
              refine gd (fun h7 => ?_) (fun h7 => ?_)
              ·
                first | refine ff ?_ | refine fb ?_ | refine fo ?_
                first | refine l1f ?_ | refine l1b ?_ | refine l1o ?_
                refine bo (hz := by exact rfl) ?_
                refine pkT ?_
                refine pkF ?_
                refine mv ?_
                refine gd (fun h8 => ?_) (fun h8 => ?_)
                ·
                  refine no ?_
                  refine no ?_
                  refine no ?_
                  refine noU ?_
                  refine noU ?_
                  refine noU ?_
                  refine no ?_
                  refine pkT ?_
                  refine as_ ?_
                  refine rNil ?_
                  refine awp_ret ?_
                  exact ⟨.inr rfl, _, (.cons (by first | exact .v (by ((repeat apply Look.there rfl); exact Look.here)) (.f (.v _)) | exact .v (by ((repeat apply Look.there rfl); exact Look.here)) (.row rfl (by first | exact rfl | (simp; done) | (simp; omega))) | exact .v (by ((repeat apply Look.there rfl); exact Look.here)) (.f .nil) | exact .a (by ((repeat apply Look.there rfl); exact Look.here)) | skip) .nil), oneB (by simp_all [unF])⟩ -- LEAF 4: ret
                ·
                  refine mv ?_
                  refine nt ?_
                  refine mv ?_
                  refine gd (fun h9 => ?_) (fun h9 => ?_)
                  ·
                    first | refine ff ?_ | refine fb ?_ | refine fo ?_
                    first | refine l1f ?_ | refine l1b ?_ | refine l1o ?_
                    refine bo (hz := by exact rfl) ?_
                    refine pkT ?_
                    refine pkF ?_
                    refine as_ ?_
                    refine rNil ?_
                    refine awp_ret ?_
                    exact ⟨.inr rfl, _, (.cons (by first | exact .v (by ((repeat apply Look.there rfl); exact Look.here)) (.f (.v _)) | exact .v (by ((repeat apply Look.there rfl); exact Look.here)) (.row rfl (by first | exact rfl | (simp; done) | (simp; omega))) | exact .v (by ((repeat apply Look.there rfl); exact Look.here)) (.f .nil) | exact .a (by ((repeat apply Look.there rfl); exact Look.here)) | skip) .nil), oneB (by simp_all [unF])⟩ -- LEAF 5: ret
                  ·
                    refine no ?_
                    refine no ?_
                    refine no ?_
                    refine pkF ?_
                    refine pkF ?_
                    refine as_ ?_
                    refine rNil ?_
                    refine awp_ret ?_
                    exact ⟨.inr rfl, _, (.cons (by first | exact .v (by ((repeat apply Look.there rfl); exact Look.here)) (.f (.v _)) | exact .v (by ((repeat apply Look.there rfl); exact Look.here)) (.row rfl (by first | exact rfl | (simp; done) | (simp; omega))) | exact .v (by ((repeat apply Look.there rfl); exact Look.here)) (.f .nil) | exact .a (by ((repeat apply Look.there rfl); exact Look.here)) | skip) .nil), oneB (by simp_all [unF])⟩ -- LEAF 6: ret
              ·
                refine no ?_
                refine no ?_
                refine no ?_
                refine pkF ?_
                refine pkF ?_
                refine mv ?_
                refine mv ?_
                refine nt ?_
                refine mv ?_
                refine gd (fun h10 => ?_) (fun h10 => ?_)
                ·
                  first | refine ff ?_ | refine fb ?_ | refine fo ?_
                  first | refine l1f ?_ | refine l1b ?_ | refine l1o ?_
                  refine bo (hz := by exact rfl) ?_
                  refine pkT ?_
                  refine pkF ?_
                  refine as_ ?_
                  refine rNil ?_
                  refine awp_ret ?_
                  exact ⟨.inr rfl, _, (.cons (by first | exact .v (by ((repeat apply Look.there rfl); exact Look.here)) (.f (.v _)) | exact .v (by ((repeat apply Look.there rfl); exact Look.here)) (.row rfl (by first | exact rfl | (simp; done) | (simp; omega))) | exact .v (by ((repeat apply Look.there rfl); exact Look.here)) (.f .nil) | exact .a (by ((repeat apply Look.there rfl); exact Look.here)) | skip) .nil), oneB (by simp_all [unF])⟩ -- LEAF 7: ret
                ·
                  refine no ?_
                  refine no ?_
                  refine no ?_
                  refine pkF ?_
                  refine pkF ?_
                  refine as_ ?_
                  refine rNil ?_
                  refine awp_ret ?_
                  exact ⟨.inr rfl, _, (.cons (by first | exact .v (by ((repeat apply Look.there rfl); exact Look.here)) (.f (.v _)) | exact .v (by ((repeat apply Look.there rfl); exact Look.here)) (.row rfl (by first | exact rfl | (simp; done) | (simp; omega))) | exact .v (by ((repeat apply Look.there rfl); exact Look.here)) (.f .nil) | exact .a (by ((repeat apply Look.there rfl); exact Look.here)) | skip) .nil), oneB (by simp_all [unF])⟩ -- LEAF 8: ret
          ·
            refine no ?_
            refine no ?_
            refine no ?_
            refine pkF ?_
            refine pkF ?_
            refine mv ?_
            refine mv ?_
            refine nt ?_
            refine mv ?_
            refine gd (fun h11 => ?_) (fun h11 => ?_)
            ·
              first | refine ff ?_ | refine fb ?_ | refine fo ?_
              first | refine l1f ?_ | refine l1b ?_ | refine l1o ?_
              refine bo (hz := by exact rfl) ?_
              refine pkT ?_
              refine pkF ?_
              refine mv ?_
              refine gd (fun h12 => ?_) (fun h12 => ?_)
              ·
                refine no ?_
                refine no ?_
                refine no ?_
                refine noU ?_
                refine noU ?_
                refine noU ?_
                refine no ?_
                refine pkT ?_
                refine as_ ?_
                refine rNil ?_
                refine awp_ret ?_
                exact ⟨.inr rfl, _, (.cons (by first | exact .v (by ((repeat apply Look.there rfl); exact Look.here)) (.f (.v _)) | exact .v (by ((repeat apply Look.there rfl); exact Look.here)) (.row rfl (by first | exact rfl | (simp; done) | (simp; omega))) | exact .v (by ((repeat apply Look.there rfl); exact Look.here)) (.f .nil) | exact .a (by ((repeat apply Look.there rfl); exact Look.here)) | skip) .nil), oneB (by simp_all [unF])⟩ -- LEAF 9: ret
              ·
                refine mv ?_
                refine nt ?_
                refine mv ?_
                refine gd (fun h13 => ?_) (fun h13 => ?_)
                ·
                  first | refine ff ?_ | refine fb ?_ | refine fo ?_
                  first | refine l1f ?_ | refine l1b ?_ | refine l1o ?_
                  refine bo (hz := by exact rfl) ?_
                  refine pkT ?_
                  refine pkF ?_
                  refine as_ ?_
                  refine rNil ?_
                  refine awp_ret ?_
                  exact ⟨.inr rfl, _, (.cons (by first | exact .v (by ((repeat apply Look.there rfl); exact Look.here)) (.f (.v _)) | exact .v (by ((repeat apply Look.there rfl); exact Look.here)) (.row rfl (by first | exact rfl | (simp; done) | (simp; omega))) | exact .v (by ((repeat apply Look.there rfl); exact Look.here)) (.f .nil) | exact .a (by ((repeat apply Look.there rfl); exact Look.here)) | skip) .nil), oneB (by simp_all [unF])⟩ -- LEAF 10: ret
                ·
                  refine no ?_
                  refine no ?_
                  refine no ?_
                  refine pkF ?_
                  refine pkF ?_
                  refine as_ ?_
                  refine rNil ?_
                  refine awp_ret ?_
                  exact ⟨.inr rfl, _, (.cons (by first | exact .v (by ((repeat apply Look.there rfl); exact Look.here)) (.f (.v _)) | exact .v (by ((repeat apply Look.there rfl); exact Look.here)) (.row rfl (by first | exact rfl | (simp; done) | (simp; omega))) | exact .v (by ((repeat apply Look.there rfl); exact Look.here)) (.f .nil) | exact .a (by ((repeat apply Look.there rfl); exact Look.here)) | skip) .nil), oneB (by simp_all [unF])⟩ -- LEAF 11: ret
            ·
              refine no ?_
              refine no ?_
              refine no ?_
              refine pkF ?_
              refine pkF ?_
              refine mv ?_
              refine mv ?_
              refine nt ?_
              refine mv ?_
              refine gd (fun h14 => ?_) (fun h14 => ?_)
              ·
                first | refine ff ?_ | refine fb ?_ | refine fo ?_
                first | refine l1f ?_ | refine l1b ?_ | refine l1o ?_
                refine bo (hz := by exact rfl) ?_
                refine pkT ?_
                refine pkF ?_
                refine as_ ?_
                refine rNil ?_
                refine awp_ret ?_
                exact ⟨.inr rfl, _, (.cons (by first | exact .v (by ((repeat apply Look.there rfl); exact Look.here)) (.f (.v _)) | exact .v (by ((repeat apply Look.there rfl); exact Look.here)) (.row rfl (by first | exact rfl | (simp; done) | (simp; omega))) | exact .v (by ((repeat apply Look.there rfl); exact Look.here)) (.f .nil) | exact .a (by ((repeat apply Look.there rfl); exact Look.here)) | skip) .nil), oneB (by simp_all [unF])⟩ -- LEAF 12: ret
              ·
                refine no ?_
                refine no ?_
                refine no ?_
                refine pkF ?_
                refine pkF ?_
                refine as_ ?_
                refine rNil ?_
                refine awp_ret ?_
                exact ⟨.inr rfl, _, (.cons (by first | exact .v (by ((repeat apply Look.there rfl); exact Look.here)) (.f (.v _)) | exact .v (by ((repeat apply Look.there rfl); exact Look.here)) (.row rfl (by first | exact rfl | (simp; done) | (simp; omega))) | exact .v (by ((repeat apply Look.there rfl); exact Look.here)) (.f .nil) | exact .a (by ((repeat apply Look.there rfl); exact Look.here)) | skip) .nil), oneB (by simp_all [unF])⟩ -- LEAF 13: ret
      ·
        refine no ?_
        refine no ?_
        refine no ?_
        refine pkF ?_
        refine pkF ?_
        refine mv ?_
        refine mv ?_
        refine nt ?_
        refine mv ?_
        refine gd (fun h15 => ?_) (fun h15 => ?_)
        ·
          first | refine ff ?_ | refine fb ?_ | refine fo ?_
          first | refine l1f ?_ | refine l1b ?_ | refine l1o ?_
          refine bo (hz := by exact rfl) ?_
          refine pkT ?_
          refine pkF ?_
          refine mv ?_
          refine gd (fun h16 => ?_) (fun h16 => ?_)
          ·
            refine no ?_
            refine no ?_
            refine no ?_
            refine noU ?_
            refine noU ?_
            refine noU ?_
            refine no ?_
            refine pkT ?_
            refine mv ?_
            refine no ?_
            refine no ?_
            refine no ?_
            refine noU ?_
            refine noU ?_
            refine noU ?_
            refine no ?_
            refine pkT ?_
            refine as_ ?_
            refine rNil ?_
            refine awp_ret ?_
            exact ⟨.inr rfl, _, (.cons (by first | exact .v (by ((repeat apply Look.there rfl); exact Look.here)) (.f (.v _)) | exact .v (by ((repeat apply Look.there rfl); exact Look.here)) (.row rfl (by first | exact rfl | (simp; done) | (simp; omega))) | exact .v (by ((repeat apply Look.there rfl); exact Look.here)) (.f .nil) | exact .a (by ((repeat apply Look.there rfl); exact Look.here)) | skip) .nil), oneB (by simp_all [unF])⟩ -- LEAF 14: ret
          ·
            refine mv ?_
            refine nt ?_
            refine mv ?_
            refine gd (fun h17 => ?_) (fun h17 => ?_)
            ·
              first | refine ff ?_ | refine fb ?_ | refine fo ?_
              first | refine l1f ?_ | refine l1b ?_ | refine l1o ?_
              refine bo (hz := by exact rfl) ?_
              refine pkT ?_
              refine pkF ?_
              refine mv ?_
              refine gd (fun h18 => ?_) (fun h18 => ?_)
              ·
                refine no ?_
                refine no ?_
                refine no ?_
                refine noU ?_
                refine noU ?_
                refine noU ?_
                refine no ?_
                refine pkT ?_
                refine as_ ?_
                refine rNil ?_
                refine awp_ret ?_
                exact ⟨.inr rfl, _, (.cons (by first | exact .v (by ((repeat apply Look.there rfl); exact Look.here)) (.f (.v _)) | exact .v (by ((repeat apply Look.there rfl); exact Look.here)) (.row rfl (by first | exact rfl | (simp; done) | (simp; omega))) | exact .v (by ((repeat apply Look.there rfl); exact Look.here)) (.f .nil) | exact .a (by ((repeat apply Look.there rfl); exact Look.here)) | skip) .nil), oneB (by simp_all [unF])⟩ -- LEAF 15: ret
              ·
                refine mv ?_
                refine nt ?_
                refine mv ?_
                refine gd (fun h19 => ?_) (fun h19 => ?_)
                ·
                  first | refine ff ?_ | refine fb ?_ | refine fo ?_
                  first | refine l1f ?_ | refine l1b ?_ | refine l1o ?_
                  refine bo (hz := by exact rfl) ?_
                  refine pkT ?_
                  refine pkF ?_
                  refine as_ ?_
                  refine rNil ?_
                  refine awp_ret ?_
                  exact ⟨.inr rfl, _, (.cons (by first | exact .v (by ((repeat apply Look.there rfl); exact Look.here)) (.f (.v _)) | exact .v (by ((repeat apply Look.there rfl); exact Look.here)) (.row rfl (by first | exact rfl | (simp; done) | (simp; omega))) | exact .v (by ((repeat apply Look.there rfl); exact Look.here)) (.f .nil) | exact .a (by ((repeat apply Look.there rfl); exact Look.here)) | skip) .nil), oneB (by simp_all [unF])⟩ -- LEAF 16: ret
                ·
                  refine no ?_
                  refine no ?_
                  refine no ?_
                  refine pkF ?_
                  refine pkF ?_
                  refine as_ ?_
                  refine rNil ?_
                  refine awp_ret ?_
                  exact ⟨.inr rfl, _, (.cons (by first | exact .v (by ((repeat apply Look.there rfl); exact Look.here)) (.f (.v _)) | exact .v (by ((repeat apply Look.there rfl); exact Look.here)) (.row rfl (by first | exact rfl | (simp; done) | (simp; omega))) | exact .v (by ((repeat apply Look.there rfl); exact Look.here)) (.f .nil) | exact .a (by ((repeat apply Look.there rfl); exact Look.here)) | skip) .nil), oneB (by simp_all [unF])⟩ -- LEAF 17: ret
            ·
              refine no ?_
              refine no ?_
              refine no ?_
              refine pkF ?_
              refine pkF ?_
              refine mv ?_
              refine mv ?_
              refine nt ?_
              refine mv ?_
              refine gd (fun h20 => ?_) (fun h20 => ?_)
              ·
                first | refine ff ?_ | refine fb ?_ | refine fo ?_
                first | refine l1f ?_ | refine l1b ?_ | refine l1o ?_
                refine bo (hz := by exact rfl) ?_
                refine pkT ?_
                refine pkF ?_
                refine as_ ?_
                refine rNil ?_
                refine awp_ret ?_
                exact ⟨.inr rfl, _, (.cons (by first | exact .v (by ((repeat apply Look.there rfl); exact Look.here)) (.f (.v _)) | exact .v (by ((repeat apply Look.there rfl); exact Look.here)) (.row rfl (by first | exact rfl | (simp; done) | (simp; omega))) | exact .v (by ((repeat apply Look.there rfl); exact Look.here)) (.f .nil) | exact .a (by ((repeat apply Look.there rfl); exact Look.here)) | skip) .nil), oneB (by simp_all [unF])⟩ -- LEAF 18: ret
              ·
                refine no ?_
                refine no ?_
                refine no ?_
                refine pkF ?_
                refine pkF ?_
                refine as_ ?_
                refine rNil ?_
                refine awp_ret ?_
                exact ⟨.inr rfl, _, (.cons (by first | exact .v (by ((repeat apply Look.there rfl); exact Look.here)) (.f (.v _)) | exact .v (by ((repeat apply Look.there rfl); exact Look.here)) (.row rfl (by first | exact rfl | (simp; done) | (simp; omega))) | exact .v (by ((repeat apply Look.there rfl); exact Look.here)) (.f .nil) | exact .a (by ((repeat apply Look.there rfl); exact Look.here)) | skip) .nil), oneB (by simp_all [unF])⟩ -- LEAF 19: ret
        ·
          refine no ?_
          refine no ?_
          refine no ?_
          refine pkF ?_
          refine pkF ?_
          refine mv ?_
          refine mv ?_
          refine nt ?_
          refine mv ?_
          refine gd (fun h21 => ?_) (fun h21 => ?_)
          ·
            first | refine ff ?_ | refine fb ?_ | refine fo ?_
            first | refine l1f ?_ | refine l1b ?_ | refine l1o ?_
            refine bo (hz := by exact rfl) ?_
            refine pkT ?_
            refine pkF ?_
            refine mv ?_
            refine gd (fun h22 => ?_) (fun h22 => ?_)
            ·
              refine no ?_
              refine no ?_
              refine no ?_
              refine noU ?_
              refine noU ?_
              refine noU ?_
              refine no ?_
              refine pkT ?_
              refine as_ ?_
              refine rNil ?_
              refine awp_ret ?_
              exact ⟨.inr rfl, _, (.cons (by first | exact .v (by ((repeat apply Look.there rfl); exact Look.here)) (.f (.v _)) | exact .v (by ((repeat apply Look.there rfl); exact Look.here)) (.row rfl (by first | exact rfl | (simp; done) | (simp; omega))) | exact .v (by ((repeat apply Look.there rfl); exact Look.here)) (.f .nil) | exact .a (by ((repeat apply Look.there rfl); exact Look.here)) | skip) .nil), oneB (by simp_all [unF])⟩ -- LEAF 20: ret
            ·
              refine mv ?_
              refine nt ?_
              refine mv ?_
              refine gd (fun h23 => ?_) (fun h23 => ?_)
              ·
                first | refine ff ?_ | refine fb ?_ | refine fo ?_
                first | refine l1f ?_ | refine l1b ?_ | refine l1o ?_
                refine bo (hz := by exact rfl) ?_
                refine pkT ?_
                refine pkF ?_
                refine as_ ?_
                refine rNil ?_
                refine awp_ret ?_
                exact ⟨.inr rfl, _, (.cons (by first | exact .v (by ((repeat apply Look.there rfl); exact Look.here)) (.f (.v _)) | exact .v (by ((repeat apply Look.there rfl); exact Look.here)) (.row rfl (by first | exact rfl | (simp; done) | (simp; omega))) | exact .v (by ((repeat apply Look.there rfl); exact Look.here)) (.f .nil) | exact .a (by ((repeat apply Look.there rfl); exact Look.here)) | skip) .nil), oneB (by simp_all [unF])⟩ -- LEAF 21: ret
              ·
                refine no ?_
                refine no ?_
                refine no ?_
                refine pkF ?_
                refine pkF ?_
                refine as_ ?_
                refine rNil ?_
                refine awp_ret ?_
                exact ⟨.inr rfl, _, (.cons (by first | exact .v (by ((repeat apply Look.there rfl); exact Look.here)) (.f (.v _)) | exact .v (by ((repeat apply Look.there rfl); exact Look.here)) (.row rfl (by first | exact rfl | (simp; done) | (simp; omega))) | exact .v (by ((repeat apply Look.there rfl); exact Look.here)) (.f .nil) | exact .a (by ((repeat apply Look.there rfl); exact Look.here)) | skip) .nil), oneB (by simp_all [unF])⟩ -- LEAF 22: ret
          ·
            refine no ?_
            refine no ?_
            refine no ?_
            refine pkF ?_
            refine pkF ?_
            refine mv ?_
            refine mv ?_
            refine nt ?_
            refine mv ?_
            refine gd (fun h24 => ?_) (fun h24 => ?_)
            ·
              first | refine ff ?_ | refine fb ?_ | refine fo ?_
              first | refine l1f ?_ | refine l1b ?_ | refine l1o ?_
              refine bo (hz := by exact rfl) ?_
              refine pkT ?_
              refine pkF ?_
              refine as_ ?_
              refine rNil ?_
              refine awp_ret ?_
              exact ⟨.inr rfl, _, (.cons (by first | exact .v (by ((repeat apply Look.there rfl); exact Look.here)) (.f (.v _)) | exact .v (by ((repeat apply Look.there rfl); exact Look.here)) (.row rfl (by first | exact rfl | (simp; done) | (simp; omega))) | exact .v (by ((repeat apply Look.there rfl); exact Look.here)) (.f .nil) | exact .a (by ((repeat apply Look.there rfl); exact Look.here)) | skip) .nil), oneB (by simp_all [unF])⟩ -- LEAF 23: ret
            ·
              refine no ?_
              refine no ?_
              refine no ?_
              refine pkF ?_
              refine pkF ?_
              refine as_ ?_
              refine rNil ?_
              refine awp_ret ?_
              exact ⟨.inr rfl, _, (.cons (by first | exact .v (by ((repeat apply Look.there rfl); exact Look.here)) (.f (.v _)) | exact .v (by ((repeat apply Look.there rfl); exact Look.here)) (.row rfl (by first | exact rfl | (simp; done) | (simp; omega))) | exact .v (by ((repeat apply Look.there rfl); exact Look.here)) (.f .nil) | exact .a (by ((repeat apply Look.there rfl); exact Look.here)) | skip) .nil), oneB (by simp_all [unF])⟩ -- LEAF 24: ret
  ·
    refine no ?_
    refine no ?_
    refine no ?_
    refine pkF ?_
    refine mv ?_
    refine mv ?_
    refine nt ?_
    refine mv ?_
    refine gd (fun h25 => ?_) (fun h25 => ?_)
    ·
      first | refine ff ?_ | refine fb ?_ | refine fo ?_
      first | refine l1f ?_ | refine l1b ?_ | refine l1o ?_
      refine bo (hz := by exact rfl) ?_
      refine pkT ?_
      refine pkF ?_
      refine mv ?_
      refine gd (fun h26 => ?_) (fun h26 => ?_)
      ·
        refine no ?_
        refine no ?_
        refine no ?_
        refine noU ?_
        refine noU ?_
        refine noU ?_
        refine no ?_
        refine pkT ?_
        refine mv ?_
        refine no ?_
        refine no ?_
        refine no ?_
        refine noU ?_
        refine noU ?_
        refine noU ?_
        refine no ?_
        refine pkT ?_
        refine mv ?_
        refine no ?_
        refine no ?_
        refine no ?_
        refine noU ?_
        refine noU ?_
        refine noU ?_
        refine no ?_
        refine pkT ?_
        refine as_ ?_
        refine rNil ?_
        refine awp_ret ?_
        exact ⟨.inr rfl, _, (.cons (by first | exact .v (by ((repeat apply Look.there rfl); exact Look.here)) (.f (.v _)) | exact .v (by ((repeat apply Look.there rfl); exact Look.here)) (.row rfl (by first | exact rfl | (simp; done) | (simp; omega))) | exact .v (by ((repeat apply Look.there rfl); exact Look.here)) (.f .nil) | exact .a (by ((repeat apply Look.there rfl); exact Look.here)) | skip) .nil), oneB (by simp_all [unF])⟩ -- LEAF 25: ret
      ·
        refine mv ?_
        refine nt ?_
        refine mv ?_
        refine gd (fun h27 => ?_) (fun h27 => ?_)
        ·
          first | refine ff ?_ | refine fb ?_ | refine fo ?_
          first | refine l1f ?_ | refine l1b ?_ | refine l1o ?_
          refine bo (hz := by exact rfl) ?_
          refine pkT ?_
          refine pkF ?_
          refine mv ?_
          refine gd (fun h28 => ?_) (fun h28 => ?_)
          ·
            refine no ?_
            refine no ?_
            refine no ?_
            refine noU ?_
            refine noU ?_
            refine noU ?_
            refine no ?_
            refine pkT ?_
            refine mv ?_
            refine no ?_
            refine no ?_
            refine no ?_
            refine noU ?_
            refine noU ?_
            refine noU ?_
            refine no ?_
            refine pkT ?_
            refine as_ ?_
            refine rNil ?_
            refine awp_ret ?_
            exact ⟨.inr rfl, _, (.cons (by first | exact .v (by ((repeat apply Look.there rfl); exact Look.here)) (.f (.v _)) | exact .v (by ((repeat apply Look.there rfl); exact Look.here)) (.row rfl (by first | exact rfl | (simp; done) | (simp; omega))) | exact .v (by ((repeat apply Look.there rfl); exact Look.here)) (.f .nil) | exact .a (by ((repeat apply Look.there rfl); exact Look.here)) | skip) .nil), oneB (by simp_all [unF])⟩ -- LEAF 26: ret
          ·
            refine mv ?_
            refine nt ?_
            refine mv ?_
            refine gd (fun h29 => ?_) (fun h29 => ?_)
            ·
              first | refine ff ?_ | refine fb ?_ | refine fo ?_
              first | refine l1f ?_ | refine l1b ?_ | refine l1o ?_
              refine bo (hz := by exact rfl) ?_
              refine pkT ?_
              refine pkF ?_
              refine mv ?_
              refine gd (fun h30 => ?_) (fun h30 => ?_)
              ·
                refine no ?_
                refine no ?_
                refine no ?_
                refine noU ?_
                refine noU ?_
                refine noU ?_
                refine no ?_
                refine pkT ?_
                refine as_ ?_
                refine rNil ?_
                refine awp_ret ?_
                exact ⟨.inr rfl, _, (.cons (by first | exact .v (by ((repeat apply Look.there rfl); exact Look.here)) (.f (.v _)) | exact .v (by ((repeat apply Look.there rfl); exact Look.here)) (.row rfl (by first | exact rfl | (simp; done) | (simp; omega))) | exact .v (by ((repeat apply Look.there rfl); exact Look.here)) (.f .nil) | exact .a (by ((repeat apply Look.there rfl); exact Look.here)) | skip) .nil), oneB (by simp_all [unF])⟩ -- LEAF 27: ret
              ·
                refine mv ?_
                refine nt ?_
                refine mv ?_
                refine gd (fun h31 => ?_) (fun h31 => ?_)
                ·
                  first | refine ff ?_ | refine fb ?_ | refine fo ?_
                  first | refine l1f ?_ | refine l1b ?_ | refine l1o ?_
                  refine bo (hz := by exact rfl) ?_
                  refine pkT ?_
                  refine pkF ?_
                  refine as_ ?_
                  refine rNil ?_
                  refine awp_ret ?_
                  exact ⟨.inr rfl, _, (.cons (by first | exact .v (by ((repeat apply Look.there rfl); exact Look.here)) (.f (.v _)) | exact .v (by ((repeat apply Look.there rfl); exact Look.here)) (.row rfl (by first | exact rfl | (simp; done) | (simp; omega))) | exact .v (by ((repeat apply Look.there rfl); exact Look.here)) (.f .nil) | exact .a (by ((repeat apply Look.there rfl); exact Look.here)) | skip) .nil), oneB (by simp_all [unF])⟩ -- LEAF 28: ret
                ·
                  refine no ?_
                  refine no ?_
                  refine no ?_
                  refine pkF ?_
                  refine pkF ?_
                  refine as_ ?_
                  refine rNil ?_
                  refine awp_ret ?_
                  exact ⟨.inr rfl, _, (.cons (by first | exact .v (by ((repeat apply Look.there rfl); exact Look.here)) (.f (.v _)) | exact .v (by ((repeat apply Look.there rfl); exact Look.here)) (.row rfl (by first | exact rfl | (simp; done) | (simp; omega))) | exact .v (by ((repeat apply Look.there rfl); exact Look.here)) (.f .nil) | exact .a (by ((repeat apply Look.there rfl); exact Look.here)) | skip) .nil), oneB (by simp_all [unF])⟩ -- LEAF 29: ret
            ·
              refine no ?_
              refine no ?_
              refine no ?_
              refine pkF ?_
              refine pkF ?_
              refine mv ?_
              refine mv ?_
              refine nt ?_
              refine mv ?_
              refine gd (fun h32 => ?_) (fun h32 => ?_)
              ·
                first | refine ff ?_ | refine fb ?_ | refine fo ?_
                first | refine l1f ?_ | refine l1b ?_ | refine l1o ?_
                refine bo (hz := by exact rfl) ?_
                refine pkT ?_
                refine pkF ?_
                refine as_ ?_
                refine rNil ?_
                refine awp_ret ?_
                exact ⟨.inr rfl, _, (.cons (by first | exact .v (by ((repeat apply Look.there rfl); exact Look.here)) (.f (.v _)) | exact .v (by ((repeat apply Look.there rfl); exact Look.here)) (.row rfl (by first | exact rfl | (simp; done) | (simp; omega))) | exact .v (by ((repeat apply Look.there rfl); exact Look.here)) (.f .nil) | exact .a (by ((repeat apply Look.there rfl); exact Look.here)) | skip) .nil), oneB (by simp_all [unF])⟩ -- LEAF 30: ret
              ·
                refine no ?_
                refine no ?_
                refine no ?_
                refine pkF ?_
                refine pkF ?_
                refine as_ ?_
                refine rNil ?_
                refine awp_ret ?_
                exact ⟨.inr rfl, _, (.cons (by first | exact .v (by ((repeat apply Look.there rfl); exact Look.here)) (.f (.v _)) | exact .v (by ((repeat apply Look.there rfl); exact Look.here)) (.row rfl (by first | exact rfl | (simp; done) | (simp; omega))) | exact .v (by ((repeat apply Look.there rfl); exact Look.here)) (.f .nil) | exact .a (by ((repeat apply Look.there rfl); exact Look.here)) | skip) .nil), oneB (by simp_all [unF])⟩ -- LEAF 31: ret
        ·
          refine no ?_
          refine no ?_
          refine no ?_
          refine pkF ?_
          refine pkF ?_
          refine mv ?_
          refine mv ?_
          refine nt ?_
          refine mv ?_
          refine gd (fun h33 => ?_) (fun h33 => ?_)
          ·
            first | refine ff ?_ | refine fb ?_ | refine fo ?_
            first | refine l1f ?_ | refine l1b ?_ | refine l1o ?_
            refine bo (hz := by exact rfl) ?_
            refine pkT ?_
            refine pkF ?_
            refine mv ?_
            refine gd (fun h34 => ?_) (fun h34 => ?_)
            ·
              refine no ?_
              refine no ?_
              refine no ?_
              refine noU ?_
              refine noU ?_
              refine noU ?_
              refine no ?_
              refine pkT ?_
              refine as_ ?_
              refine rNil ?_
              refine awp_ret ?_
              exact ⟨.inr rfl, _, (.cons (by first | exact .v (by ((repeat apply Look.there rfl); exact Look.here)) (.f (.v _)) | exact .v (by ((repeat apply Look.there rfl); exact Look.here)) (.row rfl (by first | exact rfl | (simp; done) | (simp; omega))) | exact .v (by ((repeat apply Look.there rfl); exact Look.here)) (.f .nil) | exact .a (by ((repeat apply Look.there rfl); exact Look.here)) | skip) .nil), oneB (by simp_all [unF])⟩ -- LEAF 32: ret
            ·
              refine mv ?_
              refine nt ?_
              refine mv ?_
              refine gd (fun h35 => ?_) (fun h35 => ?_)
              ·
                first | refine ff ?_ | refine fb ?_ | refine fo ?_
                first | refine l1f ?_ | refine l1b ?_ | refine l1o ?_
                refine bo (hz := by exact rfl) ?_
                refine pkT ?_
                refine pkF ?_
                refine as_ ?_
                refine rNil ?_
                refine awp_ret ?_
                exact ⟨.inr rfl, _, (.cons (by first | exact .v (by ((repeat apply Look.there rfl); exact Look.here)) (.f (.v _)) | exact .v (by ((repeat apply Look.there rfl); exact Look.here)) (.row rfl (by first | exact rfl | (simp; done) | (simp; omega))) | exact .v (by ((repeat apply Look.there rfl); exact Look.here)) (.f .nil) | exact .a (by ((repeat apply Look.there rfl); exact Look.here)) | skip) .nil), oneB (by simp_all [unF])⟩ -- LEAF 33: ret
              ·
                refine no ?_
                refine no ?_
                refine no ?_
                refine pkF ?_
                refine pkF ?_
                refine as_ ?_
                refine rNil ?_
                refine awp_ret ?_
                exact ⟨.inr rfl, _, (.cons (by first | exact .v (by ((repeat apply Look.there rfl); exact Look.here)) (.f (.v _)) | exact .v (by ((repeat apply Look.there rfl); exact Look.here)) (.row rfl (by first | exact rfl | (simp; done) | (simp; omega))) | exact .v (by ((repeat apply Look.there rfl); exact Look.here)) (.f .nil) | exact .a (by ((repeat apply Look.there rfl); exact Look.here)) | skip) .nil), oneB (by simp_all [unF])⟩ -- LEAF 34: ret
          ·
            refine no ?_
            refine no ?_
            refine no ?_
            refine pkF ?_
            refine pkF ?_
            refine mv ?_
            refine mv ?_
            refine nt ?_
            refine mv ?_
            refine gd (fun h36 => ?_) (fun h36 => ?_)
            ·
              first | refine ff ?_ | refine fb ?_ | refine fo ?_
              first | refine l1f ?_ | refine l1b ?_ | refine l1o ?_
              refine bo (hz := by exact rfl) ?_
              refine pkT ?_
              refine pkF ?_
              refine as_ ?_
              refine rNil ?_
              refine awp_ret ?_
              exact ⟨.inr rfl, _, (.cons (by first | exact .v (by ((repeat apply Look.there rfl); exact Look.here)) (.f (.v _)) | exact .v (by ((repeat apply Look.there rfl); exact Look.here)) (.row rfl (by first | exact rfl | (simp; done) | (simp; omega))) | exact .v (by ((repeat apply Look.there rfl); exact Look.here)) (.f .nil) | exact .a (by ((repeat apply Look.there rfl); exact Look.here)) | skip) .nil), oneB (by simp_all [unF])⟩ -- LEAF 35: ret
            ·
              refine no ?_
              refine no ?_
              refine no ?_
              refine pkF ?_
              refine pkF ?_
              refine as_ ?_
              refine rNil ?_
              refine awp_ret ?_
              exact ⟨.inr rfl, _, (.cons (by first | exact .v (by ((repeat apply Look.there rfl); exact Look.here)) (.f (.v _)) | exact .v (by ((repeat apply Look.there rfl); exact Look.here)) (.row rfl (by first | exact rfl | (simp; done) | (simp; omega))) | exact .v (by ((repeat apply Look.there rfl); exact Look.here)) (.f .nil) | exact .a (by ((repeat apply Look.there rfl); exact Look.here)) | skip) .nil), oneB (by simp_all [unF])⟩ -- LEAF 36: ret
    ·
      refine no ?_
      refine no ?_
      refine no ?_
      refine pkF ?_
      refine pkF ?_
      refine mv ?_
      refine mv ?_
      refine nt ?_
      refine mv ?_
      refine gd (fun h37 => ?_) (fun h37 => ?_)
      ·
        first | refine ff ?_ | refine fb ?_ | refine fo ?_
        first | refine l1f ?_ | refine l1b ?_ | refine l1o ?_
        refine bo (hz := by exact rfl) ?_
        refine pkT ?_
        refine pkF ?_
        refine mv ?_
        refine gd (fun h38 => ?_) (fun h38 => ?_)
        ·
          refine no ?_
          refine no ?_
          refine no ?_
          refine noU ?_
          refine noU ?_
          refine noU ?_
          refine no ?_
          refine pkT ?_
          refine mv ?_
          refine no ?_
          refine no ?_
          refine no ?_
          refine noU ?_
          refine noU ?_
          refine noU ?_
          refine no ?_
          refine pkT ?_
          refine as_ ?_
          refine rNil ?_
          refine awp_ret ?_
          exact ⟨.inr rfl, _, (.cons (by first | exact .v (by ((repeat apply Look.there rfl); exact Look.here)) (.f (.v _)) | exact .v (by ((repeat apply Look.there rfl); exact Look.here)) (.row rfl (by first | exact rfl | (simp; done) | (simp; omega))) | exact .v (by ((repeat apply Look.there rfl); exact Look.here)) (.f .nil) | exact .a (by ((repeat apply Look.there rfl); exact Look.here)) | skip) .nil), oneB (by simp_all [unF])⟩ -- LEAF 37: ret
        ·
          refine mv ?_
          refine nt ?_
          refine mv ?_
          refine gd (fun h39 => ?_) (fun h39 => ?_)
          ·
            first | refine ff ?_ | refine fb ?_ | refine fo ?_
            first | refine l1f ?_ | refine l1b ?_ | refine l1o ?_
            refine bo (hz := by exact rfl) ?_
            refine pkT ?_
            refine pkF ?_
            refine mv ?_
            refine gd (fun h40 => ?_) (fun h40 => ?_)
            ·
              refine no ?_
              refine no ?_
              refine no ?_
              refine noU ?_
              refine noU ?_
              refine noU ?_
              refine no ?_
              refine pkT ?_
              refine as_ ?_
              refine rNil ?_
              refine awp_ret ?_
              exact ⟨.inr rfl, _, (.cons (by first | exact .v (by ((repeat apply Look.there rfl); exact Look.here)) (.f (.v _)) | exact .v (by ((repeat apply Look.there rfl); exact Look.here)) (.row rfl (by first | exact rfl | (simp; done) | (simp; omega))) | exact .v (by ((repeat apply Look.there rfl); exact Look.here)) (.f .nil) | exact .a (by ((repeat apply Look.there rfl); exact Look.here)) | skip) .nil), oneB (by simp_all [unF])⟩ -- LEAF 38: ret
            ·
              refine mv ?_
              refine nt ?_
              refine mv ?_
              refine gd (fun h41 => ?_) (fun h41 => ?_)
              ·
                first | refine ff ?_ | refine fb ?_ | refine fo ?_
                first | refine l1f ?_ | refine l1b ?_ | refine l1o ?_
                refine bo (hz := by exact rfl) ?_
                refine pkT ?_
                refine pkF ?_
                refine as_ ?_
                refine rNil ?_
                refine awp_ret ?_
                exact ⟨.inr rfl, _, (.cons (by first | exact .v (by ((repeat apply Look.there rfl); exact Look.here)) (.f (.v _)) | exact .v (by ((repeat apply Look.there rfl); exact Look.here)) (.row rfl (by first | exact rfl | (simp; done) | (simp; omega))) | exact .v (by ((repeat apply Look.there rfl); exact Look.here)) (.f .nil) | exact .a (by ((repeat apply Look.there rfl); exact Look.here)) | skip) .nil), oneB (by simp_all [unF])⟩ -- LEAF 39: ret
              ·
                refine no ?_
                refine no ?_
                refine no ?_
                refine pkF ?_
                refine pkF ?_
                refine as_ ?_
                refine rNil ?_
                refine awp_ret ?_
                exact ⟨.inr rfl, _, (.cons (by first | exact .v (by ((repeat apply Look.there rfl); exact Look.here)) (.f (.v _)) | exact .v (by ((repeat apply Look.there rfl); exact Look.here)) (.row rfl (by first | exact rfl | (simp; done) | (simp; omega))) | exact .v (by ((repeat apply Look.there rfl); exact Look.here)) (.f .nil) | exact .a (by ((repeat apply Look.there rfl); exact Look.here)) | skip) .nil), oneB (by simp_all [unF])⟩ -- LEAF 40: ret
          ·
            refine no ?_
            refine no ?_
            refine no ?_
            refine pkF ?_
            refine pkF ?_
            refine mv ?_
            refine mv ?_
            refine nt ?_
            refine mv ?_
            refine gd (fun h42 => ?_) (fun h42 => ?_)
            ·
              first | refine ff ?_ | refine fb ?_ | refine fo ?_
              first | refine l1f ?_ | refine l1b ?_ | refine l1o ?_
              refine bo (hz := by exact rfl) ?_
              refine pkT ?_
              refine pkF ?_
              refine as_ ?_
              refine rNil ?_
              refine awp_ret ?_
              exact ⟨.inr rfl, _, (.cons (by first | exact .v (by ((repeat apply Look.there rfl); exact Look.here)) (.f (.v _)) | exact .v (by ((repeat apply Look.there rfl); exact Look.here)) (.row rfl (by first | exact rfl | (simp; done) | (simp; omega))) | exact .v (by ((repeat apply Look.there rfl); exact Look.here)) (.f .nil) | exact .a (by ((repeat apply Look.there rfl); exact Look.here)) | skip) .nil), oneB (by simp_all [unF])⟩ -- LEAF 41: ret
            ·
              refine no ?_
              refine no ?_
              refine no ?_
              refine pkF ?_
              refine pkF ?_
              refine as_ ?_
              refine rNil ?_
              refine awp_ret ?_
              exact ⟨.inr rfl, _, (.cons (by first | exact .v (by ((repeat apply Look.there rfl); exact Look.here)) (.f (.v _)) | exact .v (by ((repeat apply Look.there rfl); exact Look.here)) (.row rfl (by first | exact rfl | (simp; done) | (simp; omega))) | exact .v (by ((repeat apply Look.there rfl); exact Look.here)) (.f .nil) | exact .a (by ((repeat apply Look.there rfl); exact Look.here)) | skip) .nil), oneB (by simp_all [unF])⟩ -- LEAF 42: ret
      ·
        refine no ?_
        refine no ?_
        refine no ?_
        refine pkF ?_
        refine pkF ?_
        refine mv ?_
        refine mv ?_
        refine nt ?_
        refine mv ?_
        refine gd (fun h43 => ?_) (fun h43 => ?_)
        ·
          first | refine ff ?_ | refine fb ?_ | refine fo ?_
          first | refine l1f ?_ | refine l1b ?_ | refine l1o ?_
          refine bo (hz := by exact rfl) ?_
          refine pkT ?_
          refine pkF ?_
          refine mv ?_
          refine gd (fun h44 => ?_) (fun h44 => ?_)
          ·
            refine no ?_
            refine no ?_
            refine no ?_
            refine noU ?_
            refine noU ?_
            refine noU ?_
            refine no ?_
            refine pkT ?_
            refine as_ ?_
            refine rNil ?_
            refine awp_ret ?_
            exact ⟨.inr rfl, _, (.cons (by first | exact .v (by ((repeat apply Look.there rfl); exact Look.here)) (.f (.v _)) | exact .v (by ((repeat apply Look.there rfl); exact Look.here)) (.row rfl (by first | exact rfl | (simp; done) | (simp; omega))) | exact .v (by ((repeat apply Look.there rfl); exact Look.here)) (.f .nil) | exact .a (by ((repeat apply Look.there rfl); exact Look.here)) | skip) .nil), oneB (by simp_all [unF])⟩ -- LEAF 43: ret
          ·
            refine mv ?_
            refine nt ?_
            refine mv ?_
            refine gd (fun h45 => ?_) (fun h45 => ?_)
            ·
              first | refine ff ?_ | refine fb ?_ | refine fo ?_
              first | refine l1f ?_ | refine l1b ?_ | refine l1o ?_
              refine bo (hz := by exact rfl) ?_
              refine pkT ?_
              refine pkF ?_
              refine as_ ?_
              refine rNil ?_
              refine awp_ret ?_
              exact ⟨.inr rfl, _, (.cons (by first | exact .v (by ((repeat apply Look.there rfl); exact Look.here)) (.f (.v _)) | exact .v (by ((repeat apply Look.there rfl); exact Look.here)) (.row rfl (by first | exact rfl | (simp; done) | (simp; omega))) | exact .v (by ((repeat apply Look.there rfl); exact Look.here)) (.f .nil) | exact .a (by ((repeat apply Look.there rfl); exact Look.here)) | skip) .nil), oneB (by simp_all [unF])⟩ -- LEAF 44: ret
            ·
              refine no ?_
              refine no ?_
              refine no ?_
              refine pkF ?_
              refine pkF ?_
              refine as_ ?_
              refine rNil ?_
              refine awp_ret ?_
              exact ⟨.inr rfl, _, (.cons (by first | exact .v (by ((repeat apply Look.there rfl); exact Look.here)) (.f (.v _)) | exact .v (by ((repeat apply Look.there rfl); exact Look.here)) (.row rfl (by first | exact rfl | (simp; done) | (simp; omega))) | exact .v (by ((repeat apply Look.there rfl); exact Look.here)) (.f .nil) | exact .a (by ((repeat apply Look.there rfl); exact Look.here)) | skip) .nil), oneB (by simp_all [unF])⟩ -- LEAF 45: ret
        ·
          refine no ?_
          refine no ?_
          refine no ?_
          refine pkF ?_
          refine pkF ?_
          refine mv ?_
          refine mv ?_
          refine nt ?_
          refine mv ?_
          refine gd (fun h46 => ?_) (fun h46 => ?_)
          ·
            first | refine ff ?_ | refine fb ?_ | refine fo ?_
            first | refine l1f ?_ | refine l1b ?_ | refine l1o ?_
            refine bo (hz := by exact rfl) ?_
            refine pkT ?_
            refine pkF ?_
            refine as_ ?_
            refine rNil ?_
            refine awp_ret ?_
            exact ⟨.inr rfl, _, (.cons (by first | exact .v (by ((repeat apply Look.there rfl); exact Look.here)) (.f (.v _)) | exact .v (by ((repeat apply Look.there rfl); exact Look.here)) (.row rfl (by first | exact rfl | (simp; done) | (simp; omega))) | exact .v (by ((repeat apply Look.there rfl); exact Look.here)) (.f .nil) | exact .a (by ((repeat apply Look.there rfl); exact Look.here)) | skip) .nil), oneB (by simp_all [unF])⟩ -- LEAF 46: ret
          ·
            refine no ?_
            refine no ?_
            refine no ?_
            refine pkF ?_
            refine pkF ?_
            refine as_ ?_
            refine rNil ?_
            refine awp_ret ?_
            exact ⟨.inr rfl, _, (.cons (by first | exact .v (by ((repeat apply Look.there rfl); exact Look.here)) (.f (.v _)) | exact .v (by ((repeat apply Look.there rfl); exact Look.here)) (.row rfl (by first | exact rfl | (simp; done) | (simp; omega))) | exact .v (by ((repeat apply Look.there rfl); exact Look.here)) (.f .nil) | exact .a (by ((repeat apply Look.there rfl); exact Look.here)) | skip) .nil), oneB (by simp_all [unF])⟩ -- LEAF 47: ret

def immOk (p : Prg) (x : Ins) : Bool := if x.op = 1 then inF x.imm (-2147483648) 2147483647 else if x.op = 37 then inF x.imm 0 ((if p.st = 3 then p.ip * 3 else p.ip) - 1) else if x.op = 38 then inF x.imm 0 (p.un - 1) else if x.op = 39 then inF x.imm 0 (p.ou - 1) else if x.op = 40 ∨ x.op = 41 then inF x.imm 0 (4 * p.tx - 1) else if x.op = 42 then inF x.imm 0 (p.bf - 1) else if x.op = 46 then inF x.imm 1 16 else true
def Small (p : Prg) : Prop := 0 ≤ p.ip ∧ p.ip ≤ 32 ∧ 0 ≤ p.ou ∧ p.ou ≤ 32 ∧ 0 ≤ p.un ∧ p.un ≤ 64 ∧ 0 ≤ p.tx ∧ p.tx ≤ 4 ∧ 0 ≤ p.bf ∧ p.bf ≤ 4 ∧ 0 ≤ p.rg ∧ p.rg ≤ 8192
/-- frustum/isa.immediate -/
theorem c54 (p : Prg) (x : Ins) (hs : Small p) : Fn Try.prog 54 [A p, A x] (.one (B (immOk p x))) := by
  refine fnI Try.func54 Try.ntmps54 fun hb => ?_
  obtain ⟨s1, s2, s3, s4, s5, s6, s7, s8, s9, s10, s11, s12⟩ := hs
  refine sg ?_
  refine bx _ ?_
  refine bx _ ?_
  refine as_ ?_
  refine rNil ?_
  refine sq ?_
  refine sg ?_
  first | refine ff ?_ | refine fb ?_ | refine fo ?_
  first | refine l1f ?_ | refine l1b ?_ | refine l1o ?_
  refine rNil ?_
  refine bk ?_
  refine sg ?_
  refine bo (hz := by exact rfl) ?_
  refine as_ ?_
  refine rNil ?_
  refine cn (fun h1 => ?_) (fun h1 => ?_)
  ·
    refine sg ?_
    first | refine ff ?_ | refine fb ?_ | refine fo ?_
    first | refine l1f ?_ | refine l1b ?_ | refine l1o ?_
    refine cl (c37 _ _ _) ?_
    refine as_ ?_
    refine rNil ?_
    refine awp_ret ?_
    refine br ?_
    refine tr ?_
    exact ⟨.inr rfl, _, (.cons (by first | exact .v (by ((repeat apply Look.there rfl); exact Look.here)) (.f (.v _)) | exact .v (by ((repeat apply Look.there rfl); exact Look.here)) (.row rfl (by first | exact rfl | (simp; done) | (simp; omega))) | exact .v (by ((repeat apply Look.there rfl); exact Look.here)) (.f .nil) | exact .a (by ((repeat apply Look.there rfl); exact Look.here)) | skip) .nil), oneB (by simp only [beq_iff_eq, beq_eq_false_iff_ne, ne_eq] at *; simp [immOk, *])⟩ -- LEAF 1: ret
  ·
    refine sg ?_
    refine bo (hz := by exact rfl) ?_
    refine as_ ?_
    refine rNil ?_
    refine cn (fun h2 => ?_) (fun h2 => ?_)
    ·
      refine sg ?_
      first | refine ff ?_ | refine fb ?_ | refine fo ?_
      first | refine l1f ?_ | refine l1b ?_ | refine l1o ?_
      refine as_ ?_
      refine rNil ?_
      refine sq ?_
      refine sg ?_
      first | refine ff ?_ | refine fb ?_ | refine fo ?_
      first | refine l1f ?_ | refine l1b ?_ | refine l1o ?_
      refine bo (hz := by exact rfl) ?_
      refine rNil ?_
      refine cn (fun h3 => ?_) (fun h3 => ?_)
      ·
        refine rg ?_
        refine mv ?_
        refine bo (hz := by first | exact bop_mul (by omega) (by omega) | exact rfl) ?_
        refine as_ ?_
        refine rNil ?_
        refine tn ?_
        refine sg ?_
        first | refine ff ?_ | refine fb ?_ | refine fo ?_
        first | refine l1f ?_ | refine l1b ?_ | refine l1o ?_
        refine mv ?_
        refine bo (hz := by first | exact bop_sub (by omega) (by omega) | exact rfl) ?_
        refine cl (c37 _ _ _) ?_
        refine as_ ?_
        refine rNil ?_
        refine awp_ret ?_
        refine br ?_
        refine tr ?_
        exact ⟨.inr rfl, _, (.cons (by first | exact .v (by ((repeat apply Look.there rfl); exact Look.here)) (.f (.v _)) | exact .v (by ((repeat apply Look.there rfl); exact Look.here)) (.row rfl (by first | exact rfl | (simp; done) | (simp; omega))) | exact .v (by ((repeat apply Look.there rfl); exact Look.here)) (.f .nil) | exact .a (by ((repeat apply Look.there rfl); exact Look.here)) | skip) .nil), oneB (by simp only [beq_iff_eq, beq_eq_false_iff_ne, ne_eq] at *; simp [immOk, *])⟩ -- LEAF 2: ret
      ·
        refine awp_skip ?_
        refine tn ?_
        refine sg ?_
        first | refine ff ?_ | refine fb ?_ | refine fo ?_
        first | refine l1f ?_ | refine l1b ?_ | refine l1o ?_
        refine mv ?_
        refine bo (hz := by first | exact bop_sub (by omega) (by omega) | exact rfl) ?_
        refine cl (c37 _ _ _) ?_
        refine as_ ?_
        refine rNil ?_
        refine awp_ret ?_
        refine br ?_
        refine tr ?_
        exact ⟨.inr rfl, _, (.cons (by first | exact .v (by ((repeat apply Look.there rfl); exact Look.here)) (.f (.v _)) | exact .v (by ((repeat apply Look.there rfl); exact Look.here)) (.row rfl (by first | exact rfl | (simp; done) | (simp; omega))) | exact .v (by ((repeat apply Look.there rfl); exact Look.here)) (.f .nil) | exact .a (by ((repeat apply Look.there rfl); exact Look.here)) | skip) .nil), oneB (by simp only [beq_iff_eq, beq_eq_false_iff_ne, ne_eq] at *; simp [immOk, *])⟩ -- LEAF 3: ret
    ·
      refine sg ?_
      refine bo (hz := by exact rfl) ?_
      refine as_ ?_
      refine rNil ?_
      refine cn (fun h4 => ?_) (fun h4 => ?_)
      ·
        refine sg ?_
        first | refine ff ?_ | refine fb ?_ | refine fo ?_
        first | refine l1f ?_ | refine l1b ?_ | refine l1o ?_
        first | refine ff ?_ | refine fb ?_ | refine fo ?_
        first | refine l1f ?_ | refine l1b ?_ | refine l1o ?_
        refine bo (hz := by first | exact bop_sub (by omega) (by omega) | exact rfl) ?_
        refine cl (c37 _ _ _) ?_
        refine as_ ?_
        refine rNil ?_
        refine awp_ret ?_
        refine br ?_
        refine tr ?_
        exact ⟨.inr rfl, _, (.cons (by first | exact .v (by ((repeat apply Look.there rfl); exact Look.here)) (.f (.v _)) | exact .v (by ((repeat apply Look.there rfl); exact Look.here)) (.row rfl (by first | exact rfl | (simp; done) | (simp; omega))) | exact .v (by ((repeat apply Look.there rfl); exact Look.here)) (.f .nil) | exact .a (by ((repeat apply Look.there rfl); exact Look.here)) | skip) .nil), oneB (by simp only [beq_iff_eq, beq_eq_false_iff_ne, ne_eq] at *; simp [immOk, *])⟩ -- LEAF 4: ret
      ·
        refine sg ?_
        refine bo (hz := by exact rfl) ?_
        refine as_ ?_
        refine rNil ?_
        refine cn (fun h5 => ?_) (fun h5 => ?_)
        ·
          refine sg ?_
          first | refine ff ?_ | refine fb ?_ | refine fo ?_
          first | refine l1f ?_ | refine l1b ?_ | refine l1o ?_
          first | refine ff ?_ | refine fb ?_ | refine fo ?_
          first | refine l1f ?_ | refine l1b ?_ | refine l1o ?_
          refine bo (hz := by first | exact bop_sub (by omega) (by omega) | exact rfl) ?_
          refine cl (c37 _ _ _) ?_
          refine as_ ?_
          refine rNil ?_
          refine awp_ret ?_
          refine br ?_
          refine tr ?_
          exact ⟨.inr rfl, _, (.cons (by first | exact .v (by ((repeat apply Look.there rfl); exact Look.here)) (.f (.v _)) | exact .v (by ((repeat apply Look.there rfl); exact Look.here)) (.row rfl (by first | exact rfl | (simp; done) | (simp; omega))) | exact .v (by ((repeat apply Look.there rfl); exact Look.here)) (.f .nil) | exact .a (by ((repeat apply Look.there rfl); exact Look.here)) | skip) .nil), oneB (by simp only [beq_iff_eq, beq_eq_false_iff_ne, ne_eq] at *; simp [immOk, *])⟩ -- LEAF 5: ret
        ·
          refine sq ?_
          refine sg ?_
          refine bo (hz := by exact rfl) ?_
          refine as_ ?_
          refine rNil ?_
          refine cn (fun h6 => ?_) (fun h6 => ?_)
          ·
            refine awp_skip ?_
            refine tn ?_
            refine cn (fun h7 => ?_) (fun h7 => ?_)
            ·
              refine sg ?_
              first | refine ff ?_ | refine fb ?_ | refine fo ?_
              first | refine l1f ?_ | refine l1b ?_ | refine l1o ?_
              first | refine ff ?_ | refine fb ?_ | refine fo ?_
              first | refine l1f ?_ | refine l1b ?_ | refine l1o ?_
              refine bo (hz := by first | exact bop_mul (by omega) (by omega) | exact rfl) ?_
              refine bo (hz := by first | exact bop_sub (by omega) (by omega) | exact rfl) ?_
              refine cl (c37 _ _ _) ?_
              refine as_ ?_
              refine rNil ?_
              refine awp_ret ?_
              refine br ?_
              refine tr ?_
              exact ⟨.inr rfl, _, (.cons (by first | exact .v (by ((repeat apply Look.there rfl); exact Look.here)) (.f (.v _)) | exact .v (by ((repeat apply Look.there rfl); exact Look.here)) (.row rfl (by first | exact rfl | (simp; done) | (simp; omega))) | exact .v (by ((repeat apply Look.there rfl); exact Look.here)) (.f .nil) | exact .a (by ((repeat apply Look.there rfl); exact Look.here)) | skip) .nil), oneB (by simp only [beq_iff_eq, beq_eq_false_iff_ne, ne_eq] at *; simp [immOk, *])⟩ -- LEAF 6: ret
            ·
              first | exact absurd h7 (by decide) | (exfalso; simp_all; done)
          ·
            refine rg ?_
            refine bo (hz := by exact rfl) ?_
            refine as_ ?_
            refine rNil ?_
            refine tn ?_
            refine cn (fun h8 => ?_) (fun h8 => ?_)
            ·
              refine sg ?_
              first | refine ff ?_ | refine fb ?_ | refine fo ?_
              first | refine l1f ?_ | refine l1b ?_ | refine l1o ?_
              first | refine ff ?_ | refine fb ?_ | refine fo ?_
              first | refine l1f ?_ | refine l1b ?_ | refine l1o ?_
              refine bo (hz := by first | exact bop_mul (by omega) (by omega) | exact rfl) ?_
              refine bo (hz := by first | exact bop_sub (by omega) (by omega) | exact rfl) ?_
              refine cl (c37 _ _ _) ?_
              refine as_ ?_
              refine rNil ?_
              refine awp_ret ?_
              refine br ?_
              refine tr ?_
              exact ⟨.inr rfl, _, (.cons (by first | exact .v (by ((repeat apply Look.there rfl); exact Look.here)) (.f (.v _)) | exact .v (by ((repeat apply Look.there rfl); exact Look.here)) (.row rfl (by first | exact rfl | (simp; done) | (simp; omega))) | exact .v (by ((repeat apply Look.there rfl); exact Look.here)) (.f .nil) | exact .a (by ((repeat apply Look.there rfl); exact Look.here)) | skip) .nil), oneB (by simp only [beq_iff_eq, beq_eq_false_iff_ne, ne_eq] at *; simp [immOk, *])⟩ -- LEAF 7: ret
            ·
              refine sg ?_
              refine bo (hz := by exact rfl) ?_
              refine as_ ?_
              refine rNil ?_
              refine cn (fun h9 => ?_) (fun h9 => ?_)
              ·
                refine sg ?_
                first | refine ff ?_ | refine fb ?_ | refine fo ?_
                first | refine l1f ?_ | refine l1b ?_ | refine l1o ?_
                first | refine ff ?_ | refine fb ?_ | refine fo ?_
                first | refine l1f ?_ | refine l1b ?_ | refine l1o ?_
                refine bo (hz := by first | exact bop_sub (by omega) (by omega) | exact rfl) ?_
                refine cl (c37 _ _ _) ?_
                refine as_ ?_
                refine rNil ?_
                refine awp_ret ?_
                refine br ?_
                refine tr ?_
                exact ⟨.inr rfl, _, (.cons (by first | exact .v (by ((repeat apply Look.there rfl); exact Look.here)) (.f (.v _)) | exact .v (by ((repeat apply Look.there rfl); exact Look.here)) (.row rfl (by first | exact rfl | (simp; done) | (simp; omega))) | exact .v (by ((repeat apply Look.there rfl); exact Look.here)) (.f .nil) | exact .a (by ((repeat apply Look.there rfl); exact Look.here)) | skip) .nil), oneB (by simp only [beq_iff_eq, beq_eq_false_iff_ne, ne_eq] at *; simp [immOk, *])⟩ -- LEAF 8: ret
              ·
                refine sg ?_
                refine bo (hz := by exact rfl) ?_
                refine as_ ?_
                refine rNil ?_
                refine cn (fun h10 => ?_) (fun h10 => ?_)
                ·
                  refine sg ?_
                  first | refine ff ?_ | refine fb ?_ | refine fo ?_
                  first | refine l1f ?_ | refine l1b ?_ | refine l1o ?_
                  refine cl (c37 _ _ _) ?_
                  refine as_ ?_
                  refine rNil ?_
                  refine awp_ret ?_
                  refine br ?_
                  refine tr ?_
                  exact ⟨.inr rfl, _, (.cons (by first | exact .v (by ((repeat apply Look.there rfl); exact Look.here)) (.f (.v _)) | exact .v (by ((repeat apply Look.there rfl); exact Look.here)) (.row rfl (by first | exact rfl | (simp; done) | (simp; omega))) | exact .v (by ((repeat apply Look.there rfl); exact Look.here)) (.f .nil) | exact .a (by ((repeat apply Look.there rfl); exact Look.here)) | skip) .nil), oneB (by simp only [beq_iff_eq, beq_eq_false_iff_ne, ne_eq] at *; simp [immOk, *])⟩ -- LEAF 9: ret
                ·
                  refine awp_skip ?_
                  refine bn_ ?_
                  refine tn ?_
                  refine sg ?_
                  refine as_ ?_
                  refine rNil ?_
                  refine awp_ret ?_
                  exact ⟨.inr rfl, _, (.cons (by first | exact .v (by ((repeat apply Look.there rfl); exact Look.here)) (.f (.v _)) | exact .v (by ((repeat apply Look.there rfl); exact Look.here)) (.row rfl (by first | exact rfl | (simp; done) | (simp; omega))) | exact .v (by ((repeat apply Look.there rfl); exact Look.here)) (.f .nil) | exact .a (by ((repeat apply Look.there rfl); exact Look.here)) | skip) .nil), oneB (by simp only [beq_iff_eq, beq_eq_false_iff_ne, ne_eq] at *; simp [immOk, *])⟩ -- LEAF 10: ret

end Go.Proofs.Ytnhljpbpfaablaa.VS
