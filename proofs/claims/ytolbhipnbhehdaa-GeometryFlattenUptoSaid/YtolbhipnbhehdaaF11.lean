/- The walks of functions: what each computes, by itself. Conditions: none. -/
import Derived.Test.YtolbhipnbhehdaaF10
set_option linter.unusedVariables false
set_option linter.unusedSimpArgs false
namespace Go.Proofs.Ytolbhipnbhehdaa.VS
open Go
/-- frustum/frustumlaw30.GeometryStrips -/
theorem c5 (r : LR) (hl : ∀ l ∈ r.em, l.length ≤ 17592186044412) : Fn Try.prog 5 [A r] (.one (B true)) := by
  refine fnI Try.func5 Try.ntmps5 fun hb => ?_
  refine sg ?_
  refine bx _ ?_
  refine as_ ?_
  refine rNil ?_
  refine sq ?_
  refine sg ?_
  first | refine ff ?_ | refine fb ?_ | refine fo ?_
  first | refine l1f ?_ | refine l1b ?_ | refine l1o ?_
  first | refine lnM ?_ | refine ln ?_ | refine lnO ?_ | refine lnN ?_ | refine lnW ?_
  refine bo ?_
  refine mv ?_
  refine gd (fun h1 => ?_) (fun h1 => ?_)
  ·
    refine no ?_
    refine no ?_
    refine no ?_
    refine no ?_
    refine pkT ?_
    refine rNil ?_
    refine cn (fun h2 => ?_) (fun h2 => ?_)
    ·
      refine sg ?_
      refine cl (c17) ?_
      refine as_ ?_
      refine rNil ?_
      refine awp_ret ?_
      refine tr ?_
      exact ⟨.inr rfl, _, (.cons (by first | exact .v (by ((repeat apply Look.there rfl); exact Look.here)) (.f (.v _)) | exact .v (by ((repeat apply Look.there rfl); exact Look.here)) (.row rfl rfl) | exact .v (by ((repeat apply Look.there rfl); exact Look.here)) (.f .nil) | exact .a (by ((repeat apply Look.there rfl); exact Look.here)) | skip) .nil), rfl⟩ -- LEAF 1: ret
    ·
      exact absurd h2 (by decide)
  ·
    first | refine ff ?_ | refine fb ?_ | refine fo ?_
    first | refine l1f ?_ | refine l1b ?_ | refine l1o ?_
    first | refine lnM ?_ | refine ln ?_ | refine lnO ?_ | refine lnN ?_ | refine lnW ?_
    refine bo ?_
    refine pkF ?_
    refine rNil ?_
    refine cn (fun h3 => ?_) (fun h3 => ?_)
    ·
      refine sg ?_
      refine cl (c17) ?_
      refine as_ ?_
      refine rNil ?_
      refine awp_ret ?_
      refine tr ?_
      exact ⟨.inr rfl, _, (.cons (by first | exact .v (by ((repeat apply Look.there rfl); exact Look.here)) (.f (.v _)) | exact .v (by ((repeat apply Look.there rfl); exact Look.here)) (.row rfl rfl) | exact .v (by ((repeat apply Look.there rfl); exact Look.here)) (.f .nil) | exact .a (by ((repeat apply Look.there rfl); exact Look.here)) | skip) .nil), rfl⟩ -- LEAF 2: ret
    ·
      have hem : r.em.length ≤ 300 := by simp at h1; omega
      have hcu : r.cuts.length ≤ 300 := by simp at h3; omega
      refine awp_skip ?_
      refine tn ?_
      refine sd mixO ?_
      first | refine lAf ?_ | refine lAb ?_ | refine lAo ?_
      refine cl (c18 r hem hcu hl) ?_
      first | refine lAf ?_ | refine lAb ?_ | refine lAo ?_
      refine cl (c19 r hem hcu hl) ?_
      refine as_ ?_
      refine as_ ?_
      refine rNil ⟨rfl, ?_⟩
      refine sq ?_
      refine sg ?_
      refine mv ?_
      first | refine lnM ?_ | refine ln ?_ | refine lnO ?_ | refine lnN ?_ | refine lnW ?_
      refine mv ?_
      first | refine lnM ?_ | refine ln ?_ | refine lnO ?_ | refine lnN ?_ | refine lnW ?_
      refine bo ?_
      refine rNil ?_
      refine cn (fun h4 => ?_) (fun h4 => ?_)
      ·
        simp at h4 -- END
      ·
        refine awp_skip ?_
        refine tn ?_
        refine sq ?_
        refine sg ?_
        refine as_ ?_
        refine rNil ?_
        refine bk ?_
        obtain ⟨hfine, hsl⟩ := strips_fine r
        generalize hss : strips r = ss at hfine hsl ⊢
        refine lp (fun n S => ∃ k : Nat, n = ss.length - k ∧ k ≤ ss.length ∧ S = ⟨[(5, .r (I k)), (3, .r (L ss)), (4, .r (L ss)), (1, .box 0 0)], [.box 39 [.r (.v (.sl (r.outs.map Enc.c))), .r (B r.disc), .r (.v (.sl (r.em.map Enc.c))), .r (.v (.sl (r.cuts.map Enc.c)))]]⟩) ss.length ?_ ?_
        · exact wx 1 ⟨0, rfl, by omega, rfl⟩
        rintro n S ⟨k, hn, hk, rfl⟩
        refine sq ?_
        refine sg ?_
        refine mv ?_
        refine mv ?_
        first | refine lnM ?_ | refine ln ?_ | refine lnO ?_ | refine lnN ?_ | refine lnW ?_
        refine bo ?_
        refine rNil ?_
        refine cn (fun h5 => ?_) (fun h5 => ?_)
        ·
          have hk1 : k < ss.length := by simp at h5; omega
          obtain ⟨s, hs⟩ := ex_get hk1
          have hsb := (hfine s (List.mem_of_getElem? hs)).1
          refine awp_skip ?_
          refine tn ?_
          refine sq ?_
          refine bk ?_
          refine sq ?_
          refine sd mixO ?_
          refine mv ?_
          refine mv ?_
          first | refine xs_ ?_ | refine xo ?_ | refine xw ?_
          first | refine l1f ?_ | refine l1b ?_ | refine l1o ?_
          first | refine lnM ?_ | refine ln ?_ | refine lnO ?_ | refine lnN ?_ | refine lnW ?_
          refine mv ?_
          refine mv ?_
          first | refine xs_ ?_ | refine xo ?_ | refine xw ?_
          first | refine l1f ?_ | refine l1b ?_ | refine l1o ?_
          first | refine lnM ?_ | refine ln ?_ | refine lnO ?_ | refine lnN ?_ | refine lnW ?_
          refine bo ?_
          refine rNil ⟨rfl, ?_⟩
          refine cn (fun h6 => ?_) (fun h6 => ?_)
          ·
            simp at h6 -- END
          ·
            refine awp_skip ?_
            refine tn ?_
            refine sg ?_
            refine as_ ?_
            refine rNil ?_
            refine bk ?_
            refine lp (fun n S => ∃ j : Nat, n = s.length - j ∧ j ≤ s.length ∧ S = ⟨[(6, .r (I j)), (5, .r (I k)), (3, .r (L ss)), (4, .r (L ss)), (1, .box 0 0)], [.box 39 [.r (.v (.sl (r.outs.map Enc.c))), .r (B r.disc), .r (.v (.sl (r.em.map Enc.c))), .r (.v (.sl (r.cuts.map Enc.c)))]]⟩) s.length ?_ ?_
            · exact wx 1 ⟨0, rfl, by omega, rfl⟩
            rintro n' S ⟨j, hn', hj, rfl⟩
            refine sq ?_
            refine sg ?_
            refine mv ?_
            refine mv ?_
            refine mv ?_
            first | refine xs_ ?_ | refine xo ?_ | refine xw ?_
            first | refine l1f ?_ | refine l1b ?_ | refine l1o ?_
            first | refine lnM ?_ | refine ln ?_ | refine lnO ?_ | refine lnN ?_ | refine lnW ?_
            refine bo ?_
            refine rNil ?_
            refine cn (fun h7 => ?_) (fun h7 => ?_)
            ·
              have hj1 : j < s.length := by simp at h7; omega
              obtain ⟨x, hx⟩ := ex_get hj1
              refine awp_skip ?_
              refine tn ?_
              refine sq ?_
              refine bk ?_
              refine sd mixO ?_
              refine mv ?_
              refine mv ?_
              first | refine xs_ ?_ | refine xo ?_ | refine xw ?_
              first | refine l1f ?_ | refine l1b ?_ | refine l1o ?_
              refine mv ?_
              first | refine xs_ ?_ | refine xo ?_ | refine xw ?_
              first | refine lAf ?_ | refine lAb ?_ | refine lAo ?_
              refine mv ?_
              refine mv ?_
              first | refine xs_ ?_ | refine xo ?_ | refine xw ?_
              first | refine l1f ?_ | refine l1b ?_ | refine l1o ?_
              refine mv ?_
              first | refine xs_ ?_ | refine xo ?_ | refine xw ?_
              first | refine lAf ?_ | refine lAb ?_ | refine lAo ?_
              refine cl (c9 x x) ?_
              refine nt ?_
              refine rNil ⟨rfl, ?_⟩
              refine cn (fun h8 => ?_) (fun h8 => ?_)
              ·
                rw [eqV_refl] at h8; cases h8 -- END
              ·
                refine awp_skip ?_
                refine bn_ ?_
                refine tn ?_
                refine rg ?_
                refine mv ?_
                refine bo ?_
                refine as_ ?_
                refine rNil ?_
                refine tn ?_
                exact ⟨s.length - (j + 1), by omega, wx 1 ⟨j + 1, rfl, by omega, rfl⟩⟩ -- LEAF 3: round of loop 2
            ·
              refine awp_exit ?_
              refine te ?_
              refine te ?_
              refine xbk ?_
              refine bn_ ?_
              refine tn ?_
              refine rg ?_
              refine mv ?_
              refine bo ?_
              refine as_ ?_
              refine rNil ?_
              refine tn ?_
              exact ⟨ss.length - (k + 1), by omega, wx 1 ⟨k + 1, rfl, by omega, rfl⟩⟩ -- LEAF 4: round of loop 1
        ·
          refine awp_exit ?_
          refine te ?_
          refine te ?_
          refine xbk ?_
          refine tn ?_
          refine sd mixO ?_
          first | refine lAf ?_ | refine lAb ?_ | refine lAo ?_
          refine cl (c21 r hem hcu hl) ?_
          first | refine lAf ?_ | refine lAb ?_ | refine lAo ?_
          refine cl (c22 r hem hcu hl) ?_
          refine cl (c20 (expandL (strips r))) ?_
          refine mv ?_
          refine gd (fun h9 => ?_) (fun h9 => ?_)
          ·
            refine cl (c17) ?_
            refine pkT ?_
            refine as_ ?_
            refine rNil ⟨rfl, ?_⟩
            refine awp_ret ?_
            exact ⟨.inr rfl, _, (.cons (by first | exact .v (by ((repeat apply Look.there rfl); exact Look.here)) (.f (.v _)) | exact .v (by ((repeat apply Look.there rfl); exact Look.here)) (.row rfl rfl) | exact .v (by ((repeat apply Look.there rfl); exact Look.here)) (.f .nil) | exact .a (by ((repeat apply Look.there rfl); exact Look.here)) | skip) .nil), rfl⟩ -- LEAF 5: ret
          ·
            cases h9 -- END

end Go.Proofs.Ytolbhipnbhehdaa.VS
