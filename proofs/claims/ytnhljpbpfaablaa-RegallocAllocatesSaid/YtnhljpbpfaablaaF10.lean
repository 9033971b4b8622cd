/- The walks of functions: what each computes, by itself. Conditions: none. -/
import Derived.Test.YtnhljpbpfaablaaF9
set_option linter.unusedVariables false
set_option linter.unusedSimpArgs false
namespace Go.Proofs.Ytnhljpbpfaablaa.VS
open Go
def stepI (r i dp en : Int) (x : Ins) (c : Pr) : Pr := if rdF x r = true ∨ wrF x r = true then ⟨if c.y = -2 ∧ wrF x r = true ∧ rdF x r = false ∧ dp = 0 then i else c.x, max (max c.y i) en⟩ else c
def ivK (code : List Ins) (ds es : List Int) (r : Int) : Nat → Pr
  | 0 => ⟨-1, -2⟩
  | k + 1 => match code[k]? with
    | some x => stepI r k (ds.getD k 0) (es.getD k 0) x (ivK code ds es r k)
    | none => ivK code ds es r k
def ivR (code : List Ins) (ds es : List Int) (r : Int) : Pr := ivK code ds es r code.length
def ivs (p : Prg) : List Pr := (List.range p.rg.toNat).map fun r => ivR p.code (deps 0 p.code) (ends 0 0 p.code) (r : Nat)
def ivF (p : Prg) : List Pr := if validF p = 0 then ivs p else []
theorem valid_of {p : Prg} (h : validF p = 0) : Small p ∧ p.code.length ≤ 16384 ∧ vrun p p.code [] = 0 ∧ 1 ≤ p.st ∧ p.st ≤ 3 := by
  unfold validF at h
  split at h
  · rename_i h0
    split at h
    · split at h
      · exact ⟨by assumption, by assumption, h, h0⟩
      · cases h
    · cases h
  · cases h
theorem deps_len : ∀ (d : Int) (l : List Ins), (deps d l).length = l.length
  | _, [] => rfl
  | d, x :: l => by unfold deps; repeat' split
                    all_goals rw [List.length_cons, List.length_cons, deps_len]
theorem ends_len : ∀ (d i : Int) (l : List Ins), (ends d i l).length = l.length
  | _, _, [] => rfl
  | d, i, x :: l => by rw [ends, List.length_cons, List.length_cons, ends_len]
theorem mx_max (a b : Int) : mx a b = max a b := by unfold mx; split <;> omega
theorem getD_of {l : List Int} {k : Nat} {d : Int} (h : l[k]? = some d) : l.getD k 0 = d := by rw [List.getD_eq_getElem?_getD, h]; rfl
/-- frustum/frustumref25.Intervals -/
theorem c12 (p : Prg) : Fn Try.prog 12 [A p] (.one (L (ivF p))) := by
  refine fnI Try.func12 Try.ntmps12 fun hb => ?_
  refine sg ?_
  refine bx _ ?_
  refine as_ ?_
  refine rNil ?_
  refine sq ?_
  refine sg ?_
  first | refine lAf ?_ | refine lAb ?_ | refine lAo ?_
  refine cl (c27 p) ?_
  refine bo (hz := by exact rfl) ?_
  refine rNil ?_
  refine cn (fun h1 => ?_) (fun h1 => ?_)
  ·
    have g1 : validF p ≠ 0 := by simpa using h1
    refine sg ?_
    refine as_ ?_
    refine rNil ?_
    refine awp_ret ?_
    refine tr ?_
    exact ⟨.inr rfl, _, (.cons (by first | exact .v (by ((repeat apply Look.there rfl); exact Look.here)) (.f (.v _)) | exact .v (by ((repeat apply Look.there rfl); exact Look.here)) (.row rfl (by first | exact rfl | (simp; done) | (simp; omega))) | exact .v (by ((repeat apply Look.there rfl); exact Look.here)) (.f .nil) | exact .a (by ((repeat apply Look.there rfl); exact Look.here)) | skip) .nil), (by rw [ivF, if_neg g1]; rfl)⟩ -- LEAF 1: ret
  ·
    have g1 : validF p = 0 := by simpa using h1
    obtain ⟨hs, hl, hv, _⟩ := valid_of g1
    have hs' := hs
    obtain ⟨_, _, _, _, _, _, _, _, _, _, hr0, hr1⟩ := hs'
    refine awp_skip ?_
    refine tn ?_
    refine sg ?_
    first | refine lAf ?_ | refine lAb ?_ | refine lAo ?_
    refine cl (c28 p hl) ?_
    refine as_ ?_
    refine rNil ?_
    refine sg ?_
    first | refine lAf ?_ | refine lAb ?_ | refine lAo ?_
    refine cl (c29 p hl hv) ?_
    refine as_ ?_
    refine rNil ?_
    refine sg ?_
    refine bsO 1 ?_
    refine as_ ?_
    refine rNil ?_
    refine sq ?_
    refine sg ?_
    refine as_ ?_
    refine rNil ?_
    refine bk ?_
    have hdl := deps_len 0 p.code
    have hel := ends_len 0 0 p.code
    refine lp (fun n S => ∃ (r : Nat), n = p.rg.toNat - r ∧ (r : Int) ≤ p.rg ∧ S = ⟨[(6, .r (I r)), (5, .own 1 ((List.range r).map fun r => ivR p.code (deps 0 p.code) (ends 0 0 p.code) (r : Nat)).length), (4, .r (L (ends 0 0 p.code))), (3, .r (L (deps 0 p.code))), (1, .box 0 0)], [bxP p, .row 37 2 (((List.range r).map fun r => ivR p.code (deps 0 p.code) (ends 0 0 p.code) (r : Nat)).map Enc.c)]⟩) p.rg.toNat ?_ ?_
    · exact wx 2 ⟨0, rfl, hr0, rfl⟩
    rintro n S ⟨r, hn, hrr, rfl⟩
    refine sq ?_
    refine sg ?_
    refine mv ?_
    first | refine ff ?_ | refine fb ?_ | refine fo ?_
    first | refine l1f ?_ | refine l1b ?_ | refine l1o ?_
    refine bo (hz := by exact rfl) ?_
    refine rNil ?_
    refine cn (fun h2 => ?_) (fun h2 => ?_)
    ·
      have hrl : (r : Int) < p.rg := by simpa using h2
      generalize hO : ((List.range r).map fun r => ivR p.code (deps 0 p.code) (ends 0 0 p.code) (r : Nat)) = ol
      have hol : ol.length = r := by rw [← hO]; simp
      refine awp_skip ?_
      refine tn ?_
      refine sq ?_
      refine bk ?_
      refine sg ?_
      refine as_ ?_
      refine rNil ?_
      refine sg ?_
      refine as_ ?_
      refine rNil ?_
      refine sq ?_
      refine sg ?_
      refine as_ ?_
      refine rNil ?_
      refine bk ?_
      refine lp (fun n S => ∃ (k : Nat) (c : Pr), n = p.code.length - k ∧ k ≤ p.code.length ∧ c = ivK p.code (deps 0 p.code) (ends 0 0 p.code) (r : Nat) k ∧ S = ⟨[(9, .r (I k)), (8, .r (I c.y)), (7, .r (I c.x)), (6, .r (I r)), (5, .own 1 ol.length), (4, .r (L (ends 0 0 p.code))), (3, .r (L (deps 0 p.code))), (1, .box 0 0)], [bxP p, .row 37 2 (ol.map Enc.c)]⟩) p.code.length ?_ ?_
      · exact wx 2 ⟨0, ⟨-1, -2⟩, rfl, Nat.zero_le _, rfl, rfl⟩
      rintro n2 S ⟨k, c, hn2, hk, hc, rfl⟩
      refine sq ?_
      refine sg ?_
      refine mv ?_
      first | refine ff ?_ | refine fb ?_ | refine fo ?_
      first | refine l1f ?_ | refine l1b ?_ | refine l1o ?_
      first | refine lnM ?_ | refine ln ?_ | refine lnO ?_ | refine lnN ?_ | refine lnW ?_ | refine lnS ?_
      refine bo (hz := by exact rfl) ?_
      refine rNil ?_
      refine cn (fun h3 => ?_) (fun h3 => ?_)
      ·
        have hk' : k < p.code.length := by simpa using h3
        obtain ⟨x, hx⟩ := ex_get hk'
        have hx' : p.code[k]? = some x := by simpa using hx
        obtain ⟨dp, hdp⟩ := ex_get (show k < (deps 0 p.code).length by omega)
        obtain ⟨en, hen⟩ := ex_get (show k < (ends 0 0 p.code).length by omega)
        have hst : ivK p.code (deps 0 p.code) (ends 0 0 p.code) (r : Nat) (k + 1) = stepI r k dp en x c := by
          rw [ivK, hx']; simp only []; rw [← hc, getD_of (by simpa using hdp), getD_of (by simpa using hen)]
        refine awp_skip ?_
        refine tn ?_
        refine sq ?_
        refine bk ?_
        refine sg ?_
        first | refine ff ?_ | refine fb ?_ | refine fo ?_
        first | refine l1f ?_ | refine l1b ?_ | refine l1o ?_
        refine mv ?_
        first | refine xs_ ?_ | refine xo ?_ | refine xw ?_ | refine xsl ?_
        first | refine lAf ?_ | refine lAb ?_ | refine lAo ?_
        refine al _ ?_
        refine sA ?_
        refine rNil ?_
        refine jn (fun S => (rdF x r = true ∨ wrF x r = true) ∧ S = ⟨[(10, .box 2 0), (9, .r (I k)), (8, .r (I c.y)), (7, .r (I c.x)), (6, .r (I r)), (5, .own 1 ol.length), (4, .r (L (ends 0 0 p.code))), (3, .r (L (deps 0 p.code))), (1, .box 0 0)], [bxP p, .row 37 2 (ol.map Enc.c), bxI x]⟩) ?_ ?_
        ·
          refine sg ?_
          first | refine lAf ?_ | refine lAb ?_ | refine lAo ?_
          refine mv ?_
          refine cl (c30 x r) ?_
          refine nt ?_
          refine mv ?_
          refine gd (fun h4 => ?_) (fun h4 => ?_)
          ·
            first | refine lAf ?_ | refine lAb ?_ | refine lAo ?_
            refine mv ?_
            refine cl (c31 x r) ?_
            refine nt ?_
            refine pkT ?_
            refine rNil ?_
            refine cn (fun h5 => ?_) (fun h5 => ?_)
            ·
              refine awp_exit ?_
              refine te ?_
              refine xbk ?_
              refine tn ?_
              refine rg ?_
              refine mv ?_
              refine bo (hz := by first | exact bop_add (by omega) (by omega) | exact rfl) ?_
              refine as_ ?_
              refine rNil ?_
              refine tn ?_
              have g4 : rdF x r = false := by simpa using h4
              have g5 : wrF x r = false := by simpa using h5
              exact ⟨p.code.length - (k + 1), by omega, wx 2 ⟨k + 1, c, rfl, by omega, by rw [hst, stepI, if_neg (by rw [g4, g5]; decide)], rfl⟩⟩ -- LEAF 2: round of loop 2
            ·
              refine awp_skip ?_
              refine tn ?_
              refine wx 3 ⟨by simp_all, rfl⟩
          ·
            refine no ?_
            refine no ?_
            refine no ?_
            refine no ?_
            refine pkF ?_
            refine rNil ?_
            refine cn (fun h6 => ?_) (fun h6 => ?_)
            ·
              first | exact absurd h6 (by decide) | (exfalso; simp_all; done)
            ·
              refine awp_skip ?_
              refine tn ?_
              refine wx 3 ⟨by simp_all, rfl⟩
        ·
          rintro S ⟨hm, rfl⟩
          refine jn (fun S => ∃ v : Int, v = (if c.y = -2 ∧ wrF x r = true ∧ rdF x r = false ∧ dp = 0 then (k : Int) else c.x) ∧ S = ⟨[(7, .r (I v)), (10, .box 2 0), (9, .r (I k)), (8, .r (I c.y)), (6, .r (I r)), (5, .own 1 ol.length), (4, .r (L (ends 0 0 p.code))), (3, .r (L (deps 0 p.code))), (1, .box 0 0)], [bxP p, .row 37 2 (ol.map Enc.c), bxI x]⟩) ?_ ?_
          ·
            refine sg ?_
            refine mv ?_
            refine bo (hz := by exact rfl) ?_
            refine mv ?_
            refine gd (fun h7 => ?_) (fun h7 => ?_)
            ·
              first | refine lAf ?_ | refine lAb ?_ | refine lAo ?_
              refine mv ?_
              refine cl (c31 x r) ?_
              refine pkT ?_
              refine mv ?_
              refine gd (fun h8 => ?_) (fun h8 => ?_)
              ·
                first | refine lAf ?_ | refine lAb ?_ | refine lAo ?_
                refine mv ?_
                refine cl (c30 x r) ?_
                refine nt ?_
                refine pkT ?_
                refine mv ?_
                refine gd (fun h9 => ?_) (fun h9 => ?_)
                ·
                  refine mv ?_
                  refine mv ?_
                  first | refine xs_ ?_ | refine xo ?_ | refine xw ?_ | refine xsl ?_
                  first | refine l1f ?_ | refine l1b ?_ | refine l1o ?_
                  refine bo (hz := by exact rfl) ?_
                  refine pkT ?_
                  refine rNil ?_
                  refine cn (fun h10 => ?_) (fun h10 => ?_)
                  ·
                    refine rg ?_
                    refine mv ?_
                    refine as_ ?_
                    refine rNil ?_
                    refine tn ?_
                    refine wx 3 ⟨_, ?_, rfl⟩
                    clear hm hst hc
                    simp_all
                  ·
                    refine awp_skip ?_
                    refine tn ?_
                    refine wx 3 ⟨_, ?_, rfl⟩
                    clear hm hst hc
                    simp_all
                ·
                  refine no ?_
                  refine no ?_
                  refine no ?_
                  refine no ?_
                  refine no ?_
                  refine pkF ?_
                  refine rNil ?_
                  refine cn (fun h11 => ?_) (fun h11 => ?_)
                  ·
                    first | exact absurd h11 (by decide) | (exfalso; simp_all; done)
                  ·
                    refine awp_skip ?_
                    refine tn ?_
                    refine wx 3 ⟨_, ?_, rfl⟩
                    clear hm hst hc
                    simp_all
              ·
                refine no ?_
                refine no ?_
                refine no ?_
                refine no ?_
                refine pkF ?_
                refine mv ?_
                refine no ?_
                refine no ?_
                refine no ?_
                refine no ?_
                refine no ?_
                refine pkF ?_
                refine rNil ?_
                refine cn (fun h12 => ?_) (fun h12 => ?_)
                ·
                  first | exact absurd h12 (by decide) | (exfalso; simp_all; done)
                ·
                  refine awp_skip ?_
                  refine tn ?_
                  refine wx 3 ⟨_, ?_, rfl⟩
                  clear hm hst hc
                  simp_all
            ·
              refine no ?_
              refine no ?_
              refine no ?_
              refine pkF ?_
              refine mv ?_
              refine no ?_
              refine no ?_
              refine no ?_
              refine no ?_
              refine pkF ?_
              refine mv ?_
              refine no ?_
              refine no ?_
              refine no ?_
              refine no ?_
              refine no ?_
              refine pkF ?_
              refine rNil ?_
              refine cn (fun h13 => ?_) (fun h13 => ?_)
              ·
                first | exact absurd h13 (by decide) | (exfalso; simp_all; done)
              ·
                refine awp_skip ?_
                refine tn ?_
                refine wx 3 ⟨_, ?_, rfl⟩
                clear hm hst hc
                simp_all
          ·
            rintro S ⟨v, hv1, rfl⟩
            refine rg ?_
            refine mv ?_
            refine mv ?_
            refine mv ?_
            refine mv ?_
            first | refine xs_ ?_ | refine xo ?_ | refine xw ?_ | refine xsl ?_
            first | refine l1f ?_ | refine l1b ?_ | refine l1o ?_
            refine mx3 ?_
            refine as_ ?_
            refine rNil ?_
            refine bn_ ?_
            refine tn ?_
            refine rg ?_
            refine mv ?_
            refine bo (hz := by first | exact bop_add (by omega) (by omega) | exact rfl) ?_
            refine as_ ?_
            refine rNil ?_
            refine tn ?_
            exact ⟨p.code.length - (k + 1), by omega, wx 2 ⟨k + 1, ⟨v, mx (mx c.y k) en⟩, rfl, by omega, by rw [hst, stepI, if_pos hm, hv1, mx_max, mx_max], rfl⟩⟩ -- LEAF 3: round of loop 2
      ·
        have hk' : k = p.code.length := by simp at h3; omega
        rw [hk'] at hc
        refine awp_exit ?_
        refine te ?_
        refine te ?_
        refine xbk ?_
        refine tn ?_
        refine rg ?_
        refine mv ?_
        refine mv ?_
        refine mv ?_
        refine buA ?_
        refine bs ?_
        first | refine ap ?_ | refine (apN _) ?_
        refine as_ ?_
        refine rNil ?_
        refine bn_ ?_
        refine tn ?_
        refine rg ?_
        refine mv ?_
        refine bo (hz := by first | exact bop_add (by omega) (by omega) | exact rfl) ?_
        refine as_ ?_
        refine rNil ?_
        refine tn ?_
        exact ⟨p.rg.toNat - (r + 1), by omega, wy 2 ⟨r + 1, rfl, by omega, rfl⟩ (by rw [List.range_succ, List.map_append, List.map_append, hO, List.map_singleton, List.map_singleton]; show _ = [_, Ent.row 37 2 (_ ++ [Enc.c (ivK p.code (deps 0 p.code) (ends 0 0 p.code) (r : Nat) p.code.length)])]; rw [← hc]; rfl)⟩ -- LEAF 4: round of loop 1
    ·
      have hrl : r = p.rg.toNat := by simp at h2; omega
      refine awp_exit ?_
      refine te ?_
      refine te ?_
      refine xbk ?_
      refine tn ?_
      refine sg ?_
      refine mv ?_
      refine as_ ?_
      refine rNil ?_
      refine awp_ret ?_
      exact ⟨.inr rfl, _, (.cons (by first | exact .v (by ((repeat apply Look.there rfl); exact Look.here)) (.f (.v _)) | exact .v (by ((repeat apply Look.there rfl); exact Look.here)) (.row rfl (by first | exact rfl | (simp; done) | (simp; omega))) | exact .v (by ((repeat apply Look.there rfl); exact Look.here)) (.f .nil) | exact .a (by ((repeat apply Look.there rfl); exact Look.here)) | skip) .nil), (by rw [ivF, if_pos g1, ivs, ← hrl]; rfl)⟩ -- LEAF 5: ret

end Go.Proofs.Ytnhljpbpfaablaa.VS
