/- The walks of functions: what each computes, by itself. Conditions: none. -/
import Derived.Test.YtnhljpbpfaablaaF8
set_option linter.unusedVariables false
set_option linter.unusedSimpArgs false
namespace Go.Proofs.Ytnhljpbpfaablaa.VS
open Go
def deps (d : Int) : List Ins → List Int
  | [] => []
  | x :: l => if x.op = 45 ∨ x.op = 49 then (d - 1) :: deps (d - 1) l else if x.op = 44 then (d - 1) :: deps d l else if x.op = 43 ∨ x.op = 46 then d :: deps (d + 1) l else d :: deps d l
/-- frustum/frustumref25.depths -/
theorem c28 (p : Prg) (hl : p.code.length ≤ 16384) : Fn Try.prog 28 [A p] (.one (L (deps 0 p.code))) := by
  refine fnI Try.func28 Try.ntmps28 fun hb => ?_
  refine sg ?_
  refine bx _ ?_
  refine as_ ?_
  refine rNil ?_
  refine sg ?_
  refine bsO 1 ?_
  refine as_ ?_
  refine rNil ?_
  refine sg ?_
  refine as_ ?_
  refine rNil ?_
  refine sq ?_
  refine sg ?_
  refine as_ ?_
  refine rNil ?_
  refine bk ?_
  refine lp (fun n S => ∃ (k : Nat) (d : Int) (q : List Int), n = p.code.length - k ∧ k ≤ p.code.length ∧ deps 0 p.code = q ++ deps d (p.code.drop k) ∧ q.length ≤ k ∧ -k ≤ d ∧ d ≤ k ∧ S = ⟨[(5, .r (I k)), (4, .r (I d)), (3, .own 1 q.length), (1, .box 0 0)], [bxP p, .row 3 1 (q.map Enc.c)]⟩) p.code.length ?_ ?_
  · exact wx 2 ⟨0, 0, [], rfl, Nat.zero_le _, rfl, Nat.le_refl _, by omega, by omega, rfl⟩
  rintro n S ⟨k, d, q, hn, hk, hq, hql, hd1, hd2, rfl⟩
  refine sq ?_
  refine sg ?_
  refine mv ?_
  first | refine ff ?_ | refine fb ?_ | refine fo ?_
  first | refine l1f ?_ | refine l1b ?_ | refine l1o ?_
  first | refine lnM ?_ | refine ln ?_ | refine lnO ?_ | refine lnN ?_ | refine lnW ?_ | refine lnS ?_
  refine bo (hz := by exact rfl) ?_
  refine rNil ?_
  refine cn (fun h1 => ?_) (fun h1 => ?_)
  ·
    have hk' : k < p.code.length := by simp at h1; omega
    obtain ⟨x, hx⟩ := ex_get hk'
    have hdr := drop_at (show p.code[k]? = some x by simpa using hx)
    rw [hdr, deps] at hq
    refine awp_skip ?_
    refine tn ?_
    refine sq ?_
    refine bk ?_
    refine sg ?_
    first | refine ff ?_ | refine fb ?_ | refine fo ?_
    first | refine l1f ?_ | refine l1b ?_ | refine l1o ?_
    refine mv ?_
    first | refine xs_ ?_ | refine xo ?_ | refine xw ?_ | refine xsl ?_
    first | refine ff ?_ | refine fb ?_ | refine fo ?_
    first | refine l1f ?_ | refine l1b ?_ | refine l1o ?_
    refine rNil ?_
    refine bk ?_
    refine sq ?_
    refine sg ?_
    refine bo (hz := by exact rfl) ?_
    refine as_ ?_
    refine rNil ?_
    refine cn (fun h2 => ?_) (fun h2 => ?_)
    ·
      have e45 : x.op = 45 := by simpa using h2
      refine awp_skip ?_
      refine tn ?_
      refine cn (fun h3 => ?_) (fun h3 => ?_)
      ·
        refine sg ?_
        refine mv ?_
        refine bo (hz := by first | exact bop_sub (by omega) (by omega) | exact rfl) ?_
        refine as_ ?_
        refine rNil ?_
        refine rg ?_
        refine mv ?_
        refine mv ?_
        refine bs ?_
        first | refine ap ?_ | refine (apN _) ?_
        refine as_ ?_
        refine rNil ?_
        refine bn_ ?_
        refine bn_ ?_
        refine tn ?_
        refine rg ?_
        refine mv ?_
        refine bo (hz := by first | exact bop_add (by omega) (by omega) | exact rfl) ?_
        refine as_ ?_
        refine rNil ?_
        refine tn ?_
        exact ⟨p.code.length - (k + 1), by omega, wy 2 ⟨k + 1, d - 1, q ++ [d - 1], rfl, by omega, by rw [hq]; simp [e45], by simp; omega, by omega, by omega, rfl⟩ (by simp; rfl)⟩ -- LEAF 1: round of loop 1
      ·
        first | exact absurd h3 (by decide) | (exfalso; simp_all; done)
    ·
      have f45 : x.op ≠ 45 := by simpa using h2
      refine rg ?_
      refine bo (hz := by exact rfl) ?_
      refine as_ ?_
      refine rNil ?_
      refine tn ?_
      refine cn (fun h4 => ?_) (fun h4 => ?_)
      ·
        have e49 : x.op = 49 := by simpa using h4
        refine sg ?_
        refine mv ?_
        refine bo (hz := by first | exact bop_sub (by omega) (by omega) | exact rfl) ?_
        refine as_ ?_
        refine rNil ?_
        refine rg ?_
        refine mv ?_
        refine mv ?_
        refine bs ?_
        first | refine ap ?_ | refine (apN _) ?_
        refine as_ ?_
        refine rNil ?_
        refine bn_ ?_
        refine bn_ ?_
        refine tn ?_
        refine rg ?_
        refine mv ?_
        refine bo (hz := by first | exact bop_add (by omega) (by omega) | exact rfl) ?_
        refine as_ ?_
        refine rNil ?_
        refine tn ?_
        exact ⟨p.code.length - (k + 1), by omega, wy 2 ⟨k + 1, d - 1, q ++ [d - 1], rfl, by omega, by rw [hq]; simp [e49], by simp; omega, by omega, by omega, rfl⟩ (by simp; rfl)⟩ -- LEAF 2: round of loop 1
      ·
        have f49 : x.op ≠ 49 := by simpa using h4
        refine sg ?_
        refine bo (hz := by exact rfl) ?_
        refine as_ ?_
        refine rNil ?_
        refine cn (fun h5 => ?_) (fun h5 => ?_)
        ·
          have e44 : x.op = 44 := by simpa using h5
          refine rg ?_
          refine mv ?_
          refine mv ?_
          refine bo (hz := by first | exact bop_sub (by omega) (by omega) | exact rfl) ?_
          refine bs ?_
          first | refine ap ?_ | refine (apN _) ?_
          refine as_ ?_
          refine rNil ?_
          refine bn_ ?_
          refine bn_ ?_
          refine tn ?_
          refine rg ?_
          refine mv ?_
          refine bo (hz := by first | exact bop_add (by omega) (by omega) | exact rfl) ?_
          refine as_ ?_
          refine rNil ?_
          refine tn ?_
          exact ⟨p.code.length - (k + 1), by omega, wy 2 ⟨k + 1, d, q ++ [d - 1], rfl, by omega, by rw [hq]; simp [e44], by simp; omega, by omega, by omega, rfl⟩ (by simp; rfl)⟩ -- LEAF 3: round of loop 1
        ·
          have f44 : x.op ≠ 44 := by simpa using h5
          refine sq ?_
          refine sg ?_
          refine bo (hz := by exact rfl) ?_
          refine as_ ?_
          refine rNil ?_
          refine cn (fun h6 => ?_) (fun h6 => ?_)
          ·
            have e43 : x.op = 43 := by simpa using h6
            refine awp_skip ?_
            refine tn ?_
            refine cn (fun h7 => ?_) (fun h7 => ?_)
            ·
              refine sg ?_
              refine mv ?_
              refine mv ?_
              refine bs ?_
              first | refine ap ?_ | refine (apN _) ?_
              refine as_ ?_
              refine rNil ?_
              refine rg ?_
              refine mv ?_
              refine bo (hz := by first | exact bop_add (by omega) (by omega) | exact rfl) ?_
              refine as_ ?_
              refine rNil ?_
              refine bn_ ?_
              refine bn_ ?_
              refine tn ?_
              refine rg ?_
              refine mv ?_
              refine bo (hz := by first | exact bop_add (by omega) (by omega) | exact rfl) ?_
              refine as_ ?_
              refine rNil ?_
              refine tn ?_
              exact ⟨p.code.length - (k + 1), by omega, wy 2 ⟨k + 1, d + 1, q ++ [d], rfl, by omega, by rw [hq]; simp [e43], by simp; omega, by omega, by omega, rfl⟩ (by simp; rfl)⟩ -- LEAF 4: round of loop 1
            ·
              first | exact absurd h7 (by decide) | (exfalso; simp_all; done)
          ·
            have f43 : x.op ≠ 43 := by simpa using h6
            refine rg ?_
            refine bo (hz := by exact rfl) ?_
            refine as_ ?_
            refine rNil ?_
            refine tn ?_
            refine cn (fun h8 => ?_) (fun h8 => ?_)
            ·
              have e46 : x.op = 46 := by simpa using h8
              refine sg ?_
              refine mv ?_
              refine mv ?_
              refine bs ?_
              first | refine ap ?_ | refine (apN _) ?_
              refine as_ ?_
              refine rNil ?_
              refine rg ?_
              refine mv ?_
              refine bo (hz := by first | exact bop_add (by omega) (by omega) | exact rfl) ?_
              refine as_ ?_
              refine rNil ?_
              refine bn_ ?_
              refine bn_ ?_
              refine tn ?_
              refine rg ?_
              refine mv ?_
              refine bo (hz := by first | exact bop_add (by omega) (by omega) | exact rfl) ?_
              refine as_ ?_
              refine rNil ?_
              refine tn ?_
              exact ⟨p.code.length - (k + 1), by omega, wy 2 ⟨k + 1, d + 1, q ++ [d], rfl, by omega, by rw [hq]; simp [e46], by simp; omega, by omega, by omega, rfl⟩ (by simp; rfl)⟩ -- LEAF 5: round of loop 1
            ·
              have f46 : x.op ≠ 46 := by simpa using h8
              refine rg ?_
              refine mv ?_
              refine mv ?_
              refine bs ?_
              first | refine ap ?_ | refine (apN _) ?_
              refine as_ ?_
              refine rNil ?_
              refine bn_ ?_
              refine bn_ ?_
              refine tn ?_
              refine rg ?_
              refine mv ?_
              refine bo (hz := by first | exact bop_add (by omega) (by omega) | exact rfl) ?_
              refine as_ ?_
              refine rNil ?_
              refine tn ?_
              exact ⟨p.code.length - (k + 1), by omega, wy 2 ⟨k + 1, d, q ++ [d], rfl, by omega, by rw [hq]; simp [f45, f49, f44, f43, f46], by simp; omega, by omega, by omega, rfl⟩ (by simp; rfl)⟩ -- LEAF 6: round of loop 1
  ·
    have hk' : k = p.code.length := by simp at h1; omega
    rw [hk', List.drop_length, deps, List.append_nil] at hq
    refine awp_exit ?_
    refine te ?_
    refine te ?_
    refine xbk ?_
    refine tn ?_
    refine sg ?_
    refine mv ?_
    refine as_ ?_
    refine rNil ?_
    refine awp_ret ?_
    exact ⟨.inr rfl, _, (.cons (by first | exact .v (by ((repeat apply Look.there rfl); exact Look.here)) (.f (.v _)) | exact .v (by ((repeat apply Look.there rfl); exact Look.here)) (.row rfl (by first | exact rfl | (simp; done) | (simp; omega))) | exact .v (by ((repeat apply Look.there rfl); exact Look.here)) (.f .nil) | exact .a (by ((repeat apply Look.there rfl); exact Look.here)) | skip) .nil), (by rw [hq]; rfl)⟩ -- LEAF 7: ret

def lpI (x : Ins) : Int := if x.op = 46 then 1 else if x.op = 49 then -1 else 0
def dpI (x : Ins) : Int := if x.op = 43 ∨ x.op = 46 then 1 else if x.op = 45 ∨ x.op = 49 then -1 else 0
def scan (n e : Int) : List Ins → Int
  | [] => e
  | x :: l => if n ≤ 0 then e else scan (n + lpI x) (e + 1) l
def endA (d i : Int) (x : Ins) (l : List Ins) : Int := if d + (if x.op = 46 then 1 else 0) > 0 then scan (d + lpI x) i l else -1
def ends (d i : Int) : List Ins → List Int
  | [] => []
  | x :: l => endA d i x l :: ends (d + lpI x) (i + 1) l
theorem scan_done {n e : Int} (h : n ≤ 0) (l : List Ins) : scan n e l = e := by
  cases l with
  | nil => rfl
  | cons x l => rw [scan, if_pos h]
/-- One instruction of a valid program. -/
theorem vstep {p : Prg} {x : Ins} {l : List Ins} {st : List Int} (h : vrun p (x :: l) st = 0) : ∃ st', nx p.st x.op st = some st' ∧ opnF p x = 0 ∧ vrun p l st' = 0 ∧ n3 st' = n3 st + lpI x ∧ (st'.length : Int) = st.length + dpI x := by
  rw [vrun] at h
  split at h
  · rename_i h0
    split at h
    · cases h
    · rename_i st' hn
      refine ⟨st', hn, h0, h, ?_⟩
      have hb := hn
      unfold nx at hb
      unfold lpI dpI
      by_cases h43 : x.op = 43
      · rw [if_pos h43] at hb; cases hb
        rw [n3_push]; simp [h43]
      rw [if_neg h43] at hb
      by_cases h44 : x.op = 44
      · rw [if_pos h44] at hb
        split at hb
        · rename_i hl; cases hb
          have h1 := last_pos hl (by decide)
          rw [n3_push, n3_pop hl (by decide)]; simp [h44]; omega
        · cases hb
      rw [if_neg h44] at hb
      by_cases h45 : x.op = 45
      · rw [if_pos h45] at hb
        split at hb
        · rename_i hl; cases hb
          rcases hl with hl | hl
          · have h1 := last_pos hl (by decide)
            rw [n3_pop hl (by decide)]; simp [h45]; omega
          · have h1 := last_pos hl (by decide)
            rw [n3_pop hl (by decide)]; simp [h45]; omega
        · cases hb
      rw [if_neg h45] at hb
      by_cases h46 : x.op = 46
      · rw [if_pos h46] at hb
        split at hb
        · cases hb
          rw [n3_push]; simp [h46]
        · cases hb
      rw [if_neg h46] at hb
      by_cases h49 : x.op = 49
      · rw [if_pos h49] at hb
        split at hb
        · rename_i hl; cases hb
          have h1 := last_pos hl (by decide)
          rw [n3_pop hl (by decide)]; simp [h49]; omega
        · cases hb
      rw [if_neg h49] at hb
      have hst : st' = st := by
        repeat' split at hb
        all_goals first | (cases hb; rfl) | cases hb
      subst hst
      simp [h43, h45, h46, h49]
  · rename_i h0; exact absurd h h0
theorem lpI_le (x : Ins) : lpI x ≤ 1 := by
  unfold lpI
  split
  · omega
  split <;> omega
theorem n3_nonneg (st : List Int) : 0 ≤ n3 st := (n3_bd st).1
/-- frustum/frustumref25.ends -/
theorem c29 (p : Prg) (hl : p.code.length ≤ 16384) (hv : vrun p p.code [] = 0) : Fn Try.prog 29 [A p] (.one (L (ends 0 0 p.code))) := by
  refine fnI Try.func29 Try.ntmps29 fun hb => ?_
  refine sg ?_
  refine bx _ ?_
  refine as_ ?_
  refine rNil ?_
  refine sg ?_
  refine bsO 1 ?_
  refine as_ ?_
  refine rNil ?_
  refine sg ?_
  refine as_ ?_
  refine rNil ?_
  refine sq ?_
  refine sg ?_
  refine as_ ?_
  refine rNil ?_
  refine bk ?_
  refine lp (fun n S => ∃ (k : Nat) (st : List Int) (q : List Int), n = p.code.length - k ∧ k ≤ p.code.length ∧ ends 0 0 p.code = q ++ ends (n3 st) k (p.code.drop k) ∧ q.length ≤ k ∧ n3 st ≤ k ∧ vrun p (p.code.drop k) st = 0 ∧ S = ⟨[(5, .r (I k)), (4, .r (I (n3 st))), (3, .own 1 q.length), (1, .box 0 0)], [bxP p, .row 3 1 (q.map Enc.c)]⟩) p.code.length ?_ ?_
  · exact wx 2 ⟨0, [], [], rfl, Nat.zero_le _, rfl, Nat.le_refl _, by decide, hv, rfl⟩
  rintro n S ⟨k, st, q, hn, hk, hq, hql, hd2, hvk, rfl⟩
  have hd1 := n3_nonneg st
  refine sq ?_
  refine sg ?_
  refine mv ?_
  first | refine ff ?_ | refine fb ?_ | refine fo ?_
  first | refine l1f ?_ | refine l1b ?_ | refine l1o ?_
  first | refine lnM ?_ | refine ln ?_ | refine lnO ?_ | refine lnN ?_ | refine lnW ?_ | refine lnS ?_
  refine bo (hz := by exact rfl) ?_
  refine rNil ?_
  refine cn (fun h1 => ?_) (fun h1 => ?_)
  ·
    have hk' : k < p.code.length := by simp at h1; omega
    obtain ⟨x, hx⟩ := ex_get hk'
    have hdr := drop_at (show p.code[k]? = some x by simpa using hx)
    rw [hdr] at hvk
    rw [hdr, ends] at hq
    obtain ⟨st', hs1, hs2, hs3, hs4, hs5⟩ := vstep hvk
    have hd1' := n3_nonneg st'
    refine awp_skip ?_
    refine tn ?_
    refine sq ?_
    refine bk ?_
    refine jn (fun S => S = ⟨[(5, .r (I k)), (4, .r (I (n3 st + (if x.op = 46 then 1 else 0)))), (3, .own 1 q.length), (1, .box 0 0)], [bxP p, .row 3 1 (q.map Enc.c)]⟩) ?_ ?_
    ·
      refine sg ?_
      first | refine ff ?_ | refine fb ?_ | refine fo ?_
      first | refine l1f ?_ | refine l1b ?_ | refine l1o ?_
      refine mv ?_
      first | refine xs_ ?_ | refine xo ?_ | refine xw ?_ | refine xsl ?_
      first | refine ff ?_ | refine fb ?_ | refine fo ?_
      first | refine l1f ?_ | refine l1b ?_ | refine l1o ?_
      refine bo (hz := by exact rfl) ?_
      refine rNil ?_
      refine cn (fun h2 => ?_) (fun h2 => ?_)
      ·
        have e46 : x.op = 46 := by simpa using h2
        refine rg ?_
        refine mv ?_
        refine bo (hz := by first | exact bop_add (by omega) (by omega) | exact rfl) ?_
        refine as_ ?_
        refine rNil ?_
        refine tn ?_
        exact wx 2 (by rw [if_pos e46]; rfl) -- LEAF 1: join
      ·
        have f46 : x.op ≠ 46 := by simpa using h2
        refine awp_skip ?_
        refine tn ?_
        exact wx 2 (by rw [if_neg f46, Int.add_zero]; rfl) -- LEAF 2: join
    ·
      rintro S rfl
      have hop : 0 ≤ n3 st + (if x.op = 46 then 1 else 0) ∧ n3 st + (if x.op = 46 then 1 else 0) ≤ k + 1 := by split <;> omega
      refine sg ?_
      refine as_ ?_
      refine rNil ?_
      refine jn (fun S => S = ⟨[(6, .r (I (endA (n3 st) k x (p.code.drop (k + 1))))), (5, .r (I k)), (4, .r (I (n3 st + (if x.op = 46 then 1 else 0)))), (3, .own 1 q.length), (1, .box 0 0)], [bxP p, .row 3 1 (q.map Enc.c)]⟩) ?_ ?_
      ·
        refine sg ?_
        refine mv ?_
        refine bo (hz := by exact rfl) ?_
        refine rNil ?_
        refine cn (fun h3 => ?_) (fun h3 => ?_)
        ·
          have g3 : n3 st + (if x.op = 46 then 1 else 0) > 0 := by simpa using h3
          refine sg ?_
          refine mv ?_
          refine as_ ?_
          refine rNil ?_
          refine sg ?_
          refine mv ?_
          refine as_ ?_
          refine rNil ?_
          refine jn (fun S => S = ⟨[(7, .r (I (n3 st + lpI x))), (6, .r (I k)), (5, .r (I k)), (4, .r (I (n3 st + (if x.op = 46 then 1 else 0)))), (3, .own 1 q.length), (1, .box 0 0)], [bxP p, .row 3 1 (q.map Enc.c)]⟩) ?_ ?_
          ·
            refine sg ?_
            first | refine ff ?_ | refine fb ?_ | refine fo ?_
            first | refine l1f ?_ | refine l1b ?_ | refine l1o ?_
            refine mv ?_
            first | refine xs_ ?_ | refine xo ?_ | refine xw ?_ | refine xsl ?_
            first | refine ff ?_ | refine fb ?_ | refine fo ?_
            first | refine l1f ?_ | refine l1b ?_ | refine l1o ?_
            refine bo (hz := by exact rfl) ?_
            refine rNil ?_
            refine cn (fun h4 => ?_) (fun h4 => ?_)
            ·
              have e49 : x.op = 49 := by simpa using h4
              refine rg ?_
              refine mv ?_
              refine bo (hz := by first | exact bop_sub (by omega) (by omega) | exact rfl) ?_
              refine as_ ?_
              refine rNil ?_
              refine tn ?_
              exact wx 2 (by rw [show n3 st + lpI x = n3 st + (if x.op = 46 then 1 else 0) - 1 by simp [lpI, e49]; omega]; rfl) -- LEAF 3: join
            ·
              have f49 : x.op ≠ 49 := by simpa using h4
              refine awp_skip ?_
              refine tn ?_
              exact wx 2 (by rw [show n3 st + lpI x = n3 st + (if x.op = 46 then 1 else 0) by simp [lpI, f49]]; rfl) -- LEAF 4: join
          ·
            rintro S rfl
            refine bk ?_
            refine lp (fun n S => ∃ (e : Nat) (st2 : List Int), n = p.code.length - e ∧ e < p.code.length ∧ n3 st2 ≤ e + 1 ∧ vrun p (p.code.drop (e + 1)) st2 = 0 ∧ scan (n3 st + lpI x) k (p.code.drop (k + 1)) = scan (n3 st2) e (p.code.drop (e + 1)) ∧ S = ⟨[(7, .r (I (n3 st2))), (6, .r (I e)), (5, .r (I k)), (4, .r (I (n3 st + (if x.op = 46 then 1 else 0)))), (3, .own 1 q.length), (1, .box 0 0)], [bxP p, .row 3 1 (q.map Enc.c)]⟩) (p.code.length - k) ?_ ?_
            · exact wx 2 ⟨k, st', rfl, hk', by have := lpI_le x; omega, hs3, by rw [hs4], by rw [hs4]; rfl⟩
            rintro n2 S ⟨e, st2, hn2, he, he2, hv2, hsc, rfl⟩
            have hp2 := n3_nonneg st2
            refine sq ?_
            refine sg ?_
            refine mv ?_
            refine bo (hz := by exact rfl) ?_
            refine rNil ?_
            refine cn (fun h5 => ?_) (fun h5 => ?_)
            ·
              have g5 : 0 < n3 st2 := by simpa using h5
              have he' : e + 1 < p.code.length := by
                rcases Nat.lt_or_ge (e + 1) p.code.length with h | h
                · exact h
                · rw [List.drop_eq_nil_of_le h, vrun] at hv2
                  split at hv2
                  · rename_i h0; subst h0; exact absurd g5 (by decide)
                  · cases hv2
              obtain ⟨y, hy⟩ : ∃ y, p.code[((e : Int) + 1).toNat]? = some y := ⟨p.code[e + 1], by rw [show ((e : Int) + 1).toNat = e + 1 by omega]; simp⟩
              have hdr2 := drop_at (show p.code[e + 1]? = some y by rw [show ((e : Int) + 1).toNat = e + 1 by omega] at hy; exact hy)
              rw [hdr2] at hv2
              rw [hdr2, scan, if_neg (by omega)] at hsc
              obtain ⟨st3, hv3, _, hv4, hv5, _⟩ := vstep hv2
              have hv6 := lpI_le y
              refine awp_skip ?_
              refine tn ?_
              refine bk ?_
              refine sg ?_
              refine mv ?_
              refine bo (hz := by first | exact bop_add (by omega) (by omega) | exact rfl) ?_
              refine as_ ?_
              refine rNil ?_
              refine jn (fun S => S = ⟨[(7, .r (I (n3 st2 + (if y.op = 46 then 1 else 0)))), (6, .r (I ((e : Int) + 1))), (5, .r (I k)), (4, .r (I (n3 st + (if x.op = 46 then 1 else 0)))), (3, .own 1 q.length), (1, .box 0 0)], [bxP p, .row 3 1 (q.map Enc.c)]⟩) ?_ ?_
              ·
                refine sg ?_
                first | refine ff ?_ | refine fb ?_ | refine fo ?_
                first | refine l1f ?_ | refine l1b ?_ | refine l1o ?_
                refine mv ?_
                first | refine xs_ ?_ | refine xo ?_ | refine xw ?_ | refine xsl ?_
                first | refine ff ?_ | refine fb ?_ | refine fo ?_
                first | refine l1f ?_ | refine l1b ?_ | refine l1o ?_
                refine bo (hz := by exact rfl) ?_
                refine rNil ?_
                refine cn (fun h6 => ?_) (fun h6 => ?_)
                ·
                  have e46 : y.op = 46 := by simpa using h6
                  refine rg ?_
                  refine mv ?_
                  refine bo (hz := by first | exact bop_add (by omega) (by omega) | exact rfl) ?_
                  refine as_ ?_
                  refine rNil ?_
                  refine tn ?_
                  exact wx 2 (by rw [if_pos e46]; rfl) -- LEAF 5: join
                ·
                  have f46 : y.op ≠ 46 := by simpa using h6
                  refine awp_skip ?_
                  refine tn ?_
                  exact wx 2 (by rw [if_neg f46, Int.add_zero]; rfl) -- LEAF 6: join
              ·
                rintro S rfl
                have hop2 : 0 ≤ n3 st2 + (if y.op = 46 then 1 else 0) ∧ n3 st2 + (if y.op = 46 then 1 else 0) ≤ e + 2 := by split <;> omega
                refine sg ?_
                first | refine ff ?_ | refine fb ?_ | refine fo ?_
                first | refine l1f ?_ | refine l1b ?_ | refine l1o ?_
                refine mv ?_
                first | refine xs_ ?_ | refine xo ?_ | refine xw ?_ | refine xsl ?_
                first | refine ff ?_ | refine fb ?_ | refine fo ?_
                first | refine l1f ?_ | refine l1b ?_ | refine l1o ?_
                refine bo (hz := by exact rfl) ?_
                refine rNil ?_
                refine cn (fun h7 => ?_) (fun h7 => ?_)
                ·
                  have e49 : y.op = 49 := by simpa using h7
                  have g7 : n3 st3 = n3 st2 + (if y.op = 46 then 1 else 0) - 1 := by rw [hv5]; simp [lpI, e49]; omega
                  refine rg ?_
                  refine mv ?_
                  refine bo (hz := by first | exact bop_sub (by omega) (by omega) | exact rfl) ?_
                  refine as_ ?_
                  refine rNil ?_
                  refine bn_ ?_
                  refine tn ?_
                  exact ⟨p.code.length - (e + 1), by omega, wx 2 ⟨e + 1, st3, rfl, he', by omega, hv4, by rw [hsc, hv5]; rfl, by rw [g7]; rfl⟩⟩ -- LEAF 7: round of loop 2
                ·
                  have f49 : y.op ≠ 49 := by simpa using h7
                  have g7 : n3 st3 = n3 st2 + (if y.op = 46 then 1 else 0) := by rw [hv5]; simp [lpI, f49]
                  refine awp_skip ?_
                  refine bn_ ?_
                  refine tn ?_
                  exact ⟨p.code.length - (e + 1), by omega, wx 2 ⟨e + 1, st3, rfl, he', by omega, hv4, by rw [hsc, hv5]; rfl, by rw [g7]; rfl⟩⟩ -- LEAF 8: round of loop 2
            ·
              have g5 : n3 st2 ≤ 0 := by simpa using h5
              refine awp_exit ?_
              refine te ?_
              refine te ?_
              refine xbk ?_
              refine tn ?_
              exact wx 2 (by rw [show endA (n3 st) k x (p.code.drop (k + 1)) = (e : Int) by rw [endA, if_pos g3, hsc, scan_done g5]]; rfl) -- LEAF 9: join
        ·
          refine awp_skip ?_
          refine tn ?_
          exact wx 2 (by rw [show endA (n3 st) k x (p.code.drop (k + 1)) = -1 by rw [endA, if_neg (by simp at h3; omega)]]; rfl) -- LEAF 10: join
      ·
        rintro S rfl
        refine sg ?_
        refine mv ?_
        refine mv ?_
        refine bs ?_
        first | refine ap ?_ | refine (apN _) ?_
        refine as_ ?_
        refine rNil ?_
        refine sg ?_
        first | refine ff ?_ | refine fb ?_ | refine fo ?_
        first | refine l1f ?_ | refine l1b ?_ | refine l1o ?_
        refine mv ?_
        first | refine xs_ ?_ | refine xo ?_ | refine xw ?_ | refine xsl ?_
        first | refine ff ?_ | refine fb ?_ | refine fo ?_
        first | refine l1f ?_ | refine l1b ?_ | refine l1o ?_
        refine bo (hz := by exact rfl) ?_
        refine rNil ?_
        refine cn (fun h8 => ?_) (fun h8 => ?_)
        ·
          have e49 : x.op = 49 := by simpa using h8
          have g7 : n3 st' = n3 st + (if x.op = 46 then 1 else 0) - 1 := by rw [hs4]; simp [lpI, e49]; omega
          refine rg ?_
          refine mv ?_
          refine bo (hz := by first | exact bop_sub (by omega) (by omega) | exact rfl) ?_
          refine as_ ?_
          refine rNil ?_
          refine bn_ ?_
          refine tn ?_
          refine rg ?_
          refine mv ?_
          refine bo (hz := by first | exact bop_add (by omega) (by omega) | exact rfl) ?_
          refine as_ ?_
          refine rNil ?_
          refine tn ?_
          exact ⟨p.code.length - (k + 1), by omega, wy 2 ⟨k + 1, st', q ++ [endA (n3 st) k x (p.code.drop (k + 1))], rfl, by omega, by rw [hq, hs4]; simp, by simp; omega, by omega, hs3, by rw [g7]⟩ (by simp; rfl)⟩ -- LEAF 11: round of loop 1
        ·
          have f49 : x.op ≠ 49 := by simpa using h8
          have g7 : n3 st' = n3 st + (if x.op = 46 then 1 else 0) := by rw [hs4]; simp [lpI, f49]
          refine awp_skip ?_
          refine bn_ ?_
          refine tn ?_
          refine rg ?_
          refine mv ?_
          refine bo (hz := by first | exact bop_add (by omega) (by omega) | exact rfl) ?_
          refine as_ ?_
          refine rNil ?_
          refine tn ?_
          exact ⟨p.code.length - (k + 1), by omega, wy 2 ⟨k + 1, st', q ++ [endA (n3 st) k x (p.code.drop (k + 1))], rfl, by omega, by rw [hq, hs4]; simp, by simp; omega, by omega, hs3, by rw [g7]⟩ (by simp; rfl)⟩ -- LEAF 12: round of loop 1
  ·
    have hkl : k = p.code.length := by simp at h1; omega
    rw [hkl, List.drop_length, ends, List.append_nil] at hq
    refine awp_exit ?_
    refine te ?_
    refine te ?_
    refine xbk ?_
    refine tn ?_
    refine sg ?_
    refine mv ?_
    refine as_ ?_
    refine rNil ?_
    refine awp_ret ?_
    exact ⟨.inr rfl, _, (.cons (by first | exact .v (by ((repeat apply Look.there rfl); exact Look.here)) (.f (.v _)) | exact .v (by ((repeat apply Look.there rfl); exact Look.here)) (.row rfl (by first | exact rfl | (simp; done) | (simp; omega))) | exact .v (by ((repeat apply Look.there rfl); exact Look.here)) (.f .nil) | exact .a (by ((repeat apply Look.there rfl); exact Look.here)) | skip) .nil), (by rw [hq]; rfl)⟩ -- LEAF 13: ret

end Go.Proofs.Ytnhljpbpfaablaa.VS
