/- The walks of functions: what each computes, by itself. Conditions: none. -/
import Derived.Test.YtnhljpbpfaablaaF16
set_option linter.unusedVariables false
set_option linter.unusedSimpArgs false
namespace Go.Proofs.Ytnhljpbpfaablaa.VS
open Go
def chg (c : List Int) (q : Pr) : List Int := if men q = true then (c.set (q.x + 1).toNat (c.getD (q.x + 1).toNat 0 + 1)).set (q.y + 2).toNat ((c.set (q.x + 1).toNat (c.getD (q.x + 1).toNat 0 + 1)).getD (q.y + 2).toNat 0 - 1) else c
def prs (s : Int × Int) (d : Int) : Int × Int := (max s.1 (s.2 + d), s.2 + d)
def pres (ls : List Pr) (L : Nat) : Int := ((ls.foldl chg (List.replicate (L + 2) 0)).foldl prs (0, 0)).1
theorem chg_len (c : List Int) (q : Pr) : (chg c q).length = c.length := by unfold chg; split <;> simp
def Sm (k : Int) (c : List Int) : Prop := ∀ z ∈ c, -k ≤ z ∧ z ≤ k
theorem sm_set {k : Int} {c : List Int} {i : Nat} {v : Int} (h : Sm k c) (hv : -k ≤ v ∧ v ≤ k) : Sm k (c.set i v) := fun z hz => by
  rcases List.mem_or_eq_of_mem_set hz with h1 | h1
  · exact h z h1
  · rw [h1]; exact hv
theorem sm_get {k : Int} {c : List Int} {i : Nat} (h0 : 0 ≤ k) (h : Sm k c) : -k ≤ c.getD i 0 ∧ c.getD i 0 ≤ k := by
  rw [List.getD_eq_getElem?_getD]
  cases hx : c[i]? with
  | none => simp; omega
  | some z => exact h z (List.mem_of_getElem? hx)
theorem sm_mono {k k' : Int} {c : List Int} (h : Sm k c) (hk : k ≤ k') : Sm k' c := fun z hz => by have := h z hz; omega
/-- frustum/regalloc.Pressure -/
theorem c14 (p : Prg) (hL : p.code.length ≤ 17592186044416) : Fn Try.prog 14 [A p] (.one (I (pres (ivF p) p.code.length))) := by
  refine fnI Try.func14 Try.ntmps14 fun hb => ?_
  refine sg ?_
  refine bx _ ?_
  refine as_ ?_
  refine rNil ?_
  refine sg ?_
  first | refine ff ?_ | refine fb ?_ | refine fo ?_
  first | refine l1f ?_ | refine l1b ?_ | refine l1o ?_ | refine ldI ?_
  first | refine lnM ?_ | refine ln ?_ | refine lnO ?_ | refine lnN ?_ | refine lnW ?_ | refine lnS ?_
  refine bo (z := .i .i64 ((p.code.length + 2 : Nat) : Int)) (hz := by rw [show ((p.code.length + 2 : Nat) : Int) = (p.code.length : Int) + 2 by omega]; exact bop_add (by omega) (by omega)) ?_
  refine mk 1 (n := p.code.length + 2) ?_
  refine as_ ?_
  refine rNil ?_
  refine sq ?_
  refine sg ?_
  first | refine lAf ?_ | refine lAb ?_ | refine lAo ?_
  refine cl (c11 p) ?_
  first | refine lnM ?_ | refine ln ?_ | refine lnO ?_ | refine lnN ?_ | refine lnW ?_ | refine lnS ?_
  refine mv ?_
  refine rNil ?_
  refine bk ?_
  have hok : IvOk (ivF p) (p.code.length) ∨ ivF p = [] := by
    by_cases h : validF p = 0
    · left; rw [ivF, if_pos h]; exact ivs_ok h
    · right; rw [ivF, if_neg h]
  have hl1 : (ivF p).length ≤ 8192 := by
    rcases hok with h | h
    · exact h.1
    · rw [h]; decide
  generalize hls : ivF p = ls at *
  generalize hLc : p.code.length = Lc at *
  refine lp (fun m S => ∃ (k : Nat) (c : List Int), m = ls.length - k ∧ k ≤ ls.length ∧ c = (ls.take k).foldl chg (List.replicate (Lc + 2) 0) ∧ c.length = Lc + 2 ∧ Sm (2 * k) c ∧ S = ⟨[(18, .r (I k)), (17, .r (I ls.length)), (16, .r (L ls)), (3, .own 1 (Lc + 2)), (1, .box 0 0)], [bxP p, .row 3 1 (c.map Enc.c)]⟩) ls.length ?_ ?_
  · exact wy 2 ⟨0, List.replicate (Lc + 2) 0, rfl, Nat.zero_le _, rfl, by simp, fun z hz => by rw [List.eq_of_mem_replicate hz]; decide, rfl⟩ (by rw [List.map_replicate]; rfl)
  rintro m S ⟨k, c, hm, hk, hc, hcl, hsm, rfl⟩
  refine sg ?_
  refine bo (hz := by exact rfl) ?_
  refine rNil ?_
  refine sq ?_
  refine cn (fun h1 => ?_) (fun h1 => ?_)
  ·
    have hk' : k < ls.length := by simpa using h1
    obtain ⟨q, hq⟩ := ex_get hk'
    have hq' : ls[k]? = some q := by simpa using hq
    have hst : (ls.take (k + 1)).foldl chg (List.replicate (Lc + 2) 0) = chg c q := by rw [take_snoc hq', List.foldl_append, ← hc]; rfl
    have hqb : -1 ≤ q.x ∧ q.x < Lc ∧ (q.y = -2 ∨ (0 ≤ q.y ∧ q.y < Lc ∧ q.x ≤ q.y)) := by
      rcases hok with h | h
      · exact h.2.2 q (List.mem_of_getElem? hq')
      · rw [h] at hk'; exact absurd hk' (Nat.not_lt_zero _)
    have s1 := sm_get (i := (q.x + 1).toNat * 1) (by omega) hsm
    refine awp_skip ?_
    refine tn ?_
    refine sq ?_
    refine bk ?_
    refine sg ?_
    first | refine xs_ ?_ | refine xo ?_ | refine xw ?_ | refine xsl ?_
    first | refine lAf ?_ | refine lAb ?_ | refine lAo ?_
    refine al _ ?_
    refine sA ?_
    refine rNil ?_
    refine sg ?_
    first | refine lAf ?_ | refine lAb ?_ | refine lAo ?_
    refine cl (c33 q) ?_
    refine rNil ?_
    refine cn (fun h2 => ?_) (fun h2 => ?_)
    ·
      have hmn : men q = true := h2
      have hq2 : q.y ≠ -2 := by simpa using h2
      have hc1 : (c.set ((q.x + 1).toNat * 1) (c.getD ((q.x + 1).toNat * 1) 0 + 1)).length = Lc + 2 := by rw [List.length_set]; exact hcl
      have hsm1 : Sm (2 * k + 1) (c.set ((q.x + 1).toNat * 1) (c.getD ((q.x + 1).toNat * 1) 0 + 1)) := sm_set (sm_mono hsm (by omega)) (by omega)
      have s2 := sm_get (i := (q.y + 2).toNat * 1) (by omega) hsm1
      refine sg ?_
      refine mv ?_
      first | refine xf ?_ | refine xb ?_ | refine xoa ?_
      first | refine l1f ?_ | refine l1b ?_ | refine l1o ?_ | refine ldI ?_
      refine bo (hz := by first | exact bop_add (by omega) (by omega) | exact rfl) ?_
      first | refine xs_ ?_ | refine xo ?_ | refine xw ?_ | refine xsl ?_
      first | refine l1f ?_ | refine l1b ?_ | refine l1o ?_ | refine ldI ?_
      refine bo (hz := by first | exact bop_add (by omega) (by omega) | exact rfl) ?_
      first | refine xs_ ?_ | refine xo ?_ | refine xw ?_ | refine xsl ?_
      first | refine s1 ?_ | refine s1w ?_ | refine soI ?_
      refine rNil ?_
      refine rg ?_
      refine mv ?_
      first | refine xf ?_ | refine xb ?_ | refine xoa ?_
      first | refine l1f ?_ | refine l1b ?_ | refine l1o ?_ | refine ldI ?_
      refine bo (hz := by first | exact bop_add (by omega) (by omega) | exact rfl) ?_
      first | refine xs_ ?_ | refine xo ?_ | refine xw ?_ | refine xsl ?_
      first | refine l1f ?_ | refine l1b ?_ | refine l1o ?_ | refine ldI ?_
      refine bo (hz := by first | exact bop_sub (by omega) (by omega) | exact rfl) ?_
      first | refine xs_ ?_ | refine xo ?_ | refine xw ?_ | refine xsl ?_
      first | refine s1 ?_ | refine s1w ?_ | refine soI ?_
      refine rNil ?_
      refine bn_ ?_
      refine tn ?_
      refine rg ?_
      refine bo (hz := by first | exact bop_add (by omega) (by omega) | exact rfl) ?_
      refine mv ?_
      refine rNil ?_
      refine tn ?_
      exact ⟨ls.length - (k + 1), by omega, wy 2 ⟨k + 1, _, rfl, by omega, hst.symm, by rw [chg_len]; exact hcl, by rw [chg, if_pos hmn]; refine sm_set (sm_mono (by simpa using hsm1) (by omega)) ?_; simp only [Nat.mul_one] at s2; omega, rfl⟩ (by
        rw [chg, if_pos hmn]
        simp only [Nat.mul_one]
        rfl)⟩ -- LEAF 1: round of loop 1
    ·
      have hmn : ¬ men q = true := by unfold men; rw [h2]; decide
      refine awp_skip ?_
      refine bn_ ?_
      refine tn ?_
      refine rg ?_
      refine bo (hz := by first | exact bop_add (by omega) (by omega) | exact rfl) ?_
      refine mv ?_
      refine rNil ?_
      refine tn ?_
      exact ⟨ls.length - (k + 1), by omega, wy 2 ⟨k + 1, c, rfl, by omega, by rw [hst, chg, if_neg hmn], hcl, sm_mono hsm (by omega), rfl⟩ rfl⟩ -- LEAF 2: round of loop 1
  ·
    have hk' : k = ls.length := by simp at h1; omega
    rw [hk', List.take_length] at hc
    refine awp_exit ?_
    refine te ?_
    refine te ?_
    refine xbk ?_
    refine tn ?_
    refine sg ?_
    refine as_ ?_
    refine as_ ?_
    refine rNil ?_
    refine sq ?_
    refine sg ?_
    refine mv ?_
    first | refine lnM ?_ | refine ln ?_ | refine lnO ?_ | refine lnN ?_ | refine lnW ?_ | refine lnS ?_
    refine mv ?_
    refine rNil ?_
    refine bk ?_
    refine lp (fun m S => ∃ (j : Nat) (s : Int × Int), m = c.length - j ∧ j ≤ c.length ∧ s = (c.take j).foldl prs (0, 0) ∧ -(16384 * j) ≤ s.2 ∧ s.2 ≤ 16384 * j ∧ S = ⟨[(43, .r (I j)), (42, .r (I c.length)), (41, .own 1 c.length), (7, .r (I s.2)), (6, .r (I s.1))], [bxP p, .row 3 1 (c.map Enc.c)]⟩) c.length ?_ ?_
    · exact wy 2 ⟨0, (0, 0), rfl, Nat.zero_le _, rfl, by decide, by decide, by rw [hcl]; rfl⟩ rfl
    rintro m2 S ⟨j, ⟨mo, no⟩, hm2, hj, hs, hb1, hb2, rfl⟩
    simp only at hb1 hb2
    refine sg ?_
    refine bo (hz := by exact rfl) ?_
    refine rNil ?_
    refine sq ?_
    refine cn (fun h3 => ?_) (fun h3 => ?_)
    ·
      have hj' : j < c.length := by simpa using h3
      obtain ⟨d, hd⟩ : ∃ d, c[j]? = some d := ⟨c[j], by simp⟩
      have hdg : c.getD ((j : Int).toNat * 1) 0 = d := by rw [show (j : Int).toNat * 1 = j by omega, List.getD_eq_getElem?_getD, hd]; rfl
      have hdb := hsm d (List.mem_of_getElem? hd)
      have hst : (c.take (j + 1)).foldl prs (0, 0) = (max mo (no + d), no + d) := by rw [take_snoc hd, List.foldl_append, ← hs]; rfl
      refine awp_skip ?_
      refine tn ?_
      refine sq ?_
      refine bk ?_
      refine sg ?_
      first | refine xs_ ?_ | refine xo ?_ | refine xw ?_ | refine xsl ?_
      first | refine l1f ?_ | refine l1b ?_ | refine l1o ?_ | refine ldI ?_
      rw [hdg]
      refine as_ ?_
      refine rNil ?_
      refine sg ?_
      refine mv ?_
      refine mv ?_
      refine bo (hz := by first | exact bop_add (by omega) (by omega) | exact rfl) ?_
      refine as_ ?_
      refine rNil ?_
      refine rg ?_
      refine mv ?_
      refine mv ?_
      refine mx2 ?_
      refine as_ ?_
      refine rNil ?_
      refine bn_ ?_
      refine tn ?_
      refine rg ?_
      refine bo (hz := by first | exact bop_add (by omega) (by omega) | exact rfl) ?_
      refine mv ?_
      refine rNil ?_
      refine tn ?_
      exact ⟨c.length - (j + 1), by omega, wy 2 ⟨j + 1, (max mo (no + d), no + d), rfl, by omega, hst.symm, by show _ ≤ no + d; omega, by show no + d ≤ _; omega, by rw [← mx_max]; rfl⟩ rfl⟩ -- LEAF 3: round of loop 2
    ·
      have hj' : j = c.length := by simp at h3; omega
      rw [hj', List.take_length] at hs
      refine awp_exit ?_
      refine te ?_
      refine te ?_
      refine xbk ?_
      refine tn ?_
      refine sg ?_
      refine mv ?_
      refine as_ ?_
      refine rNil ?_
      refine awp_ret ?_
      exact ⟨.inr rfl, _, (.cons (by first | exact .v (by ((repeat apply Look.there rfl); exact Look.here)) (.f (.v _)) | exact .v (by ((repeat apply Look.there rfl); exact Look.here)) (.row rfl (by first | exact rfl | (simp; done) | (simp; omega))) | exact .v (by ((repeat apply Look.there rfl); exact Look.here)) (.f .nil) | exact .a (by ((repeat apply Look.there rfl); exact Look.here)) | skip) .nil), oneI (by rw [pres, ← hc, ← hs])⟩ -- LEAF 4: ret

end Go.Proofs.Ytnhljpbpfaablaa.VS
