/- The walks of functions: what each computes, by itself. Conditions: none. -/
import Derived.Test.YtnhljpbpfaablaaF5
set_option linter.unusedVariables false
set_option linter.unusedSimpArgs false
namespace Go.Proofs.Ytnhljpbpfaablaa.VS
open Go
theorem n3_bd (st : List Int) : 0 ≤ n3 st ∧ n3 st ≤ st.length := ⟨by unfold n3; omega, by unfold n3; have := List.count_le_length (a := (3 : Int)) (l := st); omega⟩
/-- frustum/frustumref22.loops -/
theorem c58 (st : List Int) (hl : st.length ≤ 16384) : Fn Try.prog 58 [L st] (.one (I (n3 st))) := by
  refine fnI Try.func58 Try.ntmps58 fun hb => ?_
  refine sg ?_
  refine as_ ?_
  refine rNil ?_
  refine sg ?_
  refine as_ ?_
  refine rNil ?_
  refine sq ?_
  refine sg ?_
  refine as_ ?_
  refine rNil ?_
  refine bk ?_
  refine lp (fun m S => ∃ k : Nat, m = st.length - k ∧ k ≤ st.length ∧ S = ⟨[(4, .r (I k)), (3, .r (I (n3 (st.take k)))), (0, .r (L st))], []⟩) st.length ?_ ?_
  · exact wx 0 ⟨0, rfl, Nat.zero_le _, rfl⟩
  rintro m S ⟨k, hm, hk, rfl⟩
  have hb1 := n3_bd (st.take k)
  have hb2 : (st.take k).length ≤ st.length := by rw [List.length_take]; omega
  refine sq ?_
  refine sg ?_
  refine mv ?_
  refine mv ?_
  first | refine lnM ?_ | refine ln ?_ | refine lnO ?_ | refine lnN ?_ | refine lnW ?_ | refine lnS ?_
  refine bo (hz := by exact rfl) ?_
  refine rNil ?_
  refine cn (fun h1 => ?_) (fun h1 => ?_)
  ·
    have hkl : k < st.length := by simpa using h1
    obtain ⟨c, hc⟩ : ∃ c, st[((k : Int)).toNat]? = some c := ⟨st[k], by simp [hkl]⟩
    have hc' : st[k]? = some c := by simpa using hc
    have hn : n3 (st.take (k + 1)) = n3 (st.take k) + (if c = 3 then 1 else 0) := by rw [take_snoc hc', n3_push]
    refine awp_skip ?_
    refine tn ?_
    refine sq ?_
    refine bk ?_
    refine sg ?_
    refine mv ?_
    refine mv ?_
    first | refine xs_ ?_ | refine xo ?_ | refine xw ?_ | refine xsl ?_
    first | refine l1f ?_ | refine l1b ?_ | refine l1o ?_
    refine bo (hz := by exact rfl) ?_
    refine rNil ?_
    refine cn (fun h2 => ?_) (fun h2 => ?_)
    ·
      refine rg ?_
      refine mv ?_
      refine bo (hz := by first | exact bop_add (by omega) (by omega) | exact rfl) ?_
      refine as_ ?_
      refine rNil ?_
      refine bn_ ?_
      refine tn ?_
      refine rg ?_
      refine mv ?_
      refine bo (hz := by first | exact bop_add (by omega) (by omega) | exact rfl) ?_
      refine as_ ?_
      refine rNil ?_
      refine tn ?_
      have hc3 : c = 3 := by simpa using h2
      exact ⟨st.length - (k + 1), by omega, wx 0 ⟨k + 1, rfl, by omega, by rw [hn, if_pos hc3]; rfl⟩⟩ -- LEAF 1: round of loop 1
    ·
      refine awp_skip ?_
      refine bn_ ?_
      refine tn ?_
      refine rg ?_
      refine mv ?_
      refine bo (hz := by first | exact bop_add (by omega) (by omega) | exact rfl) ?_
      refine as_ ?_
      refine rNil ?_
      refine tn ?_
      have hc3 : c ≠ 3 := by simpa using h2
      exact ⟨st.length - (k + 1), by omega, wx 0 ⟨k + 1, rfl, by omega, by rw [hn, if_neg hc3, Int.add_zero]; rfl⟩⟩ -- LEAF 2: round of loop 1
  ·
    have hkl : k = st.length := by simp at h1; omega
    subst hkl
    refine awp_exit ?_
    refine te ?_
    refine te ?_
    refine xbk ?_
    refine tn ?_
    refine sg ?_
    refine mv ?_
    refine as_ ?_
    refine rNil ?_
    refine awp_ret ?_
    exact ⟨.inr rfl, _, (.cons (by first | exact .v (by ((repeat apply Look.there rfl); exact Look.here)) (.f (.v _)) | exact .v (by ((repeat apply Look.there rfl); exact Look.here)) (.row rfl (by first | exact rfl | (simp; done) | (simp; omega))) | exact .v (by ((repeat apply Look.there rfl); exact Look.here)) (.f .nil) | exact .a (by ((repeat apply Look.there rfl); exact Look.here)) | skip) .nil), oneI (by rw [List.take_length])⟩ -- LEAF 3: ret

def nl (op : Int) (st : List Int) : List Int := if op = 43 then st ++ [1] else if op = 44 then st.dropLast ++ [2] else if op = 45 then st.dropLast else if op = 46 then st ++ [3] else if op = 49 then st.dropLast else st
theorem nx_nl {sg op : Int} {st l : List Int} (h : nx sg op st = some l) : l = nl op st := by
  unfold nx at h
  unfold nl
  repeat' (first | split at h | (split; (first | omega | skip)))
  all_goals first | (cases h; rfl) | (cases h; done) | simp_all
theorem dl_eq (st : List Int) : ((List.map Enc.c st).drop 0).take (st.length - 1 - 0) = List.map (Enc.c (α := Int)) st.dropLast := by
  rw [List.drop_zero, List.dropLast_eq_take, List.map_take, Nat.sub_zero]
theorem manyLB {xs : List (List FV)} {l : List Int} {b c : Bool} (h1 : xs = l.map Enc.c) (h2 : b = c) : outOf [.v (.sl xs), .v (.b b)] = Out.many [L l, B c] := by subst h1 h2; rfl
/-- frustum/frustumref22.next -/
theorem c47 (s0 op : Int) (st : List Int) (hl : st.length ≤ 16384) : Fn Try.prog 47 [I s0, I op, L st] (.many [L (nl op st), B (nx s0 op st).isSome]) := by
  refine fnI Try.func47 Try.ntmps47 fun hb => ?_
  refine sg ?_
  refine as_ ?_
  refine as_ ?_
  refine rNil ?_
  refine sg ?_
  refine as_ ?_
  refine rNil ?_
  refine sg ?_
  refine bsO 0 ?_
  refine as_ ?_
  refine rNil ?_
  refine jn (fun S => S = ⟨[(9, .own 0 st.dropLast.length), (8, .r (I (lastF st))), (0, .r (I s0)), (1, .r (I op)), (2, .r (L st))], [.row 3 1 (st.dropLast.map Enc.c)]⟩) ?_ ?_
  ·
    refine sg ?_
    refine mv ?_
    first | refine lnM ?_ | refine ln ?_ | refine lnO ?_ | refine lnN ?_ | refine lnW ?_ | refine lnS ?_
    refine bo (hz := by exact rfl) ?_
    refine rNil ?_
    refine cn (fun h1 => ?_) (fun h1 => ?_)
    ·
      have h0 : 0 < st.length := by simpa using h1
      have hx := last_at h0
      refine sg ?_
      refine mv ?_
      refine mv ?_
      first | refine lnM ?_ | refine ln ?_ | refine lnO ?_ | refine lnN ?_ | refine lnW ?_ | refine lnS ?_
      refine bo (hz := by first | exact bop_sub (by omega) (by omega) | exact rfl) ?_
      first | refine xs_ ?_ | refine xo ?_ | refine xw ?_ | refine xsl ?_
      first | refine l1f ?_ | refine l1b ?_ | refine l1o ?_
      refine as_ ?_
      refine rNil ?_
      refine rg ?_
      refine mv ?_
      refine mv ?_
      refine mv ?_
      first | refine lnM ?_ | refine ln ?_ | refine lnO ?_ | refine lnN ?_ | refine lnW ?_ | refine lnS ?_
      refine bo (z := .i .i64 ((st.length - 1 : Nat) : Int)) (hz := by rw [show ((st.length - 1 : Nat) : Int) = (st.length : Int) - 1 by omega]; exact bop_sub (by omega) (by omega)) ?_
      refine ct 0 (st.length - 1) ?_ (hs := by intro x hx; obtain ⟨y, _, rfl⟩ := List.mem_map.1 hx; rfl) (hz := by simp)
      rw [dl_eq]
      first | refine ap ?_ | refine (apN _) ?_
      refine as_ ?_
      refine rNil ?_
      refine tn ?_
      exact wy 1 rfl (by simp) -- LEAF 1: join
    ·
      have h0 : st = [] := by simpa using h1
      subst h0
      refine awp_skip ?_
      refine tn ?_
      exact wx 1 rfl -- LEAF 2: join
  ·
    rintro S rfl
    refine sq ?_
    refine sg ?_
    refine mv ?_
    refine rNil ?_
    refine bk ?_
    refine sg ?_
    refine bo (hz := by exact rfl) ?_
    refine as_ ?_
    refine rNil ?_
    refine cn (fun h2 => ?_) (fun h2 => ?_)
    ·
      have e1 : op = 43 := by simpa using h2
      subst e1
      refine sg ?_
      refine bsO 1 ?_
      refine mv ?_
      first | refine ap ?_ | refine (apN _) ?_
      refine as_ ?_
      refine rNil ?_
      refine sg ?_
      refine mv ?_
      refine bs ?_
      first | refine ap ?_ | refine (apN _) ?_
      refine as_ ?_
      refine rNil ?_
      refine sg ?_
      refine mv ?_
      refine as_ ?_
      refine as_ ?_
      refine rNil ?_
      refine awp_ret ?_
      refine br ?_
      refine tr ?_
      exact ⟨.inr rfl, _, (.cons (by first | exact .v (by ((repeat apply Look.there rfl); exact Look.here)) (.f (.v _)) | exact .v (by ((repeat apply Look.there rfl); exact Look.here)) (.row rfl (by first | exact rfl | (simp; done) | (simp; omega))) | exact .v (by ((repeat apply Look.there rfl); exact Look.here)) (.f .nil) | exact .a (by ((repeat apply Look.there rfl); exact Look.here)) | skip) (.cons (by first | exact .v (by ((repeat apply Look.there rfl); exact Look.here)) (.f (.v _)) | exact .v (by ((repeat apply Look.there rfl); exact Look.here)) (.row rfl (by first | exact rfl | (simp; done) | (simp; omega))) | exact .v (by ((repeat apply Look.there rfl); exact Look.here)) (.f .nil) | exact .a (by ((repeat apply Look.there rfl); exact Look.here)) | skip) .nil)), manyLB (by simp [nl]; try rfl) (by simp [nx])⟩ -- LEAF 3: ret
    ·
      refine sg ?_
      refine bo (hz := by exact rfl) ?_
      refine as_ ?_
      refine rNil ?_
      refine cn (fun h3 => ?_) (fun h3 => ?_)
      ·
        have e1 : op = 44 := by simpa using h3
        subst e1
        refine sg ?_
        refine mv ?_
        refine bs ?_
        first | refine ap ?_ | refine (apN _) ?_
        refine as_ ?_
        refine rNil ?_
        refine sg ?_
        refine mv ?_
        refine mv ?_
        refine bo (hz := by exact rfl) ?_
        refine as_ ?_
        refine as_ ?_
        refine rNil ?_
        refine awp_ret ?_
        refine br ?_
        refine tr ?_
        exact ⟨.inr rfl, _, (.cons (by first | exact .v (by ((repeat apply Look.there rfl); exact Look.here)) (.f (.v _)) | exact .v (by ((repeat apply Look.there rfl); exact Look.here)) (.row rfl (by first | exact rfl | (simp; done) | (simp; omega))) | exact .v (by ((repeat apply Look.there rfl); exact Look.here)) (.f .nil) | exact .a (by ((repeat apply Look.there rfl); exact Look.here)) | skip) (.cons (by first | exact .v (by ((repeat apply Look.there rfl); exact Look.here)) (.f (.v _)) | exact .v (by ((repeat apply Look.there rfl); exact Look.here)) (.row rfl (by first | exact rfl | (simp; done) | (simp; omega))) | exact .v (by ((repeat apply Look.there rfl); exact Look.here)) (.f .nil) | exact .a (by ((repeat apply Look.there rfl); exact Look.here)) | skip) .nil)), manyLB (by simp [nl]; try rfl) (by by_cases hc : lastF st = 1 <;> simp [nx, hc])⟩ -- LEAF 4: ret
      ·
        refine sg ?_
        refine bo (hz := by exact rfl) ?_
        refine as_ ?_
        refine rNil ?_
        refine cn (fun h4 => ?_) (fun h4 => ?_)
        ·
          have e1 : op = 45 := by simpa using h4
          subst e1
          refine sg ?_
          refine mv ?_
          refine mv ?_
          refine bo (hz := by exact rfl) ?_
          refine mv ?_
          refine gd (fun h5 => ?_) (fun h5 => ?_)
          ·
            refine no ?_
            refine no ?_
            refine pkT ?_
            refine as_ ?_
            refine as_ ?_
            refine rNil ?_
            refine awp_ret ?_
            refine br ?_
            refine tr ?_
            exact ⟨.inr rfl, _, (.cons (by first | exact .v (by ((repeat apply Look.there rfl); exact Look.here)) (.f (.v _)) | exact .v (by ((repeat apply Look.there rfl); exact Look.here)) (.row rfl (by first | exact rfl | (simp; done) | (simp; omega))) | exact .v (by ((repeat apply Look.there rfl); exact Look.here)) (.f .nil) | exact .a (by ((repeat apply Look.there rfl); exact Look.here)) | skip) (.cons (by first | exact .v (by ((repeat apply Look.there rfl); exact Look.here)) (.f (.v _)) | exact .v (by ((repeat apply Look.there rfl); exact Look.here)) (.row rfl (by first | exact rfl | (simp; done) | (simp; omega))) | exact .v (by ((repeat apply Look.there rfl); exact Look.here)) (.f .nil) | exact .a (by ((repeat apply Look.there rfl); exact Look.here)) | skip) .nil)), manyLB (by simp [nl]; try rfl) (by simp only [beq_iff_eq] at h5; simp [nx, h5])⟩ -- LEAF 5: ret
          ·
            refine mv ?_
            refine bo (hz := by exact rfl) ?_
            refine pkF ?_
            refine as_ ?_
            refine as_ ?_
            refine rNil ?_
            refine awp_ret ?_
            refine br ?_
            refine tr ?_
            exact ⟨.inr rfl, _, (.cons (by first | exact .v (by ((repeat apply Look.there rfl); exact Look.here)) (.f (.v _)) | exact .v (by ((repeat apply Look.there rfl); exact Look.here)) (.row rfl (by first | exact rfl | (simp; done) | (simp; omega))) | exact .v (by ((repeat apply Look.there rfl); exact Look.here)) (.f .nil) | exact .a (by ((repeat apply Look.there rfl); exact Look.here)) | skip) (.cons (by first | exact .v (by ((repeat apply Look.there rfl); exact Look.here)) (.f (.v _)) | exact .v (by ((repeat apply Look.there rfl); exact Look.here)) (.row rfl (by first | exact rfl | (simp; done) | (simp; omega))) | exact .v (by ((repeat apply Look.there rfl); exact Look.here)) (.f .nil) | exact .a (by ((repeat apply Look.there rfl); exact Look.here)) | skip) .nil)), manyLB (by simp [nl]; try rfl) (by simp only [beq_eq_false_iff_ne] at h5; by_cases hc : lastF st = 2 <;> simp [nx, h5, hc])⟩ -- LEAF 6: ret
        ·
          refine sg ?_
          refine bo (hz := by exact rfl) ?_
          refine as_ ?_
          refine rNil ?_
          refine cn (fun h6 => ?_) (fun h6 => ?_)
          ·
            have e1 : op = 46 := by simpa using h6
            subst e1
            refine sg ?_
            refine bsO 1 ?_
            refine mv ?_
            first | refine ap ?_ | refine (apN _) ?_
            refine as_ ?_
            refine rNil ?_
            refine sg ?_
            refine mv ?_
            refine bs ?_
            first | refine ap ?_ | refine (apN _) ?_
            refine as_ ?_
            refine rNil ?_
            refine sg ?_
            refine mv ?_
            refine mv ?_
            refine cl (c58 st hl) ?_
            refine bo (hz := by exact rfl) ?_
            refine as_ ?_
            refine as_ ?_
            refine rNil ?_
            refine awp_ret ?_
            refine br ?_
            refine tr ?_
            exact ⟨.inr rfl, _, (.cons (by first | exact .v (by ((repeat apply Look.there rfl); exact Look.here)) (.f (.v _)) | exact .v (by ((repeat apply Look.there rfl); exact Look.here)) (.row rfl (by first | exact rfl | (simp; done) | (simp; omega))) | exact .v (by ((repeat apply Look.there rfl); exact Look.here)) (.f .nil) | exact .a (by ((repeat apply Look.there rfl); exact Look.here)) | skip) (.cons (by first | exact .v (by ((repeat apply Look.there rfl); exact Look.here)) (.f (.v _)) | exact .v (by ((repeat apply Look.there rfl); exact Look.here)) (.row rfl (by first | exact rfl | (simp; done) | (simp; omega))) | exact .v (by ((repeat apply Look.there rfl); exact Look.here)) (.f .nil) | exact .a (by ((repeat apply Look.there rfl); exact Look.here)) | skip) .nil)), manyLB (by simp [nl]; try rfl) (by by_cases hc : n3 st < 3 <;> simp [nx, hc])⟩ -- LEAF 7: ret
          ·
            refine sg ?_
            refine bo (hz := by exact rfl) ?_
            refine as_ ?_
            refine rNil ?_
            refine cn (fun h7 => ?_) (fun h7 => ?_)
            ·
              have e1 : op = 49 := by simpa using h7
              subst e1
              refine sg ?_
              refine mv ?_
              refine mv ?_
              refine bo (hz := by exact rfl) ?_
              refine as_ ?_
              refine as_ ?_
              refine rNil ?_
              refine awp_ret ?_
              refine br ?_
              refine tr ?_
              exact ⟨.inr rfl, _, (.cons (by first | exact .v (by ((repeat apply Look.there rfl); exact Look.here)) (.f (.v _)) | exact .v (by ((repeat apply Look.there rfl); exact Look.here)) (.row rfl (by first | exact rfl | (simp; done) | (simp; omega))) | exact .v (by ((repeat apply Look.there rfl); exact Look.here)) (.f .nil) | exact .a (by ((repeat apply Look.there rfl); exact Look.here)) | skip) (.cons (by first | exact .v (by ((repeat apply Look.there rfl); exact Look.here)) (.f (.v _)) | exact .v (by ((repeat apply Look.there rfl); exact Look.here)) (.row rfl (by first | exact rfl | (simp; done) | (simp; omega))) | exact .v (by ((repeat apply Look.there rfl); exact Look.here)) (.f .nil) | exact .a (by ((repeat apply Look.there rfl); exact Look.here)) | skip) .nil)), manyLB (by simp [nl]; try rfl) (by by_cases hc : lastF st = 3 <;> simp [nx, hc])⟩ -- LEAF 8: ret
            ·
              refine sq ?_
              refine sg ?_
              refine bo (hz := by exact rfl) ?_
              refine as_ ?_
              refine rNil ?_
              refine cn (fun h8 => ?_) (fun h8 => ?_)
              ·
                refine awp_skip ?_
                refine tn ?_
                refine cn (fun h9 => ?_) (fun h9 => ?_)
                ·
                  have e1 : op = 47 := by simpa using h8
                  subst e1
                  refine sg ?_
                  refine mv ?_
                  refine mv ?_
                  refine cl (c58 st hl) ?_
                  refine bo (hz := by exact rfl) ?_
                  refine as_ ?_
                  refine as_ ?_
                  refine rNil ?_
                  refine awp_ret ?_
                  refine br ?_
                  refine tr ?_
                  exact ⟨.inr rfl, _, (.cons (by first | exact .v (by ((repeat apply Look.there rfl); exact Look.here)) (.f (.v _)) | exact .v (by ((repeat apply Look.there rfl); exact Look.here)) (.row rfl (by first | exact rfl | (simp; done) | (simp; omega))) | exact .v (by ((repeat apply Look.there rfl); exact Look.here)) (.f .nil) | exact .a (by ((repeat apply Look.there rfl); exact Look.here)) | skip) (.cons (by first | exact .v (by ((repeat apply Look.there rfl); exact Look.here)) (.f (.v _)) | exact .v (by ((repeat apply Look.there rfl); exact Look.here)) (.row rfl (by first | exact rfl | (simp; done) | (simp; omega))) | exact .v (by ((repeat apply Look.there rfl); exact Look.here)) (.f .nil) | exact .a (by ((repeat apply Look.there rfl); exact Look.here)) | skip) .nil)), manyLB (by simp [nl]; try rfl) (by by_cases hc : 0 < n3 st <;> simp [nx, hc])⟩ -- LEAF 9: ret
                ·
                  first | exact absurd h9 (by decide) | (exfalso; simp_all; done)
              ·
                refine rg ?_
                refine bo (hz := by exact rfl) ?_
                refine as_ ?_
                refine rNil ?_
                refine tn ?_
                refine cn (fun h10 => ?_) (fun h10 => ?_)
                ·
                  have e1 : op = 48 := by simpa using h10
                  subst e1
                  refine sg ?_
                  refine mv ?_
                  refine mv ?_
                  refine cl (c58 st hl) ?_
                  refine bo (hz := by exact rfl) ?_
                  refine as_ ?_
                  refine as_ ?_
                  refine rNil ?_
                  refine awp_ret ?_
                  refine br ?_
                  refine tr ?_
                  exact ⟨.inr rfl, _, (.cons (by first | exact .v (by ((repeat apply Look.there rfl); exact Look.here)) (.f (.v _)) | exact .v (by ((repeat apply Look.there rfl); exact Look.here)) (.row rfl (by first | exact rfl | (simp; done) | (simp; omega))) | exact .v (by ((repeat apply Look.there rfl); exact Look.here)) (.f .nil) | exact .a (by ((repeat apply Look.there rfl); exact Look.here)) | skip) (.cons (by first | exact .v (by ((repeat apply Look.there rfl); exact Look.here)) (.f (.v _)) | exact .v (by ((repeat apply Look.there rfl); exact Look.here)) (.row rfl (by first | exact rfl | (simp; done) | (simp; omega))) | exact .v (by ((repeat apply Look.there rfl); exact Look.here)) (.f .nil) | exact .a (by ((repeat apply Look.there rfl); exact Look.here)) | skip) .nil)), manyLB (by simp [nl]; try rfl) (by by_cases hc : 0 < n3 st <;> simp [nx, hc])⟩ -- LEAF 10: ret
                ·
                  refine sg ?_
                  refine bo (hz := by exact rfl) ?_
                  refine as_ ?_
                  refine rNil ?_
                  refine cn (fun h11 => ?_) (fun h11 => ?_)
                  ·
                    have e1 : op = 50 := by simpa using h11
                    subst e1
                    refine sg ?_
                    refine mv ?_
                    refine mv ?_
                    refine bo (hz := by exact rfl) ?_
                    refine as_ ?_
                    refine as_ ?_
                    refine rNil ?_
                    refine awp_ret ?_
                    refine br ?_
                    refine tr ?_
                    exact ⟨.inr rfl, _, (.cons (by first | exact .v (by ((repeat apply Look.there rfl); exact Look.here)) (.f (.v _)) | exact .v (by ((repeat apply Look.there rfl); exact Look.here)) (.row rfl (by first | exact rfl | (simp; done) | (simp; omega))) | exact .v (by ((repeat apply Look.there rfl); exact Look.here)) (.f .nil) | exact .a (by ((repeat apply Look.there rfl); exact Look.here)) | skip) (.cons (by first | exact .v (by ((repeat apply Look.there rfl); exact Look.here)) (.f (.v _)) | exact .v (by ((repeat apply Look.there rfl); exact Look.here)) (.row rfl (by first | exact rfl | (simp; done) | (simp; omega))) | exact .v (by ((repeat apply Look.there rfl); exact Look.here)) (.f .nil) | exact .a (by ((repeat apply Look.there rfl); exact Look.here)) | skip) .nil)), manyLB (by simp [nl]; try rfl) (by by_cases hc : s0 = 3 <;> simp [nx, hc])⟩ -- LEAF 11: ret
                  ·
                    refine sq ?_
                    refine sg ?_
                    refine bo (hz := by exact rfl) ?_
                    refine as_ ?_
                    refine rNil ?_
                    refine cn (fun h12 => ?_) (fun h12 => ?_)
                    ·
                      refine awp_skip ?_
                      refine tn ?_
                      refine cn (fun h13 => ?_) (fun h13 => ?_)
                      ·
                        have e1 : op = 51 := by simpa using h12
                        subst e1
                        refine sg ?_
                        refine mv ?_
                        refine mv ?_
                        refine bo (hz := by exact rfl) ?_
                        refine as_ ?_
                        refine as_ ?_
                        refine rNil ?_
                        refine awp_ret ?_
                        refine br ?_
                        refine tr ?_
                        exact ⟨.inr rfl, _, (.cons (by first | exact .v (by ((repeat apply Look.there rfl); exact Look.here)) (.f (.v _)) | exact .v (by ((repeat apply Look.there rfl); exact Look.here)) (.row rfl (by first | exact rfl | (simp; done) | (simp; omega))) | exact .v (by ((repeat apply Look.there rfl); exact Look.here)) (.f .nil) | exact .a (by ((repeat apply Look.there rfl); exact Look.here)) | skip) (.cons (by first | exact .v (by ((repeat apply Look.there rfl); exact Look.here)) (.f (.v _)) | exact .v (by ((repeat apply Look.there rfl); exact Look.here)) (.row rfl (by first | exact rfl | (simp; done) | (simp; omega))) | exact .v (by ((repeat apply Look.there rfl); exact Look.here)) (.f .nil) | exact .a (by ((repeat apply Look.there rfl); exact Look.here)) | skip) .nil)), manyLB (by simp [nl]; try rfl) (by by_cases hc : s0 = 2 <;> simp [nx, hc])⟩ -- LEAF 12: ret
                      ·
                        first | exact absurd h13 (by decide) | (exfalso; simp_all; done)
                    ·
                      refine rg ?_
                      refine bo (hz := by exact rfl) ?_
                      refine as_ ?_
                      refine rNil ?_
                      refine tn ?_
                      refine cn (fun h14 => ?_) (fun h14 => ?_)
                      ·
                        have e1 : op = 52 := by simpa using h14
                        subst e1
                        refine sg ?_
                        refine mv ?_
                        refine mv ?_
                        refine bo (hz := by exact rfl) ?_
                        refine as_ ?_
                        refine as_ ?_
                        refine rNil ?_
                        refine awp_ret ?_
                        refine br ?_
                        refine tr ?_
                        exact ⟨.inr rfl, _, (.cons (by first | exact .v (by ((repeat apply Look.there rfl); exact Look.here)) (.f (.v _)) | exact .v (by ((repeat apply Look.there rfl); exact Look.here)) (.row rfl (by first | exact rfl | (simp; done) | (simp; omega))) | exact .v (by ((repeat apply Look.there rfl); exact Look.here)) (.f .nil) | exact .a (by ((repeat apply Look.there rfl); exact Look.here)) | skip) (.cons (by first | exact .v (by ((repeat apply Look.there rfl); exact Look.here)) (.f (.v _)) | exact .v (by ((repeat apply Look.there rfl); exact Look.here)) (.row rfl (by first | exact rfl | (simp; done) | (simp; omega))) | exact .v (by ((repeat apply Look.there rfl); exact Look.here)) (.f .nil) | exact .a (by ((repeat apply Look.there rfl); exact Look.here)) | skip) .nil)), manyLB (by simp [nl]; try rfl) (by by_cases hc : s0 = 2 <;> simp [nx, hc])⟩ -- LEAF 13: ret
                      ·
                        refine awp_skip ?_
                        refine bn_ ?_
                        refine tn ?_
                        refine sg ?_
                        refine mv ?_
                        refine as_ ?_
                        refine as_ ?_
                        refine rNil ?_
                        refine awp_ret ?_
                        exact ⟨.inr rfl, _, (.cons (by first | exact .v (by ((repeat apply Look.there rfl); exact Look.here)) (.f (.v _)) | exact .v (by ((repeat apply Look.there rfl); exact Look.here)) (.row rfl (by first | exact rfl | (simp; done) | (simp; omega))) | exact .v (by ((repeat apply Look.there rfl); exact Look.here)) (.f .nil) | exact .a (by ((repeat apply Look.there rfl); exact Look.here)) | skip) (.cons (by first | exact .v (by ((repeat apply Look.there rfl); exact Look.here)) (.f (.v _)) | exact .v (by ((repeat apply Look.there rfl); exact Look.here)) (.row rfl (by first | exact rfl | (simp; done) | (simp; omega))) | exact .v (by ((repeat apply Look.there rfl); exact Look.here)) (.f .nil) | exact .a (by ((repeat apply Look.there rfl); exact Look.here)) | skip) .nil)), manyLB (by simp_all [nl]) (by simp_all [nx])⟩ -- LEAF 14: ret

end Go.Proofs.Ytnhljpbpfaablaa.VS
