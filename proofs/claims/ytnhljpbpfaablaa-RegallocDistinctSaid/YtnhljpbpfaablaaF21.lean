/- RegallocDistinct: registers whose intervals intersect have different numbers, and exactly the registers without an interval have none. Conditions: none. -/
import Derived.Test.YtnhljpbpfaablaaPL
import Derived.Test.YtnhljpbpfaablaaVD
set_option linter.unusedVariables false
set_option linter.unusedSimpArgs false
namespace Go.Proofs.Ytnhljpbpfaablaa.VS
open Go Go.RowKit Go.ChangeShapes Go.WideShapes Go.ChangeAt
theorem pres_nil (L : Nat) : pres [] L = 0 := by
  obtain ⟨h1, h2, h3⟩ := prs_spec (List.replicate (L + 2) 0) 0 0
  have := h3 0 (Int.le_refl _) (fun j _ _ => by
    have : ((List.replicate (L + 2) (0 : Int)).take j).sum = 0 := by rw [List.take_replicate]; induction (min j (L + 2)) with | zero => rfl | succ n ih => rw [List.replicate_succ, List.sum_cons, ih]; rfl
    omega)
  show (List.foldl prs (0, 0) (List.replicate (L + 2) 0)).1 = 0
  omega
theorem asg_len {ls : List Pr} {L : Nat} (h : IvOk ls L) : (asg ls).length = ls.length := (asg_main h).2.len
theorem asg_neg {ls : List Pr} {L : Nat} (h : IvOk ls L) {k : Nat} (hk : k < ls.length) : ((asg ls).getD k 0 < 0) ↔ (ls.getD k ⟨0, 0⟩).y = -2 := by
  have hI := (asg_main h).2
  by_cases hm : (k : Int) ∈ ordF ls
  · have h1 := hI.num _ hm
    have h2 := (mem_ord.1 hm).2.2
    unfold ys_ at h2
    rw [Int.toNat_natCast] at h1 h2
    omega
  · have h1 := hI.out k hk hm
    have h2 : ys_ ls k = -2 := Classical.byContradiction fun h2 => hm (mem_ord.2 ⟨by omega, by omega, h2⟩)
    unfold ys_ at h2
    rw [Int.toNat_natCast] at h2
    omega
theorem asg_dis {ls : List Pr} {L : Nat} (h : IvOk ls L) {i k : Nat} (hi : i < ls.length) (hk : k < ls.length) (hne : i ≠ k) (he : (asg ls).getD i 0 = (asg ls).getD k 0) (h0 : (asg ls).getD i 0 ≥ 0) : ¬ max (ls.getD i ⟨0, 0⟩).x (ls.getD k ⟨0, 0⟩).x ≤ min (ls.getD i ⟨0, 0⟩).y (ls.getD k ⟨0, 0⟩).y := by
  have hI := (asg_main h).2
  have n1 := asg_neg h hi
  have n2 := asg_neg h hk
  have hm1 : (i : Int) ∈ ordF ls := mem_ord.2 ⟨by omega, by omega, by unfold ys_; rw [Int.toNat_natCast]; omega⟩
  have hm2 : (k : Int) ∈ ordF ls := mem_ord.2 ⟨by omega, by omega, by unfold ys_; rw [Int.toNat_natCast]; omega⟩
  have := hI.dis _ hm1 _ hm2 (by omega) (by rw [Int.toNat_natCast, Int.toNat_natCast]; exact he)
  unfold kx ys_ at this
  rw [Int.toNat_natCast, Int.toNat_natCast] at this
  omega
/-- frustum/frustumlaw25.RegallocDistinct -/
theorem c5 (p : Prg) (hL : p.code.length ≤ 17592186044416) : Fn Try.prog 5 [A p] (.one (B true)) := by
  refine fnI Try.func5 Try.ntmps5 fun hb => ?_
  refine sg ?_
  refine bx _ ?_
  refine as_ ?_
  refine rNil ?_
  refine sg ?_
  first | refine lAf ?_ | refine lAb ?_ | refine lAo ?_
  refine cl (c11 p) ?_
  refine as_ ?_
  refine rNil ?_
  refine sg ?_
  first | refine lAf ?_ | refine lAb ?_ | refine lAo ?_
  refine cl (c17 p) ?_
  refine as_ ?_
  refine rNil ?_
  refine sq ?_
  refine sg ?_
  first | refine lAf ?_ | refine lAb ?_ | refine lAo ?_
  refine cl (c19 p) ?_
  refine bo (hz := by exact rfl) ?_
  refine rNil ?_
  refine cn (fun h1 => ?_) (fun h1 => ?_)
  ·
    have g1 : validF p ≠ 0 := by simpa using h1
    have e1 : ivF p = [] := by rw [ivF, if_neg g1]
    have c14n : Fn Try.prog 14 [A p] (.one (I 0)) := by have := c14 p hL; rwa [e1, pres_nil] at this
    rw [e1, asg_nil]
    refine sg ?_
    refine mv ?_
    first | refine lnM ?_ | refine ln ?_ | refine lnO ?_ | refine lnN ?_ | refine lnW ?_ | refine lnS ?_
    refine bo (hz := by exact rfl) ?_
    refine mv ?_
    refine gd (fun h2 => ?_) (fun h2 => ?_)
    ·
      refine mv ?_
      first | refine lnM ?_ | refine ln ?_ | refine lnO ?_ | refine lnN ?_ | refine lnW ?_ | refine lnS ?_
      refine bo (hz := by exact rfl) ?_
      refine pkT ?_
      refine mv ?_
      refine gd (fun h3 => ?_) (fun h3 => ?_)
      ·
        first | refine lAf ?_ | refine lAb ?_ | refine lAo ?_
        refine cl (c14n) ?_
        refine bo (hz := by exact rfl) ?_
        refine pkT ?_
        refine mv ?_
        refine gd (fun h4 => ?_) (fun h4 => ?_)
        ·
          refine cl (c13) ?_
          refine pkT ?_
          refine as_ ?_
          refine rNil ?_
          refine awp_ret ?_
          refine tr ?_
          exact ⟨.inr rfl, _, (.cons (by first | exact .v (by ((repeat apply Look.there rfl); exact Look.here)) (.f (.v _)) | exact .v (by ((repeat apply Look.there rfl); exact Look.here)) (.row rfl (by first | exact rfl | (simp; done) | (simp; omega))) | exact .v (by ((repeat apply Look.there rfl); exact Look.here)) (.f .nil) | exact .a (by ((repeat apply Look.there rfl); exact Look.here)) | skip) .nil), rfl⟩ -- LEAF 1: ret
        ·
          exact absurd h4 (by decide) -- END
      ·
        exact absurd h3 (by decide) -- END
    ·
      exact absurd h2 (by decide) -- END
  ·
    have g1 : validF p = 0 := by simpa using h1
    have hok : IvOk (ivF p) p.code.length := by rw [ivF, if_pos g1]; exact ivs_ok g1
    have hlen : ((ivF p).length : Int) = p.rg := by
      have hs := (valid_of g1).1
      obtain ⟨_, _, _, _, _, _, _, _, _, _, hr0, _⟩ := hs
      rw [ivF, if_pos g1]; unfold ivs; simp; omega
    have hal := asg_len hok
    have hneg := fun (k : Nat) hk => asg_neg hok (k := k) hk
    have hdis := fun (i k : Nat) hi hk hne => asg_dis hok (i := i) (k := k) hi hk hne
    have hl8 := hok.1
    generalize ivF p = ls at *
    generalize asg ls = asn at *
    refine awp_skip ?_
    refine tn ?_
    refine sq ?_
    refine sg ?_
    refine mv ?_
    first | refine lnM ?_ | refine ln ?_ | refine lnO ?_ | refine lnN ?_ | refine lnW ?_ | refine lnS ?_
    first | refine ff ?_ | refine fb ?_ | refine fo ?_
    first | refine l1f ?_ | refine l1b ?_ | refine l1o ?_
    refine bo (hz := by exact rfl) ?_
    refine mv ?_
    refine gd (fun h5 => ?_) (fun h5 => ?_)
    ·
      have : (ls.length : Int) ≠ p.rg := by simpa using h5
      exact absurd hlen this -- END
    ·
      refine mv ?_
      first | refine lnM ?_ | refine ln ?_ | refine lnO ?_ | refine lnN ?_ | refine lnW ?_ | refine lnS ?_
      first | refine ff ?_ | refine fb ?_ | refine fo ?_
      first | refine l1f ?_ | refine l1b ?_ | refine l1o ?_
      refine bo (hz := by exact rfl) ?_
      refine pkF ?_
      refine rNil ?_
      refine cn (fun h6 => ?_) (fun h6 => ?_)
      ·
        have : (asn.length : Int) ≠ p.rg := by simpa using h6
        omega -- END
      ·
        refine awp_skip ?_
        refine tn ?_
        refine sq ?_
        refine sg ?_
        refine mv ?_
        first | refine lnM ?_ | refine ln ?_ | refine lnO ?_ | refine lnN ?_ | refine lnW ?_ | refine lnS ?_
        refine mv ?_
        refine rNil ?_
        refine bk ?_
        refine lp (fun m S => ∃ k : Nat, m = ls.length - k ∧ k ≤ ls.length ∧ S = ⟨[(44, .r (I k)), (43, .r (I ls.length)), (4, .r (L asn)), (3, .r (L ls))], [bxP p]⟩) ls.length ?_ ?_
        · exact wx 1 ⟨0, rfl, Nat.zero_le _, rfl⟩
        rintro m S ⟨k, hm, hk, rfl⟩
        refine sg ?_
        refine bo (hz := by exact rfl) ?_
        refine rNil ?_
        refine sq ?_
        refine cn (fun h7 => ?_) (fun h7 => ?_)
        ·
          have hk' : k < ls.length := by simpa using h7
          obtain ⟨q, hq⟩ := ex_get hk'
          obtain ⟨z, hz⟩ := ex_get (a := asn) (k := k) (by omega)
          have hz' : asn[k]? = some z := by simpa using hz
          have hzd : asn.getD k 0 = z := by rw [List.getD_eq_getElem?_getD, hz']; rfl
          have hqd := getD_at (show ls[k]? = some q by simpa using hq)
          have hn1 := hneg k hk'
          rw [hzd, hqd] at hn1
          refine awp_skip ?_
          refine tn ?_
          refine sq ?_
          refine bk ?_
          refine sg ?_
          refine mv ?_
          refine as_ ?_
          refine rNil ?_
          refine sq ?_
          refine sd mixO ?_
          refine mv ?_
          refine mv ?_
          first | refine xs_ ?_ | refine xo ?_ | refine xw ?_ | refine xsl ?_
          first | refine l1f ?_ | refine l1b ?_ | refine l1o ?_
          refine bo (hz := by exact rfl) ?_
          refine mv ?_
          refine mv ?_
          first | refine xs_ ?_ | refine xo ?_ | refine xw ?_ | refine xsl ?_
          first | refine xf ?_ | refine xb ?_ | refine xoa ?_
          first | refine l1f ?_ | refine l1b ?_ | refine l1o ?_
          refine bo (hz := by exact rfl) ?_
          refine bn ?_
          refine rNil ⟨rfl, ?_⟩
          refine cn (fun h8 => ?_) (fun h8 => ?_)
          ·
            exfalso
            have : decide (z < 0) = (q.y == -2) := by rw [Bool.eq_iff_iff]; simp [hn1]
            rw [this] at h8
            simp at h8 -- END
          ·
            refine awp_skip ?_
            refine tn ?_
            refine sg ?_
            refine mv ?_
            refine mv ?_
            refine rNil ?_
            refine bk ?_
            refine lp (fun m S => ∃ j : Nat, m = k - j ∧ j ≤ k ∧ S = ⟨[(60, .r (I j)), (59, .r (I k)), (5, .r (I k)), (44, .r (I k)), (43, .r (I ls.length)), (4, .r (L asn)), (3, .r (L ls))], [bxP p]⟩) k ?_ ?_
            · exact wx 1 ⟨0, rfl, Nat.zero_le _, rfl⟩
            rintro m2 S ⟨j, hm2, hj, rfl⟩
            refine sg ?_
            refine bo (hz := by exact rfl) ?_
            refine rNil ?_
            refine sq ?_
            refine cn (fun h9 => ?_) (fun h9 => ?_)
            ·
              have hj' : j < k := by simpa using h9
              obtain ⟨q2, hq2⟩ := ex_get (a := ls) (k := j) (by omega)
              obtain ⟨z2, hz2⟩ := ex_get (a := asn) (k := j) (by omega)
              have hz2d : asn.getD j 0 = z2 := by rw [List.getD_eq_getElem?_getD, show asn[j]? = some z2 by simpa using hz2]; rfl
              have hq2d := getD_at (show ls[j]? = some q2 by simpa using hq2)
              have hd1 := hdis k j hk' (by omega) (by omega)
              rw [hzd, hz2d, hqd, hq2d] at hd1
              refine awp_skip ?_
              refine tn ?_
              refine sq ?_
              refine bk ?_
              refine sg ?_
              refine mv ?_
              refine as_ ?_
              refine rNil ?_
              refine sd mixO ?_
              refine mv ?_
              refine mv ?_
              first | refine xs_ ?_ | refine xo ?_ | refine xw ?_ | refine xsl ?_
              first | refine l1f ?_ | refine l1b ?_ | refine l1o ?_
              refine mv ?_
              refine mv ?_
              first | refine xs_ ?_ | refine xo ?_ | refine xw ?_ | refine xsl ?_
              first | refine l1f ?_ | refine l1b ?_ | refine l1o ?_
              refine bo (hz := by exact rfl) ?_
              refine mv ?_
              refine gd (fun h10 => ?_) (fun h10 => ?_)
              ·
                refine mv ?_
                refine mv ?_
                first | refine xs_ ?_ | refine xo ?_ | refine xw ?_ | refine xsl ?_
                first | refine l1f ?_ | refine l1b ?_ | refine l1o ?_
                refine bo (hz := by exact rfl) ?_
                refine pkT ?_
                refine mv ?_
                refine gd (fun h11 => ?_) (fun h11 => ?_)
                ·
                  refine mv ?_
                  refine mv ?_
                  first | refine xs_ ?_ | refine xo ?_ | refine xw ?_ | refine xsl ?_
                  first | refine xf ?_ | refine xb ?_ | refine xoa ?_
                  first | refine l1f ?_ | refine l1b ?_ | refine l1o ?_
                  refine mv ?_
                  refine mv ?_
                  first | refine xs_ ?_ | refine xo ?_ | refine xw ?_ | refine xsl ?_
                  first | refine xf ?_ | refine xb ?_ | refine xoa ?_
                  first | refine l1f ?_ | refine l1b ?_ | refine l1o ?_
                  refine mx2 ?_
                  refine mv ?_
                  refine mv ?_
                  first | refine xs_ ?_ | refine xo ?_ | refine xw ?_ | refine xsl ?_
                  first | refine xf ?_ | refine xb ?_ | refine xoa ?_
                  first | refine l1f ?_ | refine l1b ?_ | refine l1o ?_
                  refine mv ?_
                  refine mv ?_
                  first | refine xs_ ?_ | refine xo ?_ | refine xw ?_ | refine xsl ?_
                  first | refine xf ?_ | refine xb ?_ | refine xoa ?_
                  first | refine l1f ?_ | refine l1b ?_ | refine l1o ?_
                  refine mn2 ?_
                  refine bo (hz := by exact rfl) ?_
                  refine pkT ?_
                  refine rNil ⟨rfl, ?_⟩
                  refine cn (fun h12 => ?_) (fun h12 => ?_)
                  ·
                    exfalso
                    have g11 : z = z2 := by simpa using h10
                    have g12 : z ≥ 0 := by simpa using h11
                    have g13 : mx q.x q2.x ≤ mn q.y q2.y := by simpa using h12
                    rw [mx_max, mn_min] at g13
                    exact hd1 g11 g12 g13 -- END
                  ·
                    refine awp_skip ?_
                    refine bn_ ?_
                    refine tn ?_
                    refine rg ?_
                    refine bo (hz := by first | exact bop_add (by omega) (by omega) | exact rfl) ?_
                    refine mv ?_
                    refine rNil ?_
                    refine tn ?_
                    exact ⟨k - (j + 1), by omega, wx 1 ⟨j + 1, by omega, by omega, rfl⟩⟩ -- LEAF 2: round of loop 2
                ·
                  refine no ?_
                  refine no ?_
                  refine no ?_
                  refine no ?_
                  refine no ?_
                  refine no ?_
                  refine no ?_
                  refine no ?_
                  refine no ?_
                  refine no ?_
                  refine no ?_
                  refine no ?_
                  refine no ?_
                  refine no ?_
                  refine no ?_
                  refine no ?_
                  refine no ?_
                  refine no ?_
                  refine no ?_
                  refine no ?_
                  refine no ?_
                  refine no ?_
                  refine no ?_
                  refine pkF ?_
                  refine rNil ⟨rfl, ?_⟩
                  refine cn (fun h13 => ?_) (fun h13 => ?_)
                  ·
                    first | exact absurd h13 (by decide) | (exfalso; simp_all; done)
                  ·
                    refine awp_skip ?_
                    refine bn_ ?_
                    refine tn ?_
                    refine rg ?_
                    refine bo (hz := by first | exact bop_add (by omega) (by omega) | exact rfl) ?_
                    refine mv ?_
                    refine rNil ?_
                    refine tn ?_
                    exact ⟨k - (j + 1), by omega, wx 1 ⟨j + 1, by omega, by omega, rfl⟩⟩ -- LEAF 3: round of loop 2
              ·
                refine no ?_
                refine no ?_
                refine no ?_
                refine no ?_
                refine no ?_
                refine pkF ?_
                refine mv ?_
                refine no ?_
                refine no ?_
                refine no ?_
                refine no ?_
                refine no ?_
                refine no ?_
                refine no ?_
                refine no ?_
                refine no ?_
                refine no ?_
                refine no ?_
                refine no ?_
                refine no ?_
                refine no ?_
                refine no ?_
                refine no ?_
                refine no ?_
                refine no ?_
                refine no ?_
                refine no ?_
                refine no ?_
                refine no ?_
                refine no ?_
                refine pkF ?_
                refine rNil ⟨rfl, ?_⟩
                refine cn (fun h14 => ?_) (fun h14 => ?_)
                ·
                  first | exact absurd h14 (by decide) | (exfalso; simp_all; done)
                ·
                  refine awp_skip ?_
                  refine bn_ ?_
                  refine tn ?_
                  refine rg ?_
                  refine bo (hz := by first | exact bop_add (by omega) (by omega) | exact rfl) ?_
                  refine mv ?_
                  refine rNil ?_
                  refine tn ?_
                  exact ⟨k - (j + 1), by omega, wx 1 ⟨j + 1, by omega, by omega, rfl⟩⟩ -- LEAF 4: round of loop 2
            ·
              refine awp_exit ?_
              refine te ?_
              refine te ?_
              refine xbk ?_
              refine bn_ ?_
              refine tn ?_
              refine rg ?_
              refine bo (hz := by first | exact bop_add (by omega) (by omega) | exact rfl) ?_
              refine mv ?_
              refine rNil ?_
              refine tn ?_
              exact ⟨ls.length - (k + 1), by omega, wx 1 ⟨k + 1, by omega, by omega, rfl⟩⟩ -- LEAF 5: round of loop 1
        ·
          refine awp_exit ?_
          refine te ?_
          refine te ?_
          refine xbk ?_
          refine tn ?_
          refine sg ?_
          refine cl (c13) ?_
          refine as_ ?_
          refine rNil ?_
          refine awp_ret ?_
          exact ⟨.inr rfl, _, (.cons (by first | exact .v (by ((repeat apply Look.there rfl); exact Look.here)) (.f (.v _)) | exact .v (by ((repeat apply Look.there rfl); exact Look.here)) (.row rfl (by first | exact rfl | (simp; done) | (simp; omega))) | exact .v (by ((repeat apply Look.there rfl); exact Look.here)) (.f .nil) | exact .a (by ((repeat apply Look.there rfl); exact Look.here)) | skip) .nil), rfl⟩ -- LEAF 6: ret

set_option maxRecDepth 100000 in
theorem vd_lifted (os : Os) (started : os.Started) (H : Type) (enc : TypeId × Value → H) :
    ReturnsInHanded {} Try.checked os 5 .any (Rows.regallocDistinctSpec.pre6 enc Try.prog Try.f5 Rows.regallocDistinctRow.domain false) (Rows.regallocDistinctSpec.post enc Try.prog Try.f5 false true false false) := by
  refine returnsInHanded_of_change_sized (C := Try.checked) own started (by kernel_rfl) Try.func5
    (ChangeSpec.witness6 (enc := enc) (C := Try.checked) false ⟨#[], #[.agg #[.int .i64 0, .int .i64 0, .int .i64 0, .int .i64 0, .int .i64 0, .int .i64 0, .int .i64 0, .slice none 0 0]], []⟩ 8 (by kernel_rfl) (by kernel_rfl) (by kernel_rfl) (by kernel_rfl)) ?_
  intro W base args ds gs before hval hW _ hw _
  refine law_contract (n := 20) (tb := 4) closedF laid rfl (by kernel_rfl) (by kernel_rfl) Try.underlying4 ?_ (by kernel_rfl) (all_P (f := 5) fun p hp => c5 p (by omega)) hval hW (weights_in hw)
  intro ds h
  match ds, h with
  | [d1], _ => exact ⟨rfl, rfl, rfl⟩

theorem regallocDistinct_holds : Rows.RegallocDistinctSaid :=
  OpenClaim.holds_of_wide 5 Try.f5 rfl rfl rfl rfl rfl rfl rfl ⟨rfl, rfl, rfl, rfl, rfl⟩ rfl rfl rfl rfl rfl (by kernel_rfl) Try.func5 (by kernel_rfl)
    (of_decide_eq_true (by kernel_rfl)) (by unfold Func.isWrapper; first | (rw [if_pos (by decide +kernel)]; kernel_rfl) | (rw [if_neg (by decide +kernel)]; exact ⟨rfl, rfl⟩))
    (fun os started H enc _ => vd_lifted os started H enc)
#print axioms regallocDistinct_holds
end Go.Proofs.Ytnhljpbpfaablaa.VS
