/- RegallocPressure: Assign uses exactly the numbers below Pressure. Conditions: none. -/
import Derived.Test.YtnhljpbpfaablaaPL
import Derived.Test.YtnhljpbpfaablaaVD
set_option linter.unusedVariables false
set_option linter.unusedSimpArgs false
namespace Go.Proofs.Ytnhljpbpfaablaa.VS
open Go Go.RowKit Go.ChangeShapes Go.WideShapes Go.ChangeAt
abbrev rowB (n : Nat) (F : Nat → Bool) : List (List FV) := ((List.range n).map F).map Enc.c
theorem rowB_at {n : Nat} {F : Nat → Bool} {j : Nat} (h : j < n) : ((List.range n).map F)[j]? = some (F j) := by simp [h]
theorem rowB_set {n : Nat} {F : Nat → Bool} {j : Nat} {q : Bool} : (rowB n F).set j (Enc.c q) = rowB n (fun r => if r = j then q else F r) := by
  apply List.ext_getElem (by simp)
  intro i h1 h2
  simp only [List.getElem_set, List.getElem_map, List.getElem_range]
  by_cases h : j = i
  · subst h; simp
  · rw [if_neg h, if_neg (fun e => h e.symm)]
theorem rowB_congr {n : Nat} {F G : Nat → Bool} (h : ∀ r < n, F r = G r) : rowB n F = rowB n G := by
  have : (List.range n).map F = (List.range n).map G := List.map_congr_left fun r hr => h r (List.mem_range.1 hr)
  show ((List.range n).map F).map Enc.c = ((List.range n).map G).map Enc.c
  rw [this]
theorem rowB_rep (n : Nat) : List.replicate n [FV.b false] = rowB n (fun _ => false) := by
  apply List.ext_getElem (by simp)
  intro i h1 h2
  simp; rfl
def usd (asn : List Int) (k c : Nat) : Bool := (List.range k).any fun j => asn.getD j 0 == (c : Int)
theorem usd_succ (asn : List Int) (k c : Nat) : usd asn (k + 1) c = (usd asn k c || (asn.getD k 0 == (c : Int))) := by unfold usd; rw [List.range_succ, List.any_append]; simp
/-- frustum/frustumlaw25.RegallocPressure -/
theorem c6 (p : Prg) : Fn Try.prog 6 [A p] (.one (B true)) := by
  refine fnI Try.func6 Try.ntmps6 fun hb => ?_
  refine sg ?_
  refine bx _ ?_
  refine as_ ?_
  refine rNil ?_
  refine sq ?_
  refine sg ?_
  first | refine lAf ?_ | refine lAb ?_ | refine lAo ?_
  refine cl (c19 p) ?_
  refine bo (hz := by exact rfl) ?_
  refine rNil ?_
  refine cn (fun h1 => ?_) (fun h1 => ?_)
  ·
    refine sg ?_
    refine cl (c13) ?_
    refine as_ ?_
    refine rNil ?_
    refine awp_ret ?_
    refine tr ?_
    exact ⟨.inr rfl, _, (.cons (by first | exact .v (by ((repeat apply Look.there rfl); exact Look.here)) (.f (.v _)) | exact .v (by ((repeat apply Look.there rfl); exact Look.here)) (.row rfl (by first | exact rfl | (simp; done) | (simp; omega))) | exact .v (by ((repeat apply Look.there rfl); exact Look.here)) (.f .nil) | exact .a (by ((repeat apply Look.there rfl); exact Look.here)) | skip) .nil), rfl⟩ -- LEAF 1: ret
  ·
    have g1 : validF p = 0 := by simpa using h1
    have hcl := (valid_of g1).2.1
    have hok : IvOk (ivF p) p.code.length := by rw [ivF, if_pos g1]; exact ivs_ok g1
    have hf := fin_of hok
    have c14v := c14 p (by omega)
    rw [pres_eq hf] at c14v
    have hal : (asg (ivF p)).length = (ivF p).length := hf.inv.len
    have hul : (greedy (ivF p) (ordF (ivF p))).1.length ≤ (ivF p).length := by
      have h1 := hf.inv.ulen
      have h2 : (ordF (ivF p)).length = (ordK (ivF p) (ivF p).length).length := lexs_len _ _
      have h3 := ordK_len (ivF p) (ivF p).length
      omega
    have hnum : ∀ k : Nat, k < (ivF p).length → (asg (ivF p)).getD k 0 < ((greedy (ivF p) (ordF (ivF p))).1.length : Nat) := fun k hk => by
      by_cases hm : (k : Int) ∈ ordF (ivF p)
      · have := hf.inv.num _ hm; rw [Int.toNat_natCast] at this; exact this.2
      · have := hf.inv.out k hk hm; omega
    have hwit : ∀ c : Nat, c < (greedy (ivF p) (ordF (ivF p))).1.length → usd (asg (ivF p)) (ivF p).length c = true := fun c hc => by
      obtain ⟨z, hz, h1, _⟩ := hf.inv.wit c hc
      obtain ⟨h2, h3, _⟩ := mem_ord.1 hz
      unfold usd
      exact List.any_eq_true.2 ⟨z.toNat, List.mem_range.2 (by omega), by rw [h1]; simp⟩
    have c17v := c17 p
    have hl8 := hok.1
    generalize (greedy (ivF p) (ordF (ivF p))).1.length = w at *
    generalize asg (ivF p) = asn at *
    generalize (ivF p).length = n at *
    refine awp_skip ?_
    refine tn ?_
    refine sg ?_
    first | refine lAf ?_ | refine lAb ?_ | refine lAo ?_
    refine cl (c14v) ?_
    refine as_ ?_
    refine rNil ?_
    refine sg ?_
    first | refine lAf ?_ | refine lAb ?_ | refine lAo ?_
    refine cl (c17v) ?_
    refine as_ ?_
    refine rNil ?_
    refine sq ?_
    refine sg ?_
    refine mv ?_
    refine bo (hz := by exact rfl) ?_
    refine mv ?_
    refine gd (fun h2 => ?_) (fun h2 => ?_)
    ·
      exfalso
      have := of_decide_eq_true h2
      omega -- END
    ·
      refine mv ?_
      refine mv ?_
      first | refine lnM ?_ | refine ln ?_ | refine lnO ?_ | refine lnN ?_ | refine lnW ?_ | refine lnS ?_
      refine bo (hz := by exact rfl) ?_
      refine pkF ?_
      refine rNil ?_
      refine cn (fun h3 => ?_) (fun h3 => ?_)
      ·
        exfalso
        have := of_decide_eq_true h3
        omega -- END
      ·
        refine awp_skip ?_
        refine tn ?_
        refine sg ?_
        refine mv ?_
        refine mk 1 (n := w) ?_
        refine as_ ?_
        refine rNil ?_
        refine sq ?_
        refine sg ?_
        refine mv ?_
        first | refine lnM ?_ | refine ln ?_ | refine lnO ?_ | refine lnN ?_ | refine lnW ?_ | refine lnS ?_
        refine mv ?_
        refine rNil ?_
        refine bk ?_
        refine lp (fun m S => ∃ k : Nat, m = n - k ∧ k ≤ n ∧ S = ⟨[(28, .r (I k)), (27, .r (I asn.length)), (26, .r (L asn)), (5, .own 1 w), (4, .r (L asn)), (3, .r (I w))], [bxP p, .row 4 1 (rowB w fun c => usd asn k c)]⟩) n ?_ ?_
        · exact wy 2 ⟨0, rfl, Nat.zero_le _, rfl⟩ (by
            show [_, Ent.row 4 1 (List.replicate w [FV.b false])] = _
            rw [rowB_rep, rowB_congr (F := fun _ => false) (G := fun c => usd asn 0 c) (fun r _ => rfl)])
        rintro m S ⟨k, hm, hk, rfl⟩
        refine sg ?_
        refine bo (hz := by exact rfl) ?_
        refine rNil ?_
        refine sq ?_
        refine cn (fun h4 => ?_) (fun h4 => ?_)
        ·
          have hk' : k < n := by simp at h4; omega
          obtain ⟨z, hz⟩ := ex_get (a := asn) (k := k) (by omega)
          have hzd : asn.getD k 0 = z := by rw [List.getD_eq_getElem?_getD, show asn[k]? = some z by simpa using hz]; rfl
          have hzw := hnum k hk'
          rw [hzd] at hzw
          refine awp_skip ?_
          refine tn ?_
          refine sq ?_
          refine bk ?_
          refine sg ?_
          refine mv ?_
          refine as_ ?_
          refine rNil ?_
          refine sq ?_
          refine sg ?_
          refine mv ?_
          refine mv ?_
          first | refine xs_ ?_ | refine xo ?_ | refine xw ?_ | refine xsl ?_
          first | refine l1f ?_ | refine l1b ?_ | refine l1o ?_
          refine mv ?_
          refine bo (hz := by exact rfl) ?_
          refine rNil ?_
          refine cn (fun h5 => ?_) (fun h5 => ?_)
          ·
            exfalso
            have := of_decide_eq_true h5
            omega -- END
          ·
            refine awp_skip ?_
            refine tn ?_
            refine sg ?_
            refine mv ?_
            refine mv ?_
            first | refine xs_ ?_ | refine xo ?_ | refine xw ?_ | refine xsl ?_
            first | refine l1f ?_ | refine l1b ?_ | refine l1o ?_
            refine bo (hz := by exact rfl) ?_
            refine rNil ?_
            refine cn (fun h6 => ?_) (fun h6 => ?_)
            ·
              have hz0 : z ≥ 0 := by simpa using h6
              have hat := rowB_at (F := fun c => usd asn k c) (show z.toNat < w by omega)
              refine rg ?_
              refine mv ?_
              refine mv ?_
              refine mv ?_
              first | refine xs_ ?_ | refine xo ?_ | refine xw ?_ | refine xsl ?_
              first | refine l1f ?_ | refine l1b ?_ | refine l1o ?_
              first | refine xs_ ?_ | refine xo ?_ | refine xw ?_ | refine xsl ?_
              refine so z.toNat 0 ?_ (hj := by show 0 < 1; decide)
              refine rNil ?_
              refine bn_ ?_
              refine tn ?_
              refine rg ?_
              refine bo (hz := by first | exact bop_add (by omega) (by omega) | exact rfl) ?_
              refine mv ?_
              refine rNil ?_
              refine tn ?_
              exact ⟨n - (k + 1), by omega, wy 2 ⟨k + 1, rfl, by omega, rfl⟩ (by
                show [_, Ent.row 4 1 (List.set (rowB w fun c => usd asn k c) z.toNat (Enc.c true))] = _
                rw [rowB_set, rowB_congr (G := fun c => usd asn (k + 1) c) (fun c hc => by
                  rw [usd_succ, hzd]
                  by_cases h : c = z.toNat
                  · rw [if_pos h]; simp [h]; omega
                  · rw [if_neg h, show (z == (c : Int)) = false by simp; omega]; simp)])⟩ -- LEAF 2: round of loop 1
            ·
              refine awp_skip ?_
              refine bn_ ?_
              refine tn ?_
              refine rg ?_
              refine bo (hz := by first | exact bop_add (by omega) (by omega) | exact rfl) ?_
              refine mv ?_
              refine rNil ?_
              refine tn ?_
              have hz0 : ¬ z ≥ 0 := by simpa using h6
              exact ⟨n - (k + 1), by omega, wy 2 ⟨k + 1, rfl, by omega, rfl⟩ (by
                show [_, Ent.row 4 1 (rowB w fun c => usd asn k c)] = _
                rw [rowB_congr (G := fun c => usd asn (k + 1) c) (fun c hc => by
                  rw [usd_succ, hzd, show (z == (c : Int)) = false by simp; omega]; simp)])⟩ -- LEAF 3: round of loop 1
        ·
          have hk' : k = n := by simp at h4; omega
          subst hk'
          rw [rowB_congr (G := fun _ => true) (fun c hc => hwit c hc)]
          refine awp_exit ?_
          refine te ?_
          refine te ?_
          refine xbk ?_
          refine tn ?_
          refine sq ?_
          refine sg ?_
          refine mv ?_
          first | refine lnM ?_ | refine ln ?_ | refine lnO ?_ | refine lnN ?_ | refine lnW ?_ | refine lnS ?_
          refine mv ?_
          refine rNil ?_
          refine bk ?_
          refine lp (fun m S => ∃ i : Nat, m = w - i ∧ i ≤ w ∧ S = ⟨[(51, .r (I i)), (50, .r (I w)), (49, .own 1 w), (5, .own 1 w)], [bxP p, .row 4 1 (rowB w fun _ => true)]⟩) w ?_ ?_
          · exact wx 2 ⟨0, rfl, Nat.zero_le _, rfl⟩
          rintro m2 S ⟨i, hm2, hi, rfl⟩
          refine sg ?_
          refine bo (hz := by exact rfl) ?_
          refine rNil ?_
          refine sq ?_
          refine cn (fun h7 => ?_) (fun h7 => ?_)
          ·
            have hi' : i < w := by simpa using h7
            have hat := rowB_at (F := fun _ => true) hi'
            refine awp_skip ?_
            refine tn ?_
            refine sq ?_
            refine bk ?_
            refine sg ?_
            refine mv ?_
            refine as_ ?_
            refine rNil ?_
            refine sg ?_
            refine mv ?_
            refine mv ?_
            first | refine xs_ ?_ | refine xo ?_ | refine xw ?_ | refine xsl ?_
            refine l1o (i := i) (j := 0) (c := .b true) (cs := Enc.c true) ?_ (ho := by omega) (hi := get_map hat) (hc := rfl)
            refine nt ?_
            refine rNil ?_
            refine cn (fun h8 => ?_) (fun h8 => ?_)
            ·
              exact absurd h8 (by decide) -- END
            ·
              refine awp_skip ?_
              refine bn_ ?_
              refine tn ?_
              refine rg ?_
              refine bo (hz := by first | exact bop_add (by omega) (by omega) | exact rfl) ?_
              refine mv ?_
              refine rNil ?_
              refine tn ?_
              exact ⟨w - (i + 1), by omega, wx 2 ⟨i + 1, rfl, by omega, rfl⟩⟩ -- LEAF 4: round of loop 2
          ·
            refine awp_exit ?_
            refine te ?_
            refine te ?_
            refine xbk ?_
            refine tn ?_
            refine sg ?_
            refine cl (c13) ?_
            refine as_ ?_
            refine rNil ?_
            refine awp_ret ?_
            exact ⟨.inr rfl, _, (.cons (by first | exact .v (by ((repeat apply Look.there rfl); exact Look.here)) (.f (.v _)) | exact .v (by ((repeat apply Look.there rfl); exact Look.here)) (.row rfl (by first | exact rfl | (simp; done) | (simp; omega))) | exact .v (by ((repeat apply Look.there rfl); exact Look.here)) (.f .nil) | exact .a (by ((repeat apply Look.there rfl); exact Look.here)) | skip) .nil), rfl⟩ -- LEAF 5: ret

set_option maxRecDepth 100000 in
theorem vr_lifted (os : Os) (started : os.Started) (H : Type) (enc : TypeId × Value → H) :
    ReturnsInHanded {} Try.checked os 6 .any (Rows.regallocPressureSpec.pre6 enc Try.prog Try.f6 Rows.regallocPressureRow.domain false) (Rows.regallocPressureSpec.post enc Try.prog Try.f6 false true false false) := by
  refine returnsInHanded_of_change_sized (C := Try.checked) own started (by kernel_rfl) Try.func6
    (ChangeSpec.witness6 (enc := enc) (C := Try.checked) false ⟨#[], #[.agg #[.int .i64 0, .int .i64 0, .int .i64 0, .int .i64 0, .int .i64 0, .int .i64 0, .int .i64 0, .slice none 0 0]], []⟩ 8 (by kernel_rfl) (by kernel_rfl) (by kernel_rfl) (by kernel_rfl)) ?_
  intro W base args ds gs before hval hW _ hw _
  refine law_contract (n := 20) (tb := 4) closedF laid rfl (by kernel_rfl) (by kernel_rfl) Try.underlying4 ?_ (by kernel_rfl) (all_P (f := 6) fun p hp => c6 p) hval hW (weights_in hw)
  intro ds h
  match ds, h with
  | [d1], _ => exact ⟨rfl, rfl, rfl⟩

theorem regallocPressure_holds : Rows.RegallocPressureSaid :=
  OpenClaim.holds_of_wide 6 Try.f6 rfl rfl rfl rfl rfl rfl rfl ⟨rfl, rfl, rfl, rfl, rfl⟩ rfl rfl rfl rfl rfl (by kernel_rfl) Try.func6 (by kernel_rfl)
    (of_decide_eq_true (by kernel_rfl)) (by unfold Func.isWrapper; first | (rw [if_pos (by decide +kernel)]; kernel_rfl) | (rw [if_neg (by decide +kernel)]; exact ⟨rfl, rfl⟩))
    (fun os started H enc _ => vr_lifted os started H enc)
#print axioms regallocPressure_holds
end Go.Proofs.Ytnhljpbpfaablaa.VS
