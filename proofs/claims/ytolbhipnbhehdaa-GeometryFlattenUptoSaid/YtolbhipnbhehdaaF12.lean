/- The walks of functions: what each computes, by itself. Conditions: none. -/
import Derived.Test.YtolbhipnbhehdaaF11
set_option linter.unusedVariables false
set_option linter.unusedSimpArgs false
namespace Go.Proofs.Ytolbhipnbhehdaa.VS
open Go
/-- frustum/frustumlaw30.GeometryAmplification -/
theorem c6 (rs : List LR) (hl : ∀ r ∈ rs, ∀ l ∈ r.em, l.length ≤ 17592186044412) : Fn Try.prog 6 [L rs] (.one (B true)) := by
  refine fnI Try.func6 Try.ntmps6 fun hb => ?_
  have hla := bd_L (f := Enc.c) (l := rs) hb (by simp)
  refine sg ?_
  refine as_ ?_
  refine rNil ?_
  refine sg ?_
  refine as_ ?_
  refine rNil ?_
  refine sq ?_
  refine sg ?_
  refine as_ ?_
  refine rNil ?_
  refine bk ?_
  refine lp (fun n S => ∃ (k : Nat), n = rs.length - k ∧ k ≤ rs.length ∧ (∀ r ∈ rs.take k, Small r) ∧ (k = 0 ∨ rs.length ≤ 50) ∧ S = ⟨[(4, .r (I k)), (0, .r (L rs)), (3, .r (I (ampl (rs.take k))))], []⟩) rs.length ?_ ?_
  · exact wx 0 ⟨0, rfl, by omega, by simp, .inl rfl, rfl⟩
  rintro n S ⟨k, hn, hk, hsm, h5k, rfl⟩
  refine sq ?_
  refine sg ?_
  refine mv ?_
  refine mv ?_
  first | refine lnM ?_ | refine ln ?_ | refine lnO ?_ | refine lnN ?_ | refine lnW ?_
  refine bo ?_
  refine rNil ?_
  refine cn (fun h1 => ?_) (fun h1 => ?_)
  ·
    have hk1 : k < rs.length := by simp at h1; omega
    obtain ⟨r, hx⟩ := ex_get hk1
    refine awp_skip ?_
    refine tn ?_
    refine sq ?_
    refine bk ?_
    refine sq ?_
    refine sg ?_
    refine mv ?_
    first | refine lnM ?_ | refine ln ?_ | refine lnO ?_ | refine lnN ?_ | refine lnW ?_
    refine bo ?_
    refine mv ?_
    refine gd (fun h2 => ?_) (fun h2 => ?_)
    ·
      refine no ?_
      refine no ?_
      refine no ?_
      refine no ?_
      refine no ?_
      refine no ?_
      refine no ?_
      refine pkT ?_
      refine mv ?_
      refine no ?_
      refine no ?_
      refine no ?_
      refine no ?_
      refine no ?_
      refine no ?_
      refine no ?_
      refine pkT ?_
      refine rNil ?_
      refine cn (fun h3 => ?_) (fun h3 => ?_)
      ·
        refine sg ?_
        refine cl (c17) ?_
        refine as_ ?_
        refine rNil ?_
        refine awp_ret ?_
        refine tr ?_
        refine br ?_
        refine tr ?_
        refine tr ?_
        refine br ?_
        refine tr ?_
        exact ⟨.inr rfl, _, (.cons (by first | exact .v (by ((repeat apply Look.there rfl); exact Look.here)) (.f (.v _)) | exact .v (by ((repeat apply Look.there rfl); exact Look.here)) (.row rfl rfl) | exact .v (by ((repeat apply Look.there rfl); exact Look.here)) (.f .nil) | exact .a (by ((repeat apply Look.there rfl); exact Look.here)) | skip) .nil), rfl⟩ -- LEAF 1: ret
      ·
        exact absurd h3 (by decide)
    ·
      have h50 : rs.length ≤ 50 := by simp at h2; omega
      refine mv ?_
      refine mv ?_
      first | refine xs_ ?_ | refine xo ?_ | refine xw ?_
      first | refine ff ?_ | refine fb ?_ | refine fo ?_
      first | refine l1f ?_ | refine l1b ?_ | refine l1o ?_
      first | refine lnM ?_ | refine ln ?_ | refine lnO ?_ | refine lnN ?_ | refine lnW ?_
      refine bo ?_
      refine pkF ?_
      refine mv ?_
      refine gd (fun h4 => ?_) (fun h4 => ?_)
      ·
        refine no ?_
        refine no ?_
        refine no ?_
        refine no ?_
        refine no ?_
        refine no ?_
        refine no ?_
        refine pkT ?_
        refine rNil ?_
        refine cn (fun h5 => ?_) (fun h5 => ?_)
        ·
          refine sg ?_
          refine cl (c17) ?_
          refine as_ ?_
          refine rNil ?_
          refine awp_ret ?_
          refine tr ?_
          refine br ?_
          refine tr ?_
          refine tr ?_
          refine br ?_
          refine tr ?_
          exact ⟨.inr rfl, _, (.cons (by first | exact .v (by ((repeat apply Look.there rfl); exact Look.here)) (.f (.v _)) | exact .v (by ((repeat apply Look.there rfl); exact Look.here)) (.row rfl rfl) | exact .v (by ((repeat apply Look.there rfl); exact Look.here)) (.f .nil) | exact .a (by ((repeat apply Look.there rfl); exact Look.here)) | skip) .nil), rfl⟩ -- LEAF 2: ret
        ·
          exact absurd h5 (by decide)
      ·
        have he3 : r.em.length ≤ 300 := by simp at h4; omega
        refine mv ?_
        refine mv ?_
        first | refine xs_ ?_ | refine xo ?_ | refine xw ?_
        first | refine ff ?_ | refine fb ?_ | refine fo ?_
        first | refine l1f ?_ | refine l1b ?_ | refine l1o ?_
        first | refine lnM ?_ | refine ln ?_ | refine lnO ?_ | refine lnN ?_ | refine lnW ?_
        refine bo ?_
        refine pkF ?_
        refine rNil ?_
        refine cn (fun h6 => ?_) (fun h6 => ?_)
        ·
          refine sg ?_
          refine cl (c17) ?_
          refine as_ ?_
          refine rNil ?_
          refine awp_ret ?_
          refine tr ?_
          refine br ?_
          refine tr ?_
          refine tr ?_
          refine br ?_
          refine tr ?_
          exact ⟨.inr rfl, _, (.cons (by first | exact .v (by ((repeat apply Look.there rfl); exact Look.here)) (.f (.v _)) | exact .v (by ((repeat apply Look.there rfl); exact Look.here)) (.row rfl rfl) | exact .v (by ((repeat apply Look.there rfl); exact Look.here)) (.f .nil) | exact .a (by ((repeat apply Look.there rfl); exact Look.here)) | skip) .nil), rfl⟩ -- LEAF 3: ret
        ·
          have hc3 : r.cuts.length ≤ 300 := by simp at h6; omega
          have hrs : Small r := ⟨he3, hc3, hl r (List.mem_of_getElem? hx)⟩
          have he := exp_le hrs
          have ha := ampl_le (rs.take k) hsm
          rw [List.length_take] at ha
          have ha2 : ampl (rs.take k) ≤ 4515000 := by
            have : min k rs.length * 90300 ≤ 50 * 90300 := Nat.mul_le_mul_right _ (by omega)
            omega
          refine awp_skip ?_
          refine tn ?_
          refine rg ?_
          refine mv ?_
          refine mv ?_
          refine mv ?_
          first | refine xs_ ?_ | refine xo ?_ | refine xw ?_
          first | refine lAf ?_ | refine lAb ?_ | refine lAo ?_
          refine cl (c21 r hrs.1 hrs.2.1 hrs.2.2) ?_
          first | refine lnM ?_ | refine ln ?_ | refine lnO ?_ | refine lnN ?_ | refine lnW ?_
          refine bo ?_
          refine as_ ?_
          refine rNil ?_
          refine bn_ ?_
          refine tn ?_
          refine rg ?_
          refine mv ?_
          refine bo ?_
          refine as_ ?_
          refine rNil ?_
          refine tn ?_
          refine ⟨rs.length - (k + 1), by omega, wx 0 ⟨k + 1, rfl, by omega, ?_, .inr h50, by rw [ampl_snoc hx]; rfl⟩⟩
          intro y hy
          rw [take_snoc hx] at hy
          rcases List.mem_append.1 hy with hy | hy
          · exact hsm y hy
          · rw [List.mem_singleton.1 hy]; exact hrs -- LEAF 4: round of loop 1
  ·
    refine awp_exit ?_
    refine te ?_
    refine te ?_
    refine xbk ?_
    refine tn ?_
    have hkk : k = rs.length := by simp at h1; omega
    subst hkk
    rw [List.take_length] at hsm ⊢
    have h50 : rs.length ≤ 50 := by omega
    refine sg ?_
    refine mv ?_
    refine cl (c23 rs h50 hsm) ?_
    refine as_ ?_
    refine rNil ?_
    refine sg ?_
    refine mv ?_
    refine mv ?_
    refine bo ?_
    refine mv ?_
    refine gd (fun h7 => ?_) (fun h7 => ?_)
    ·
      refine mv ?_
      refine mv ?_
      refine cl (c24 rs h50 hsm) ?_
      refine bo ?_
      refine pkT ?_
      refine mv ?_
      refine gd (fun h8 => ?_) (fun h8 => ?_)
      ·
        refine cl (c17) ?_
        refine pkT ?_
        refine as_ ?_
        refine rNil ?_
        refine awp_ret ?_
        exact ⟨.inr rfl, _, (.cons (by first | exact .v (by ((repeat apply Look.there rfl); exact Look.here)) (.f (.v _)) | exact .v (by ((repeat apply Look.there rfl); exact Look.here)) (.row rfl rfl) | exact .v (by ((repeat apply Look.there rfl); exact Look.here)) (.f .nil) | exact .a (by ((repeat apply Look.there rfl); exact Look.here)) | skip) .nil), rfl⟩ -- LEAF 5: ret
      ·
        simp at h8 -- END
    ·
      simp at h7 -- END

def tot (ss : List (List V)) : Nat := (ss.map List.length).sum
theorem tot_snoc {ss : List (List V)} {k : Nat} {s : List V} (h : ss[k]? = some s) : tot (ss.take (k + 1)) = tot (ss.take k) + s.length := by
  rw [take_snoc h, tot, List.map_append, List.sum_append]; simp [tot]
def Tot (em : List (List Int)) (s : Nat × List (List V)) : Prop := tot s.2 = s.1 ∧ s.1 ≤ em.length ∧ ∀ x ∈ s.2, 0 < x.length
theorem tot_add {em : List (List Int)} {a z : Nat} {ss : List (List V)} (h : Tot em (a, ss)) (haz : a < z) (hz : z ≤ em.length) : Tot em (z, ss ++ [seg em a z]) := by
  obtain ⟨h1, h2, h3⟩ := h
  have hl : (seg em a z).length = z - a := seg_len hz
  refine ⟨?_, hz, fun x hx => ?_⟩
  · show tot (ss ++ [seg em a z]) = z
    have h1 : tot ss = a := h1
    rw [tot, List.map_append, List.sum_append]
    simp only [List.map_cons, List.map_nil, List.sum_cons, List.sum_nil, hl]
    rw [show (ss.map List.length).sum = a from h1]
    omega
  · rcases List.mem_append.1 hx with hx | hx
    · exact h3 x hx
    · rw [List.mem_singleton.1 hx, hl]; omega
theorem stripsL_tot (em : List (List Int)) : ∀ (cuts : List Int) (s : Nat × List (List V)), Tot em s → Tot em (cuts.foldl (stepC em) s)
  | [], _, h => h
  | c :: cuts, s, h => by
    rw [List.foldl_cons]
    refine stripsL_tot em cuts _ ?_
    unfold stepC
    split
    · rename_i hc; exact tot_add (a := s.1) h (by omega) (by omega)
    · exact h
theorem strips_tot (r : LR) : tot (strips r) = r.em.length ∧ ∀ x ∈ strips r, 0 < x.length := by
  have h : Tot r.em (stripsL r.em r.cuts) := stripsL_tot r.em r.cuts (0, []) ⟨rfl, Nat.zero_le _, fun x hx => by cases hx⟩
  unfold strips
  split
  · rename_i hlt
    have h2 := tot_add (a := (stripsL r.em r.cuts).1) (z := r.em.length) h hlt (Nat.le_refl _)
    exact ⟨h2.1, h2.2.2⟩
  · rename_i hge
    exact ⟨by have := h.1; have := h.2.1; omega, h.2.2⟩
/-- frustum/frustumlaw30.GeometryCounts -/
theorem c7 (r : LR) (hl : ∀ l ∈ r.em, l.length ≤ 17592186044412) : Fn Try.prog 7 [A r] (.one (B true)) := by
  refine fnI Try.func7 Try.ntmps7 fun hb => ?_
  refine sg ?_
  refine bx _ ?_
  refine as_ ?_
  refine rNil ?_
  refine sq ?_
  refine sg ?_
  first | refine ff ?_ | refine fb ?_ | refine fo ?_
  first | refine l1f ?_ | refine l1b ?_ | refine l1o ?_
  first | refine lnM ?_ | refine ln ?_ | refine lnO ?_ | refine lnN ?_ | refine lnW ?_
  refine bo ?_
  refine mv ?_
  refine gd (fun h1 => ?_) (fun h1 => ?_)
  ·
    refine no ?_
    refine no ?_
    refine no ?_
    refine no ?_
    refine pkT ?_
    refine rNil ?_
    refine cn (fun h2 => ?_) (fun h2 => ?_)
    ·
      refine sg ?_
      refine cl (c17) ?_
      refine as_ ?_
      refine rNil ?_
      refine awp_ret ?_
      refine tr ?_
      exact ⟨.inr rfl, _, (.cons (by first | exact .v (by ((repeat apply Look.there rfl); exact Look.here)) (.f (.v _)) | exact .v (by ((repeat apply Look.there rfl); exact Look.here)) (.row rfl rfl) | exact .v (by ((repeat apply Look.there rfl); exact Look.here)) (.f .nil) | exact .a (by ((repeat apply Look.there rfl); exact Look.here)) | skip) .nil), rfl⟩ -- LEAF 1: ret
    ·
      exact absurd h2 (by decide)
  ·
    first | refine ff ?_ | refine fb ?_ | refine fo ?_
    first | refine l1f ?_ | refine l1b ?_ | refine l1o ?_
    first | refine lnM ?_ | refine ln ?_ | refine lnO ?_ | refine lnN ?_ | refine lnW ?_
    refine bo ?_
    refine pkF ?_
    refine rNil ?_
    refine cn (fun h3 => ?_) (fun h3 => ?_)
    ·
      refine sg ?_
      refine cl (c17) ?_
      refine as_ ?_
      refine rNil ?_
      refine awp_ret ?_
      refine tr ?_
      exact ⟨.inr rfl, _, (.cons (by first | exact .v (by ((repeat apply Look.there rfl); exact Look.here)) (.f (.v _)) | exact .v (by ((repeat apply Look.there rfl); exact Look.here)) (.row rfl rfl) | exact .v (by ((repeat apply Look.there rfl); exact Look.here)) (.f .nil) | exact .a (by ((repeat apply Look.there rfl); exact Look.here)) | skip) .nil), rfl⟩ -- LEAF 2: ret
    ·
      have hem : r.em.length ≤ 300 := by simp at h1; omega
      have hcu : r.cuts.length ≤ 300 := by simp at h3; omega
      refine awp_skip ?_
      refine tn ?_
      refine sg ?_
      first | refine lAf ?_ | refine lAb ?_ | refine lAo ?_
      refine cl (c18 r hem hcu hl) ?_
      refine as_ ?_
      refine rNil ?_
      refine sg ?_
      refine as_ ?_
      refine as_ ?_
      refine rNil ?_
      refine sq ?_
      refine sg ?_
      refine as_ ?_
      refine rNil ?_
      refine bk ?_
      obtain ⟨htot, hpos⟩ := strips_tot r
      obtain ⟨hfine, hsl⟩ := strips_fine r
      refine lp (fun n S => ∃ k : Nat, n = (strips r).length - k ∧ k ≤ (strips r).length ∧ tot ((strips r).take k) ≤ k * 300 ∧ (expandL ((strips r).take k)).length ≤ k * 300 ∧ S = ⟨[(6, .r (I k)), (3, .r (L (strips r))), (4, .r (I (tot ((strips r).take k)))), (5, .r (I (expandL ((strips r).take k)).length)), (1, .box 0 0)], [.box 39 [.r (.v (.sl (r.outs.map Enc.c))), .r (B r.disc), .r (.v (.sl (r.em.map Enc.c))), .r (.v (.sl (r.cuts.map Enc.c)))]]⟩) (strips r).length ?_ ?_
      · exact wx 1 ⟨0, rfl, by omega, by simp [tot], by simp [expandL], rfl⟩
      rintro n S ⟨k, hn, hk, ht1, ht2, rfl⟩
      refine sq ?_
      refine sg ?_
      refine mv ?_
      refine mv ?_
      first | refine lnM ?_ | refine ln ?_ | refine lnO ?_ | refine lnN ?_ | refine lnW ?_
      refine bo ?_
      refine rNil ?_
      refine cn (fun h4 => ?_) (fun h4 => ?_)
      ·
        have hk1 : k < (strips r).length := by simp at h4; omega
        obtain ⟨s, hs⟩ := ex_get hk1
        have hsb := (hfine s (List.mem_of_getElem? hs)).1
        have hsp := hpos s (List.mem_of_getElem? hs)
        have hmx : mx 0 ((s.length : Int) - 2) = ((s.length - 2 : Nat) : Int) := by unfold mx; split <;> omega
        refine awp_skip ?_
        refine tn ?_
        refine sq ?_
        refine bk ?_
        refine sq ?_
        refine sg ?_
        refine mv ?_
        refine mv ?_
        first | refine xs_ ?_ | refine xo ?_ | refine xw ?_
        first | refine l1f ?_ | refine l1b ?_ | refine l1o ?_
        first | refine lnM ?_ | refine ln ?_ | refine lnO ?_ | refine lnN ?_ | refine lnW ?_
        refine bo ?_
        refine rNil ?_
        refine cn (fun h5 => ?_) (fun h5 => ?_)
        ·
          simp at h5; subst h5; simp at hsp -- END
        ·
          refine awp_skip ?_
          refine tn ?_
          refine sg ?_
          refine mv ?_
          refine mv ?_
          refine mv ?_
          first | refine xs_ ?_ | refine xo ?_ | refine xw ?_
          first | refine l1f ?_ | refine l1b ?_ | refine l1o ?_
          first | refine lnM ?_ | refine ln ?_ | refine lnO ?_ | refine lnN ?_ | refine lnW ?_
          refine bo ?_
          refine as_ ?_
          refine rNil ?_
          refine rg ?_
          refine mv ?_
          refine mv ?_
          refine mv ?_
          first | refine xs_ ?_ | refine xo ?_ | refine xw ?_
          first | refine l1f ?_ | refine l1b ?_ | refine l1o ?_
          first | refine lnM ?_ | refine ln ?_ | refine lnO ?_ | refine lnN ?_ | refine lnW ?_
          refine bo ?_
          refine mx2 ?_
          rw [hmx]
          refine bo ?_
          refine as_ ?_
          refine rNil ?_
          refine bn_ ?_
          refine tn ?_
          refine rg ?_
          refine mv ?_
          refine bo ?_
          refine as_ ?_
          refine rNil ?_
          refine tn ?_
          have e1 := tot_snoc hs
          have e2 : (expandL ((strips r).take (k + 1))).length = (expandL ((strips r).take k)).length + (s.length - 2) := by rw [expandL_snoc hs, List.length_append, ex1, exK_len]
          refine ⟨(strips r).length - (k + 1), by omega, wx 1 ⟨k + 1, rfl, by omega, by rw [e1]; omega, by rw [e2]; omega, by rw [e1, e2]; rfl⟩⟩ -- LEAF 3: round of loop 1
      ·
        refine awp_exit ?_
        refine te ?_
        refine te ?_
        refine xbk ?_
        refine tn ?_
        have hkk : k = (strips r).length := by simp at h4; omega
        subst hkk
        rw [List.take_length] at ht1 ht2 ⊢
        refine sg ?_
        refine mv ?_
        first | refine ff ?_ | refine fb ?_ | refine fo ?_
        first | refine l1f ?_ | refine l1b ?_ | refine l1o ?_
        first | refine lnM ?_ | refine ln ?_ | refine lnO ?_ | refine lnN ?_ | refine lnW ?_
        refine bo ?_
        refine mv ?_
        refine gd (fun h6 => ?_) (fun h6 => ?_)
        ·
          refine mv ?_
          first | refine lAf ?_ | refine lAb ?_ | refine lAo ?_
          refine cl (c21 r hem hcu hl) ?_
          first | refine lnM ?_ | refine ln ?_ | refine lnO ?_ | refine lnN ?_ | refine lnW ?_
          refine bo ?_
          refine pkT ?_
          refine mv ?_
          refine gd (fun h7 => ?_) (fun h7 => ?_)
          ·
            refine cl (c17) ?_
            refine pkT ?_
            refine as_ ?_
            refine rNil ?_
            refine awp_ret ?_
            exact ⟨.inr rfl, _, (.cons (by first | exact .v (by ((repeat apply Look.there rfl); exact Look.here)) (.f (.v _)) | exact .v (by ((repeat apply Look.there rfl); exact Look.here)) (.row rfl rfl) | exact .v (by ((repeat apply Look.there rfl); exact Look.here)) (.f .nil) | exact .a (by ((repeat apply Look.there rfl); exact Look.here)) | skip) .nil), rfl⟩ -- LEAF 4: ret
          ·
            simp at h7 -- END
        ·
          rw [htot] at h6; simp at h6 -- END

end Go.Proofs.Ytolbhipnbhehdaa.VS
