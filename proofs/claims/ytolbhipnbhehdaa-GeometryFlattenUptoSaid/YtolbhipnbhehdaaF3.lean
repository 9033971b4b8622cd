/- The walks of functions: what each computes, by itself. Conditions: none. -/
import Derived.Test.YtolbhipnbhehdaaF1
set_option linter.unusedVariables false
set_option linter.unusedSimpArgs false
namespace Go.Proofs.Ytolbhipnbhehdaa.VS
open Go
structure LR where
  outs : List Int
  disc : Bool
  em : List (List Int)
  cuts : List Int
instance : Enc LR := ⟨fun r => [.sl (r.outs.map Enc.c), .b r.disc, .sl (r.em.map Enc.c), .sl (r.cuts.map Enc.c)]⟩
def vofs (l : List Int) : V := vof (l.map sat)
def seg (em : List (List Int)) (a z : Nat) : List V := ((em.drop a).take (z - a)).map vofs
abbrev O33 (r : LR) (a : Nat) (outs : List (List V)) : List Ent := [.box 39 [.r (.v (.sl (r.outs.map Enc.c))), .r (B r.disc), .r (.v (.sl (r.em.map Enc.c))), .r (.v (.sl (r.cuts.map Enc.c)))], .box 40 [.own 3 outs.length], .box 3 [.r (I a)], .row 31 1 (outs.map Enc.c)]
/-- frustum/geometrystage.Strips$1 -/
theorem c33 (r : LR) (a z : Nat) (outs : List (List V)) (haz : a ≤ z) (hz : z ≤ r.em.length) (hem : r.em.length ≤ 300) (ho : outs.length ≤ 300) (hl : ∀ l ∈ r.em, l.length ≤ 17592186044412) : FnC Try.prog 33 [I z] [0, 2, 1] (O33 r a outs) (O33 r z (outs ++ [seg r.em a z])) := by
  refine fnC_of Try.func33 Try.ntmps33 fun K hK hb => ?_
  refine sg ?_
  refine as_ ?_
  refine rNil ?_
  refine sq ?_
  refine adN 5 5 26 5 ?_
  refine sg ?_
  first | refine ff ?_ | refine fb ?_ | refine fo ?_
  first | refine l1f ?_ | refine l1b ?_ | refine l1o ?_
  first | refine l1f ?_ | refine l1b ?_ | refine l1o ?_
  refine mv ?_
  refine (ct a z) ?_
  first | refine lnM ?_ | refine ln ?_ | refine lnO ?_ | refine lnN ?_ | refine lnW ?_
  refine mv ?_
  refine rNil ?_
  refine bk ?_
  have hcut : ((r.em.map Enc.c).drop a).take (z - a) = (((r.em.drop a).take (z - a)).map Enc.c) := by rw [List.map_take, List.map_drop]
  rw [hcut, List.length_map]
  generalize hc : (r.em.drop a).take (z - a) = cs
  have hcl : cs.length = z - a := by rw [← hc, List.length_take, List.length_drop]; omega
  have hcm : ∀ l ∈ cs, l.length ≤ 17592186044412 := fun l h => hl l (by rw [← hc] at h; exact List.mem_of_mem_drop (List.mem_of_mem_take h))
  refine lp (fun n S => ∃ (k m : Nat), n = cs.length - k ∧ k ≤ cs.length ∧ m = k ∧ S = ⟨[(14, .r (I k)), (13, .r (I cs.length)), (12, .r (L cs)), (5, .own 5 m), (0, .r (I z)), (1, .box 0 0), (2, .box 2 0), (3, .box 1 0)],
    O33 r a outs ++ [.sav K, .row 26 5 (((cs.take k).map vofs).map Enc.c)]⟩) cs.length ?_ ?_
  · exact wkK 6 ⟨0, 0, rfl, by omega, rfl, rfl⟩ (by ((repeat refine Kept.cons (by ((repeat apply Look.there rfl); exact Look.here)) ?_); exact Kept.nil)) rfl (by simp only [List.take, List.all_cons, List.all_nil, Ent.under, sav_mono (show 4 ≤ 6 by omega) hK]; rfl)
  rintro n S ⟨k, m, hn, hk, hmk, rfl⟩
  have hmm : m = (((cs.take k).map vofs).map Enc.c).length := by rw [List.length_map, List.length_map, List.length_take]; omega
  refine sg ?_
  refine bo ?_
  refine rNil ?_
  refine sq ?_
  refine cn (fun h1 => ?_) (fun h1 => ?_)
  ·
    have hk1 : k < cs.length := by simp at h1; omega
    obtain ⟨x, hx⟩ := ex_get hk1
    have hxl := hcm x (List.mem_of_getElem? hx)
    have hml : (((cs.take k).map vofs).map Enc.c).length ≤ 300 := by rw [← hmm]; omega
    refine awp_skip ?_
    refine tn ?_
    refine sq ?_
    refine bk ?_
    refine sg ?_
    first | refine xs_ ?_ | refine xo ?_ | refine xw ?_
    first | refine l1f ?_ | refine l1b ?_ | refine l1o ?_
    refine as_ ?_
    refine rNil ?_
    refine rg ?_
    refine mv ?_
    refine mv ?_
    refine cl (c10 x (by omega)) ?_
    refine bs ?_
    first | refine ap ?_ | refine (apN _) ?_
    refine as_ ?_
    refine rNil ?_
    refine bn_ ?_
    refine tn ?_
    refine rg ?_
    refine bo ?_
    refine mv ?_
    refine rNil ?_
    refine tn ?_
    refine ⟨cs.length - (k + 1), by omega, wy 6 ⟨k + 1, m + 1, rfl, by omega, by omega, rfl⟩ ?_ ?_ rfl (by simp only [List.take, List.all_cons, List.all_nil, Ent.under, sav_mono (show 4 ≤ 6 by omega) hK]; rfl)⟩
    · simp [take_snoc hx, vofs, RV.flat]
    · ((repeat refine Kept.cons (by first | ((repeat apply Look.there rfl); exact Look.here) | (apply look_cast; ((repeat apply Look.there rfl); exact Look.here); exact own_cast (by simp; omega))) ?_); exact Kept.nil) -- LEAF 1: round of loop 1
  ·
    refine awp_exit ?_
    refine te ?_
    refine te ?_
    refine xbk ?_
    refine tn ?_
    have hkk : k = cs.length := by simp at h1; omega
    subst hkk
    rw [List.take_length] at hmm ⊢
    refine fz 5 ?_
    refine sg ?_
    first | refine l1f ?_ | refine l1b ?_ | refine l1o ?_
    refine mv ?_
    refine (bsF [5]) ?_
    first | refine ap ?_ | refine (apN _) ?_
    first | refine s1 ?_ | refine s1w ?_
    refine rNil ?_
    refine rg ?_
    refine mv ?_
    first | refine s1 ?_ | refine s1w ?_
    refine rNil ?_
    refine ⟨.inl rfl, wy (E' := []) 5 rfl ?_ .nil rfl (by simp only [List.take, List.all_cons, List.all_nil, Ent.under, sav_mono (show 4 ≤ 5 by omega) hK]; rfl)⟩
    simp [seg, hc, RV.flat, Enc.c] -- LEAF 2: normal

def stepC (em : List (List Int)) (s : Nat × List (List V)) (c : Int) : Nat × List (List V) := if (s.1 : Int) < c ∧ c < em.length then (c.toNat, s.2 ++ [seg em s.1 c.toNat]) else s
def stripsL (em : List (List Int)) (cuts : List Int) : Nat × List (List V) := cuts.foldl (stepC em) (0, [])
def strips (r : LR) : List (List V) := if (stripsL r.em r.cuts).1 < r.em.length then (stripsL r.em r.cuts).2 ++ [seg r.em (stripsL r.em r.cuts).1 r.em.length] else (stripsL r.em r.cuts).2
theorem stripsL_snoc (em : List (List Int)) {cuts : List Int} {k : Nat} {c : Int} (h : cuts[k]? = some c) : stripsL em (cuts.take (k + 1)) = stepC em (stripsL em (cuts.take k)) c := by
  rw [take_snoc h]; simp [stripsL, List.foldl_append]
theorem stepC_le {em : List (List Int)} {s : Nat × List (List V)} {c : Int} (h : s.1 ≤ em.length) : (stepC em s c).1 ≤ em.length ∧ (stepC em s c).2.length ≤ s.2.length + 1 := by
  unfold stepC
  split
  · exact ⟨by show c.toNat ≤ _; omega, by simp⟩
  · exact ⟨h, by omega⟩
theorem stripsL_le (em : List (List Int)) (cuts : List Int) : (stripsL em cuts).1 ≤ em.length ∧ (stripsL em cuts).2.length ≤ cuts.length := by
  suffices h : ∀ (cuts : List Int) (s : Nat × List (List V)), s.1 ≤ em.length → (cuts.foldl (stepC em) s).1 ≤ em.length ∧ (cuts.foldl (stepC em) s).2.length ≤ s.2.length + cuts.length by
    have := h cuts (0, []) (Nat.zero_le _)
    simpa [stripsL] using this
  intro cuts
  induction cuts with
  | nil => intro s hs; exact ⟨hs, by simp⟩
  | cons c cuts ih =>
    intro s hs
    have h1 := stepC_le (c := c) hs
    have h2 := ih (stepC em s c) h1.1
    exact ⟨h2.1, by simp only [List.foldl_cons, List.length_cons]; omega⟩
/-- frustum/geometrystage.Strips -/
theorem c18 (r : LR) (hem : r.em.length ≤ 300) (hcu : r.cuts.length ≤ 300) (hl : ∀ l ∈ r.em, l.length ≤ 17592186044412) : Fn Try.prog 18 [A r] (.one (L (strips r))) := by
  refine fnI Try.func18 Try.ntmps18 fun hb => ?_
  refine sg ?_
  refine bx _ ?_
  refine as_ ?_
  refine rNil ?_
  refine sg ?_
  refine al _ ?_
  refine rNil ?_
  refine sg ?_
  refine al _ ?_
  first | refine s1 ?_ | refine s1w ?_
  refine rNil ?_
  refine sg ?_
  refine mf ?_
  refine as_ ?_
  refine rNil ?_
  refine sq ?_
  refine sg ?_
  first | refine ff ?_ | refine fb ?_ | refine fo ?_
  first | refine l1f ?_ | refine l1b ?_ | refine l1o ?_
  first | refine lnM ?_ | refine ln ?_ | refine lnO ?_ | refine lnN ?_ | refine lnW ?_
  refine mv ?_
  refine rNil ?_
  refine bk ?_
  refine adB 3 1 31 1 0 40 ?_
  refine lp (fun n S => ∃ (k a : Nat) (os : List (List V)), n = r.cuts.length - k ∧ k ≤ r.cuts.length ∧ stripsL r.em (r.cuts.take k) = (a, os) ∧ S = ⟨[(12, .r (I k)), (11, .r (I r.cuts.length)), (10, .r (L r.cuts)), (5, .clo 33 [0, 2, 1]), (1, .box 0 0), (4, .box 2 0), (3, .box 1 0)], O33 r a os⟩) r.cuts.length ?_ ?_
  · exact wx 4 ⟨0, 0, [], rfl, by omega, rfl, rfl⟩
  rintro n S ⟨k, a, os, hn, hk, hs, rfl⟩
  have hle := stripsL_le r.em (r.cuts.take k)
  rw [hs, List.length_take] at hle
  have hle1 : a ≤ r.em.length := hle.1
  have hle2 : os.length ≤ k := by have h : os.length ≤ min k r.cuts.length := hle.2; omega
  refine sg ?_
  refine bo ?_
  refine rNil ?_
  refine sq ?_
  refine cn (fun h1 => ?_) (fun h1 => ?_)
  ·
    have hk1 : k < r.cuts.length := by simp at h1; omega
    obtain ⟨c, hc⟩ := ex_get hk1
    refine awp_skip ?_
    refine tn ?_
    refine sq ?_
    refine bk ?_
    refine sg ?_
    first | refine xs_ ?_ | refine xo ?_ | refine xw ?_
    first | refine l1f ?_ | refine l1b ?_ | refine l1o ?_
    refine as_ ?_
    refine rNil ?_
    refine sg ?_
    refine mv ?_
    first | refine l1f ?_ | refine l1b ?_ | refine l1o ?_
    refine bo ?_
    refine mv ?_
    refine gd (fun h2 => ?_) (fun h2 => ?_)
    ·
      refine mv ?_
      first | refine ff ?_ | refine fb ?_ | refine fo ?_
      first | refine l1f ?_ | refine l1b ?_ | refine l1o ?_
      first | refine lnM ?_ | refine ln ?_ | refine lnO ?_ | refine lnN ?_ | refine lnW ?_
      refine bo ?_
      refine pkT ?_
      refine rNil ?_
      refine cn (fun h3 => ?_) (fun h3 => ?_)
      ·
        have hlt : (a : Int) < c ∧ c < r.em.length := ⟨by simpa using h2, by simpa using h3⟩
        obtain ⟨z, rfl⟩ : ∃ z : Nat, c = z := ⟨c.toNat, by omega⟩
        refine rgC 2 ?_
        refine mv ?_
        refine mv ?_
        refine cc (c33 r a z os (by omega) (by omega) hem (by omega) hl) ?_
        refine bn_ ?_
        refine tn ?_
        refine rg ?_
        refine bo ?_
        refine mv ?_
        refine rNil ?_
        refine tn ?_
        refine ⟨r.cuts.length - (k + 1), by omega, wx 4 ⟨k + 1, z, os ++ [seg r.em a z], rfl, by omega, ?_, rfl⟩⟩
        rw [stripsL_snoc r.em hc, hs, stepC, if_pos hlt]; rfl -- END
      ·
        refine awp_skip ?_
        refine bn_ ?_
        refine tn ?_
        refine rg ?_
        refine bo ?_
        refine mv ?_
        refine rNil ?_
        refine tn ?_
        refine ⟨r.cuts.length - (k + 1), by omega, wx 4 ⟨k + 1, a, os, rfl, by omega, ?_, rfl⟩⟩
        rw [stripsL_snoc r.em hc, hs, stepC, if_neg (by simp at h3; intro h; have := h.2; omega)] -- LEAF 1: round of loop 1
    ·
      refine no ?_
      refine no ?_
      refine no ?_
      refine no ?_
      refine no ?_
      refine pkF ?_
      refine rNil ?_
      refine cn (fun h4 => ?_) (fun h4 => ?_)
      ·
        exact absurd h4 (by decide)
      ·
        refine awp_skip ?_
        refine bn_ ?_
        refine tn ?_
        refine rg ?_
        refine bo ?_
        refine mv ?_
        refine rNil ?_
        refine tn ?_
        refine ⟨r.cuts.length - (k + 1), by omega, wx 4 ⟨k + 1, a, os, rfl, by omega, ?_, rfl⟩⟩
        rw [stripsL_snoc r.em hc, hs, stepC, if_neg (by simp at h2; intro h; have h := h.1; simp only at h; omega)] -- LEAF 2: round of loop 1
  ·
    refine awp_exit ?_
    refine te ?_
    refine te ?_
    refine xbk ?_
    refine tn ?_
    refine sq ?_
    have hkk : k = r.cuts.length := by simp at h1; omega
    subst hkk
    rw [List.take_length] at hs
    refine sg ?_
    first | refine l1f ?_ | refine l1b ?_ | refine l1o ?_
    first | refine ff ?_ | refine fb ?_ | refine fo ?_
    first | refine l1f ?_ | refine l1b ?_ | refine l1o ?_
    first | refine lnM ?_ | refine ln ?_ | refine lnO ?_ | refine lnN ?_ | refine lnW ?_
    refine bo ?_
    refine rNil ?_
    refine cn (fun h5 => ?_) (fun h5 => ?_)
    ·
      have hlt : a < r.em.length := by simpa using h5
      refine rgC 4 ?_
      refine mv ?_
      refine fb ?_
      refine l1b ?_
      refine lnM ?_
      refine cc (c33 r a r.em.length os (by omega) (by omega) hem (by omega) hl) ?_
      refine tn ?_
      refine sg ?_
      refine l1b ?_
      refine as_ ?_
      refine rNil ?_
      refine awp_ret ?_
      exact ⟨.inr rfl, _, .cons (.v (by ((repeat apply Look.there rfl); exact Look.here)) (.row rfl (by simp))) .nil, by rw [strips, hs, if_pos hlt]; rfl⟩ -- END
    ·
      refine awp_skip ?_
      refine tn ?_
      refine sg ?_
      first | refine l1f ?_ | refine l1b ?_ | refine l1o ?_
      refine as_ ?_
      refine rNil ?_
      refine awp_ret ?_
      exact ⟨.inr rfl, _, .cons (.v (by ((repeat apply Look.there rfl); exact Look.here)) (.row rfl (by simp))) .nil, by rw [strips, hs, if_neg (by simp at h5; omega)]; rfl⟩ -- LEAF 3: ret

end Go.Proofs.Ytolbhipnbhehdaa.VS
