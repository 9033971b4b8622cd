/- The walks of functions: what each computes, by itself. Conditions: none. -/
import Derived.Test.YtlmecogidnbpjaaF3
set_option linter.unusedVariables false
set_option linter.unusedSimpArgs false
namespace Go.Proofs.Ytlmecogidnbpjaa.VS
open Go
def dflt : V := ⟨0, 0, 0, 0, []⟩
abbrev vC (v : V) : List Slot := [.r (I v.x), .r (I v.y), .r (I v.z), .r (I v.w), .r (.v (.sl (v.vs.map Enc.c)))]
theorem fsub_bd (a b : Int) : -536870911 ≤ fsub a b ∧ fsub a b ≤ 536870911 := sat_bd _
theorem fadd_bd (a b : Int) : -536870911 ≤ fadd a b ∧ fadd a b ≤ 536870911 := sat_bd _
theorem dist_bd (v : V) (k : Nat) : -536870911 ≤ dist v k ∧ dist v k ≤ 536870911 := by
  unfold dist
  split; · exact fsub_bd _ _
  split; · exact fadd_bd _ _
  split; · exact fsub_bd _ _
  split; · exact fadd_bd _ _
  split; · exact fsub_bd _ _
  split; · exact sat_bd _
  split; · exact fsub_bd _ _
  decide
def lv1 (i o : V) (t : Int) (j : Nat) : Int := lerp (i.vs.getD j 0) (o.vs.getD j 0) t
def lv (i o : V) (t : Int) : List Int := (List.range i.vs.length).map (lv1 i o t)
@[simp] theorem lv_len (i o : V) (t : Int) : (lv i o t).length = i.vs.length := by simp [lv]
theorem lv_get (i o : V) (t : Int) {j : Nat} (h : j < i.vs.length) : (lv i o t)[j]? = some (lv1 i o t j) := by simp [lv, h]
theorem satV_len (v : V) : (satV v).vs.length = v.vs.length := by simp [satV]
def isct (i o : V) (k : Nat) : V := ⟨(lerpQ i o (ratio (dist i k) (dist i k - dist o k))).x, (lerpQ i o (ratio (dist i k) (dist i k - dist o k))).y, (lerpQ i o (ratio (dist i k) (dist i k - dist o k))).z, (lerpQ i o (ratio (dist i k) (dist i k - dist o k))).w, lv i o (ratio (dist i k) (dist i k - dist o k))⟩
def isect (a b : V) (k : Nat) : V := if (decide (dist (satV a) k ≥ 0) == decide (dist (satV b) k ≥ 0)) = true then satV a else if dist (satV a) k < 0 then isct (satV b) (satV a) k else isct (satV a) (satV b) k
set_option maxHeartbeats 2000000 in
/-- frustum/clip.Intersect -/
theorem c115 (a b : V) (k : Nat) (hk : k < 7) (ha : a.vs.length ≤ 17592186044412) (hb' : b.vs.length ≤ 17592186044412) : Fn Try.prog 115 [A a, A b, I k] (.one (A (isect a b k))) := by
  refine fnI Try.func115 Try.ntmps115 fun hb => ?_
  have d1 := dist_bd (satV a) k
  have d2 := dist_bd (satV b) k
  refine sg ?_
  refine bx _ ?_
  refine bx _ ?_
  refine al _ ?_
  refine rNil ?_
  refine sd mixO ?_
  first | refine lAf ?_ | refine lAb ?_ | refine lAo ?_
  refine cl (c62 a ha) ?_
  first | refine lAf ?_ | refine lAb ?_ | refine lAo ?_
  refine cl (c62 b hb') ?_
  refine sA ?_
  refine sA ?_
  refine rNil ⟨rfl, ?_⟩
  refine sd mixO ?_
  first | refine lAf ?_ | refine lAb ?_ | refine lAo ?_
  first | refine lAf ?_ | refine lAb ?_ | refine lAo ?_
  refine al _ ?_
  refine al _ ?_
  refine sA ?_
  refine sA ?_
  refine rNil ⟨rfl, ?_⟩
  refine sd mixO ?_
  first | refine lAf ?_ | refine lAb ?_ | refine lAo ?_
  refine mv ?_
  refine cl (c114 (satV a) k hk) ?_
  first | refine lAf ?_ | refine lAb ?_ | refine lAo ?_
  refine mv ?_
  refine cl (c114 (satV b) k hk) ?_
  refine as_ ?_
  refine as_ ?_
  refine rNil ⟨rfl, ?_⟩
  refine sq ?_
  refine sg ?_
  refine mv ?_
  refine bo (hz := by exact rfl) ?_
  refine mv ?_
  refine bo (hz := by exact rfl) ?_
  refine be ?_
  refine rNil ?_
  refine cn (fun h1 => ?_) (fun h1 => ?_)
  ·
    refine sg ?_
    first | refine lAf ?_ | refine lAb ?_ | refine lAo ?_
    refine sA ?_
    refine rNil ?_
    refine awp_ret ?_
    refine tr ?_
    exact ⟨.inr rfl, _, (.cons (resC (by ((repeat apply Look.there rfl); exact Look.here)) (by exact rfl) (by exact rfl) (by ((repeat (apply All2.cons; first | exact .f (.v _) | exact .row rfl (by first | exact rfl | simp) | exact .f .nil | exact .f (.fro rfl (by first | exact rfl | simp)))); exact All2.nil))) .nil), by rw [isect, if_pos h1]; rfl⟩ -- LEAF 1: ret
  ·
    have g1 : ¬ (decide (dist (satV a) k ≥ 0) == decide (dist (satV b) k ≥ 0)) = true := by rw [h1]; decide
    refine awp_skip ?_
    refine tn ?_
    refine sq ?_
    refine sg ?_
    refine mv ?_
    refine bo (hz := by exact rfl) ?_
    refine rNil ?_
    refine cn (fun h2 => ?_) (fun h2 => ?_)
    ·
      have g2 : dist (satV a) k < 0 := by simpa using h2
      have e1 : Fn Try.prog 120 [A (satV b).pos, A (satV a).pos, I (ratio (dist (satV b) k) (dist (satV b) k - dist (satV a) k))] (.one (A (lerpQ (satV b) (satV a) (ratio (dist (satV b) k) (dist (satV b) k - dist (satV a) k))))) := c120 _ _ _
      refine rd mixO ?_
      first | refine lAf ?_ | refine lAb ?_ | refine lAo ?_
      first | refine lAf ?_ | refine lAb ?_ | refine lAo ?_
      refine mv ?_
      refine mv ?_
      refine sA ?_
      refine sA ?_
      refine as_ ?_
      refine as_ ?_
      refine rNil ⟨rfl, ?_⟩
      refine tn ?_
      refine sg ?_
      refine mv ?_
      refine mv ?_
      refine mv ?_
      refine bo (hz := by first | exact bop_sub (by omega) (by omega) | exact rfl) ?_
      refine cl (c119 _ _) ?_
      refine as_ ?_
      refine rNil ?_
      refine sg ?_
      first | refine ff ?_ | refine fb ?_ | refine fo ?_
      first | refine lAf ?_ | refine lAb ?_ | refine lAo ?_
      first | refine ff ?_ | refine fb ?_ | refine fo ?_
      first | refine lAf ?_ | refine lAb ?_ | refine lAo ?_
      refine mv ?_
      refine cl (e1) ?_
      refine buSz ?_
      refine al _ ?_
      refine sA ?_
      refine rNil ?_
      refine sq ?_
      refine sg ?_
      first | refine ff ?_ | refine fb ?_ | refine fo ?_
      first | refine l1f ?_ | refine l1b ?_ | refine l1o ?_
      first | refine lnM ?_ | refine ln ?_ | refine lnO ?_ | refine lnN ?_ | refine lnW ?_
      refine mv ?_
      refine rNil ?_
      refine bk ?_
      refine adB 6 5 3 1 4 51 ?_
      generalize ht : ratio (dist (satV b) k) (dist (satV b) k - dist (satV a) k) = t
      refine lp (fun n S => ∃ (j m : Nat), n = (satV b).vs.length - j ∧ j ≤ (satV b).vs.length ∧ m = j ∧ S = ⟨[(55, .r (I j)), (54, .r (I (satV b).vs.length)), (53, .r (L (satV b).vs)), (8, .box 4 0), (12, .box 5 0), (11, .r (I t)), (6, .box 2 0)],
        [.box 51 (vC (satV a)), .box 51 (vC (satV b)), .box 51 [.r (I 0), .r (I 0), .r (I 0), .r (I 0), .nil], .box 51 (vC (satV b)), .box 51 (vC (satV a)), .box 51 [.r (I (lerpQ (satV b) (satV a) t).x), .r (I (lerpQ (satV b) (satV a) t).y), .r (I (lerpQ (satV b) (satV a) t).z), .r (I (lerpQ (satV b) (satV a) t).w), .own 6 m], .row 3 1 (((lv (satV b) (satV a) t).take j).map Enc.c)]⟩) (satV b).vs.length ?_ ?_
      · subst ht
        exact wx 7 ⟨0, 0, by omega, by omega, rfl, rfl⟩
      rintro n S ⟨j, m, hn, hj, hm, rfl⟩
      have hvl : (satV b).vs.length ≤ 17592186044412 := by rw [satV_len]; omega
      have hjl : ((lv (satV b) (satV a) t).take j).length = j := by rw [List.length_take, lv_len]; omega
      have hrow : m = (((lv (satV b) (satV a) t).take j).map Enc.c).length := by rw [List.length_map, hjl, hm]
      refine sg ?_
      refine bo (hz := by exact rfl) ?_
      refine rNil ?_
      refine sq ?_
      refine cn (fun h3 => ?_) (fun h3 => ?_)
      ·
        have hj1 : j < (satV b).vs.length := by simpa using h3
        obtain ⟨x, hx⟩ := ex_get hj1
        have hg := take_snoc (lv_get (satV b) (satV a) t hj1)
        have hxd : (satV b).vs.getD j 0 = x := by rw [List.getD_eq_getElem?_getD, hx]; rfl
        refine awp_skip ?_
        refine tn ?_
        refine sq ?_
        refine bk ?_
        refine sg ?_
        refine mv ?_
        first | refine xs_ ?_ | refine xo ?_ | refine xw ?_
        first | refine l1f ?_ | refine l1b ?_ | refine l1o ?_
        refine as_ ?_
        refine as_ ?_
        refine rNil ?_
        refine sg ?_
        refine as_ ?_
        refine rNil ?_
        refine sq ?_
        refine sg ?_
        refine mv ?_
        first | refine ff ?_ | refine fb ?_ | refine fo ?_
        first | refine l1f ?_ | refine l1b ?_ | refine l1o ?_
        first | refine lnM ?_ | refine ln ?_ | refine lnO ?_ | refine lnN ?_ | refine lnW ?_
        refine bo (hz := by exact rfl) ?_
        refine rNil ?_
        refine cn (fun h4 => ?_) (fun h4 => ?_)
        ·
          obtain ⟨y, hy⟩ := ex_get (show j < (satV a).vs.length by simpa using h4)
          have hyd : (satV a).vs.getD j 0 = y := by rw [List.getD_eq_getElem?_getD, hy]; rfl
          rw [lv1, hxd, hyd] at hg
          refine rg ?_
          first | refine ff ?_ | refine fb ?_ | refine fo ?_
          first | refine l1f ?_ | refine l1b ?_ | refine l1o ?_
          refine mv ?_
          first | refine xs_ ?_ | refine xo ?_ | refine xw ?_
          first | refine l1f ?_ | refine l1b ?_ | refine l1o ?_
          refine as_ ?_
          refine rNil ?_
          refine tn ?_
          refine rd mixO ?_
          first | refine ff ?_ | refine fb ?_ | refine fo ?_
          first | refine l1f ?_ | refine l1b ?_ | refine l1o ?_
          refine mv ?_
          refine mv ?_
          refine mv ?_
          refine cl (c121 _ _ _) ?_
          refine bs ?_
          first | refine ap ?_ | refine (apN _) ?_
          first | refine ff ?_ | refine fb ?_ | refine fo ?_
          first | refine s1 ?_ | refine s1w ?_
          refine rNil ⟨rfl, ?_⟩
          refine bn_ ?_
          refine tn ?_
          refine rg ?_
          refine bo (hz := by first | exact bop_add (by omega) (by omega) | exact rfl) ?_
          refine mv ?_
          refine rNil ?_
          refine tn ?_
          exact ⟨(satV b).vs.length - (j + 1), by omega, wy 7 ⟨j + 1, m + 1, by omega, by omega, by omega, rfl⟩ (by simp [hg, RV.flat, Enc.c]; omega)⟩ -- LEAF 2: round of loop 1
        ·
          have hyd : (satV a).vs.getD j 0 = 0 := by rw [List.getD_eq_getElem?_getD, List.getElem?_eq_none (by simpa using h4)]; rfl
          rw [lv1, hxd, hyd] at hg
          refine awp_skip ?_
          refine tn ?_
          refine rd mixO ?_
          first | refine ff ?_ | refine fb ?_ | refine fo ?_
          first | refine l1f ?_ | refine l1b ?_ | refine l1o ?_
          refine mv ?_
          refine mv ?_
          refine mv ?_
          refine cl (c121 _ _ _) ?_
          refine bs ?_
          first | refine ap ?_ | refine (apN _) ?_
          first | refine ff ?_ | refine fb ?_ | refine fo ?_
          first | refine s1 ?_ | refine s1w ?_
          refine rNil ⟨rfl, ?_⟩
          refine bn_ ?_
          refine tn ?_
          refine rg ?_
          refine bo (hz := by first | exact bop_add (by omega) (by omega) | exact rfl) ?_
          refine mv ?_
          refine rNil ?_
          refine tn ?_
          exact ⟨(satV b).vs.length - (j + 1), by omega, wy 7 ⟨j + 1, m + 1, by omega, by omega, by omega, rfl⟩ (by simp [hg, RV.flat, Enc.c]; omega)⟩ -- LEAF 3: round of loop 1
      ·
        have hjj : j = (satV b).vs.length := by simp at h3; omega
        have hft : (lv (satV b) (satV a) t).take j = lv (satV b) (satV a) t := List.take_of_length_le (by rw [lv_len]; omega)
        rw [hft] at hrow ⊢
        subst hm
        subst hjj
        refine fz 6 ?_
        refine awp_exit ?_
        refine te ?_
        refine te ?_
        refine xbk ?_
        refine tn ?_
        refine sg ?_
        refine lAbF 5 [6] ?_
        refine sA ?_
        refine rNil ?_
        refine awp_ret ?_
        exact ⟨.inr rfl, _, (.cons (resC (by ((repeat apply Look.there rfl); exact Look.here)) (by exact rfl) (by exact rfl) (by ((repeat (apply All2.cons; first | exact .f (.v _) | exact .row rfl (by first | exact rfl | simp) | exact .f .nil | exact .f (.fro rfl (by first | exact rfl | simp)))); exact All2.nil))) .nil), by
          subst ht
          rw [isect, if_neg g1, if_pos g2]; rfl⟩ -- LEAF 4: ret
    ·
      have g2 : ¬ dist (satV a) k < 0 := by simpa using h2
      have e1 : Fn Try.prog 120 [A (satV a).pos, A (satV b).pos, I (ratio (dist (satV a) k) (dist (satV a) k - dist (satV b) k))] (.one (A (lerpQ (satV a) (satV b) (ratio (dist (satV a) k) (dist (satV a) k - dist (satV b) k))))) := c120 _ _ _
      refine awp_skip ?_
      refine tn ?_
      refine sg ?_
      refine mv ?_
      refine mv ?_
      refine mv ?_
      refine bo (hz := by first | exact bop_sub (by omega) (by omega) | exact rfl) ?_
      refine cl (c119 _ _) ?_
      refine as_ ?_
      refine rNil ?_
      refine sg ?_
      first | refine ff ?_ | refine fb ?_ | refine fo ?_
      first | refine lAf ?_ | refine lAb ?_ | refine lAo ?_
      first | refine ff ?_ | refine fb ?_ | refine fo ?_
      first | refine lAf ?_ | refine lAb ?_ | refine lAo ?_
      refine mv ?_
      refine cl (e1) ?_
      refine buSz ?_
      refine al _ ?_
      refine sA ?_
      refine rNil ?_
      refine sq ?_
      refine sg ?_
      first | refine ff ?_ | refine fb ?_ | refine fo ?_
      first | refine l1f ?_ | refine l1b ?_ | refine l1o ?_
      first | refine lnM ?_ | refine ln ?_ | refine lnO ?_ | refine lnN ?_ | refine lnW ?_
      refine mv ?_
      refine rNil ?_
      refine bk ?_
      refine adB 6 5 3 1 4 51 ?_
      generalize ht : ratio (dist (satV a) k) (dist (satV a) k - dist (satV b) k) = t
      refine lp (fun n S => ∃ (j m : Nat), n = (satV a).vs.length - j ∧ j ≤ (satV a).vs.length ∧ m = j ∧ S = ⟨[(55, .r (I j)), (54, .r (I (satV a).vs.length)), (53, .r (L (satV a).vs)), (8, .box 4 0), (12, .box 5 0), (11, .r (I t)), (6, .box 2 0)],
        [.box 51 (vC (satV a)), .box 51 (vC (satV b)), .box 51 [.r (I 0), .r (I 0), .r (I 0), .r (I 0), .nil], .box 51 (vC (satV a)), .box 51 (vC (satV b)), .box 51 [.r (I (lerpQ (satV a) (satV b) t).x), .r (I (lerpQ (satV a) (satV b) t).y), .r (I (lerpQ (satV a) (satV b) t).z), .r (I (lerpQ (satV a) (satV b) t).w), .own 6 m], .row 3 1 (((lv (satV a) (satV b) t).take j).map Enc.c)]⟩) (satV a).vs.length ?_ ?_
      · subst ht
        exact wx 7 ⟨0, 0, by omega, by omega, rfl, rfl⟩
      rintro n S ⟨j, m, hn, hj, hm, rfl⟩
      have hvl : (satV a).vs.length ≤ 17592186044412 := by rw [satV_len]; omega
      have hjl : ((lv (satV a) (satV b) t).take j).length = j := by rw [List.length_take, lv_len]; omega
      have hrow : m = (((lv (satV a) (satV b) t).take j).map Enc.c).length := by rw [List.length_map, hjl, hm]
      refine sg ?_
      refine bo (hz := by exact rfl) ?_
      refine rNil ?_
      refine sq ?_
      refine cn (fun h5 => ?_) (fun h5 => ?_)
      ·
        have hj1 : j < (satV a).vs.length := by simpa using h5
        obtain ⟨x, hx⟩ := ex_get hj1
        have hg := take_snoc (lv_get (satV a) (satV b) t hj1)
        have hxd : (satV a).vs.getD j 0 = x := by rw [List.getD_eq_getElem?_getD, hx]; rfl
        refine awp_skip ?_
        refine tn ?_
        refine sq ?_
        refine bk ?_
        refine sg ?_
        refine mv ?_
        first | refine xs_ ?_ | refine xo ?_ | refine xw ?_
        first | refine l1f ?_ | refine l1b ?_ | refine l1o ?_
        refine as_ ?_
        refine as_ ?_
        refine rNil ?_
        refine sg ?_
        refine as_ ?_
        refine rNil ?_
        refine sq ?_
        refine sg ?_
        refine mv ?_
        first | refine ff ?_ | refine fb ?_ | refine fo ?_
        first | refine l1f ?_ | refine l1b ?_ | refine l1o ?_
        first | refine lnM ?_ | refine ln ?_ | refine lnO ?_ | refine lnN ?_ | refine lnW ?_
        refine bo (hz := by exact rfl) ?_
        refine rNil ?_
        refine cn (fun h6 => ?_) (fun h6 => ?_)
        ·
          obtain ⟨y, hy⟩ := ex_get (show j < (satV b).vs.length by simpa using h6)
          have hyd : (satV b).vs.getD j 0 = y := by rw [List.getD_eq_getElem?_getD, hy]; rfl
          rw [lv1, hxd, hyd] at hg
          refine rg ?_
          first | refine ff ?_ | refine fb ?_ | refine fo ?_
          first | refine l1f ?_ | refine l1b ?_ | refine l1o ?_
          refine mv ?_
          first | refine xs_ ?_ | refine xo ?_ | refine xw ?_
          first | refine l1f ?_ | refine l1b ?_ | refine l1o ?_
          refine as_ ?_
          refine rNil ?_
          refine tn ?_
          refine rd mixO ?_
          first | refine ff ?_ | refine fb ?_ | refine fo ?_
          first | refine l1f ?_ | refine l1b ?_ | refine l1o ?_
          refine mv ?_
          refine mv ?_
          refine mv ?_
          refine cl (c121 _ _ _) ?_
          refine bs ?_
          first | refine ap ?_ | refine (apN _) ?_
          first | refine ff ?_ | refine fb ?_ | refine fo ?_
          first | refine s1 ?_ | refine s1w ?_
          refine rNil ⟨rfl, ?_⟩
          refine bn_ ?_
          refine tn ?_
          refine rg ?_
          refine bo (hz := by first | exact bop_add (by omega) (by omega) | exact rfl) ?_
          refine mv ?_
          refine rNil ?_
          refine tn ?_
          exact ⟨(satV a).vs.length - (j + 1), by omega, wy 7 ⟨j + 1, m + 1, by omega, by omega, by omega, rfl⟩ (by simp [hg, RV.flat, Enc.c]; omega)⟩ -- LEAF 5: round of loop 2
        ·
          have hyd : (satV b).vs.getD j 0 = 0 := by rw [List.getD_eq_getElem?_getD, List.getElem?_eq_none (by simpa using h6)]; rfl
          rw [lv1, hxd, hyd] at hg
          refine awp_skip ?_
          refine tn ?_
          refine rd mixO ?_
          first | refine ff ?_ | refine fb ?_ | refine fo ?_
          first | refine l1f ?_ | refine l1b ?_ | refine l1o ?_
          refine mv ?_
          refine mv ?_
          refine mv ?_
          refine cl (c121 _ _ _) ?_
          refine bs ?_
          first | refine ap ?_ | refine (apN _) ?_
          first | refine ff ?_ | refine fb ?_ | refine fo ?_
          first | refine s1 ?_ | refine s1w ?_
          refine rNil ⟨rfl, ?_⟩
          refine bn_ ?_
          refine tn ?_
          refine rg ?_
          refine bo (hz := by first | exact bop_add (by omega) (by omega) | exact rfl) ?_
          refine mv ?_
          refine rNil ?_
          refine tn ?_
          exact ⟨(satV a).vs.length - (j + 1), by omega, wy 7 ⟨j + 1, m + 1, by omega, by omega, by omega, rfl⟩ (by simp [hg, RV.flat, Enc.c]; omega)⟩ -- LEAF 6: round of loop 2
      ·
        have hjj : j = (satV a).vs.length := by simp at h5; omega
        have hft : (lv (satV a) (satV b) t).take j = lv (satV a) (satV b) t := List.take_of_length_le (by rw [lv_len]; omega)
        rw [hft] at hrow ⊢
        subst hm
        subst hjj
        refine fz 6 ?_
        refine awp_exit ?_
        refine te ?_
        refine te ?_
        refine xbk ?_
        refine tn ?_
        refine sg ?_
        refine lAbF 5 [6] ?_
        refine sA ?_
        refine rNil ?_
        refine awp_ret ?_
        exact ⟨.inr rfl, _, (.cons (resC (by ((repeat apply Look.there rfl); exact Look.here)) (by exact rfl) (by exact rfl) (by ((repeat (apply All2.cons; first | exact .f (.v _) | exact .row rfl (by first | exact rfl | simp) | exact .f .nil | exact .f (.fro rfl (by first | exact rfl | simp)))); exact All2.nil))) .nil), by
          subst ht
          rw [isect, if_neg g1, if_neg g2]; rfl⟩ -- LEAF 7: ret

set_option maxHeartbeats 2000000 in
/-- frustum/frustumref31.Intersect -/
theorem c117 (a b : V) (k : Nat) (ha : a.vs.length ≤ 17592186044412) (hb' : b.vs.length ≤ 17592186044412) : Fn Try.prog 117 [A a, A b, I k] (.one (A (isect a b k))) := by
  refine fnI Try.func117 Try.ntmps117 fun hb => ?_
  have d1 := dist_bd (satV a) k
  have d2 := dist_bd (satV b) k
  refine sg ?_
  refine bx _ ?_
  refine bx _ ?_
  refine al _ ?_
  refine rNil ?_
  refine sd mixO ?_
  first | refine lAf ?_ | refine lAb ?_ | refine lAo ?_
  refine cl (c71 a ha) ?_
  first | refine lAf ?_ | refine lAb ?_ | refine lAo ?_
  refine cl (c71 b hb') ?_
  refine sA ?_
  refine sA ?_
  refine rNil ⟨rfl, ?_⟩
  refine sq ?_
  refine sd mixO ?_
  first | refine lAf ?_ | refine lAb ?_ | refine lAo ?_
  refine mv ?_
  refine cl (c116 (satV a) k) ?_
  first | refine lAf ?_ | refine lAb ?_ | refine lAo ?_
  refine mv ?_
  refine cl (c116 (satV b) k) ?_
  refine be ?_
  refine rNil ⟨rfl, ?_⟩
  refine cn (fun h1 => ?_) (fun h1 => ?_)
  ·
    refine sg ?_
    first | refine lAf ?_ | refine lAb ?_ | refine lAo ?_
    refine sA ?_
    refine rNil ?_
    refine awp_ret ?_
    refine tr ?_
    exact ⟨.inr rfl, _, (.cons (resC (by ((repeat apply Look.there rfl); exact Look.here)) (by exact rfl) (by exact rfl) (by ((repeat (apply All2.cons; first | exact .f (.v _) | exact .row rfl (by first | exact rfl | simp) | exact .f .nil | exact .f (.fro rfl (by first | exact rfl | simp)))); exact All2.nil))) .nil), by rw [isect, if_pos h1]; rfl⟩ -- LEAF 1: ret
  ·
    have g1 : ¬ (decide (dist (satV a) k ≥ 0) == decide (dist (satV b) k ≥ 0)) = true := by rw [h1]; decide
    refine awp_skip ?_
    refine tn ?_
    refine sd mixO ?_
    first | refine lAf ?_ | refine lAb ?_ | refine lAo ?_
    first | refine lAf ?_ | refine lAb ?_ | refine lAo ?_
    refine al _ ?_
    refine al _ ?_
    refine sA ?_
    refine sA ?_
    refine rNil ⟨rfl, ?_⟩
    refine sq ?_
    refine sg ?_
    first | refine lAf ?_ | refine lAb ?_ | refine lAo ?_
    refine mv ?_
    refine cl (c116 (satV a) k) ?_
    refine nt ?_
    refine rNil ?_
    refine cn (fun h2 => ?_) (fun h2 => ?_)
    ·
      have g2 : dist (satV a) k < 0 := by simpa using h2
      have f1 := c122 (satV b) k
      have f2 := c122 (satV a) k
      have e1 : Fn Try.prog 124 [A (satV b).pos, A (satV a).pos, I (ratio (dist (satV b) k) (dist (satV b) k - dist (satV a) k))] (.one (A (lerpQ (satV b) (satV a) (ratio (dist (satV b) k) (dist (satV b) k - dist (satV a) k))))) := c124 _ _ _
      refine rd mixO ?_
      first | refine lAf ?_ | refine lAb ?_ | refine lAo ?_
      first | refine lAf ?_ | refine lAb ?_ | refine lAo ?_
      refine sA ?_
      refine sA ?_
      refine rNil ⟨rfl, ?_⟩
      refine tn ?_
      refine sd mixO ?_
      first | refine lAf ?_ | refine lAb ?_ | refine lAo ?_
      refine mv ?_
      refine cl (f1) ?_
      first | refine lAf ?_ | refine lAb ?_ | refine lAo ?_
      refine mv ?_
      refine cl (f2) ?_
      refine as_ ?_
      refine as_ ?_
      refine rNil ⟨rfl, ?_⟩
      refine sg ?_
      refine mv ?_
      refine mv ?_
      refine mv ?_
      refine bo (hz := by first | exact bop_sub (by omega) (by omega) | exact rfl) ?_
      refine cl (c123 _ _) ?_
      refine as_ ?_
      refine rNil ?_
      refine sg ?_
      first | refine ff ?_ | refine fb ?_ | refine fo ?_
      first | refine lAf ?_ | refine lAb ?_ | refine lAo ?_
      first | refine ff ?_ | refine fb ?_ | refine fo ?_
      first | refine lAf ?_ | refine lAb ?_ | refine lAo ?_
      refine mv ?_
      refine cl (e1) ?_
      refine buSz ?_
      refine al _ ?_
      refine sA ?_
      refine rNil ?_
      refine sq ?_
      refine sg ?_
      refine as_ ?_
      refine rNil ?_
      refine bk ?_
      refine adB 6 5 3 1 4 51 ?_
      generalize ht : ratio (dist (satV b) k) (dist (satV b) k - dist (satV a) k) = t
      refine lp (fun n S => ∃ (j m : Nat), n = (satV b).vs.length - j ∧ j ≤ (satV b).vs.length ∧ m = j ∧ S = ⟨[(13, .r (I j)), (7, .box 3 0), (8, .box 4 0), (12, .box 5 0), (11, .r (I t)), (6, .box 2 0)],
        [.box 51 (vC (satV a)), .box 51 (vC (satV b)), .box 51 [.r (I 0), .r (I 0), .r (I 0), .r (I 0), .nil], .box 51 (vC (satV b)), .box 51 (vC (satV a)), .box 51 [.r (I (lerpQ (satV b) (satV a) t).x), .r (I (lerpQ (satV b) (satV a) t).y), .r (I (lerpQ (satV b) (satV a) t).z), .r (I (lerpQ (satV b) (satV a) t).w), .own 6 m], .row 3 1 (((lv (satV b) (satV a) t).take j).map Enc.c)]⟩) (satV b).vs.length ?_ ?_
      · subst ht
        exact wx 7 ⟨0, 0, by omega, by omega, rfl, rfl⟩
      rintro n S ⟨j, m, hn, hj, hm, rfl⟩
      have hvl : (satV b).vs.length ≤ 17592186044412 := by rw [satV_len]; omega
      have hjl : ((lv (satV b) (satV a) t).take j).length = j := by rw [List.length_take, lv_len]; omega
      have hrow : m = (((lv (satV b) (satV a) t).take j).map Enc.c).length := by rw [List.length_map, hjl, hm]
      refine sq ?_
      refine sg ?_
      refine mv ?_
      first | refine ff ?_ | refine fb ?_ | refine fo ?_
      first | refine l1f ?_ | refine l1b ?_ | refine l1o ?_
      first | refine lnM ?_ | refine ln ?_ | refine lnO ?_ | refine lnN ?_ | refine lnW ?_
      refine bo (hz := by exact rfl) ?_
      refine rNil ?_
      refine cn (fun h3 => ?_) (fun h3 => ?_)
      ·
        have hj1 : j < (satV b).vs.length := by simpa using h3
        obtain ⟨x, hx⟩ := ex_get hj1
        have hg := take_snoc (lv_get (satV b) (satV a) t hj1)
        have hxd : (satV b).vs.getD j 0 = x := by rw [List.getD_eq_getElem?_getD, hx]; rfl
        refine awp_skip ?_
        refine tn ?_
        refine sq ?_
        refine bk ?_
        refine sg ?_
        refine as_ ?_
        refine rNil ?_
        refine sq ?_
        refine sg ?_
        refine mv ?_
        first | refine ff ?_ | refine fb ?_ | refine fo ?_
        first | refine l1f ?_ | refine l1b ?_ | refine l1o ?_
        first | refine lnM ?_ | refine ln ?_ | refine lnO ?_ | refine lnN ?_ | refine lnW ?_
        refine bo (hz := by exact rfl) ?_
        refine rNil ?_
        refine cn (fun h4 => ?_) (fun h4 => ?_)
        ·
          obtain ⟨y, hy⟩ := ex_get (show j < (satV a).vs.length by simpa using h4)
          have hyd : (satV a).vs.getD j 0 = y := by rw [List.getD_eq_getElem?_getD, hy]; rfl
          rw [lv1, hxd, hyd] at hg
          refine rg ?_
          first | refine ff ?_ | refine fb ?_ | refine fo ?_
          first | refine l1f ?_ | refine l1b ?_ | refine l1o ?_
          refine mv ?_
          first | refine xs_ ?_ | refine xo ?_ | refine xw ?_
          first | refine l1f ?_ | refine l1b ?_ | refine l1o ?_
          refine as_ ?_
          refine rNil ?_
          refine tn ?_
          refine rd mixO ?_
          first | refine ff ?_ | refine fb ?_ | refine fo ?_
          first | refine l1f ?_ | refine l1b ?_ | refine l1o ?_
          first | refine ff ?_ | refine fb ?_ | refine fo ?_
          first | refine l1f ?_ | refine l1b ?_ | refine l1o ?_
          refine mv ?_
          first | refine xs_ ?_ | refine xo ?_ | refine xw ?_
          first | refine l1f ?_ | refine l1b ?_ | refine l1o ?_
          refine mv ?_
          refine mv ?_
          refine cl (c125 _ _ _) ?_
          refine bs ?_
          first | refine ap ?_ | refine (apN _) ?_
          first | refine ff ?_ | refine fb ?_ | refine fo ?_
          first | refine s1 ?_ | refine s1w ?_
          refine rNil ⟨rfl, ?_⟩
          refine bn_ ?_
          refine tn ?_
          refine rg ?_
          refine mv ?_
          refine bo (hz := by first | exact bop_add (by omega) (by omega) | exact rfl) ?_
          refine as_ ?_
          refine rNil ?_
          refine tn ?_
          exact ⟨(satV b).vs.length - (j + 1), by omega, wy 7 ⟨j + 1, m + 1, by omega, by omega, by omega, rfl⟩ (by simp [hg, RV.flat, Enc.c]; omega)⟩ -- LEAF 2: round of loop 1
        ·
          have hyd : (satV a).vs.getD j 0 = 0 := by rw [List.getD_eq_getElem?_getD, List.getElem?_eq_none (by simpa using h4)]; rfl
          rw [lv1, hxd, hyd] at hg
          refine awp_skip ?_
          refine tn ?_
          refine rd mixO ?_
          first | refine ff ?_ | refine fb ?_ | refine fo ?_
          first | refine l1f ?_ | refine l1b ?_ | refine l1o ?_
          first | refine ff ?_ | refine fb ?_ | refine fo ?_
          first | refine l1f ?_ | refine l1b ?_ | refine l1o ?_
          refine mv ?_
          first | refine xs_ ?_ | refine xo ?_ | refine xw ?_
          first | refine l1f ?_ | refine l1b ?_ | refine l1o ?_
          refine mv ?_
          refine mv ?_
          refine cl (c125 _ _ _) ?_
          refine bs ?_
          first | refine ap ?_ | refine (apN _) ?_
          first | refine ff ?_ | refine fb ?_ | refine fo ?_
          first | refine s1 ?_ | refine s1w ?_
          refine rNil ⟨rfl, ?_⟩
          refine bn_ ?_
          refine tn ?_
          refine rg ?_
          refine mv ?_
          refine bo (hz := by first | exact bop_add (by omega) (by omega) | exact rfl) ?_
          refine as_ ?_
          refine rNil ?_
          refine tn ?_
          exact ⟨(satV b).vs.length - (j + 1), by omega, wy 7 ⟨j + 1, m + 1, by omega, by omega, by omega, rfl⟩ (by simp [hg, RV.flat, Enc.c]; omega)⟩ -- LEAF 3: round of loop 1
      ·
        have hjj : j = (satV b).vs.length := by simp at h3; omega
        have hft : (lv (satV b) (satV a) t).take j = lv (satV b) (satV a) t := List.take_of_length_le (by rw [lv_len]; omega)
        rw [hft] at hrow ⊢
        subst hm
        subst hjj
        refine fz 6 ?_
        refine awp_exit ?_
        refine te ?_
        refine te ?_
        refine xbk ?_
        refine tn ?_
        refine sg ?_
        refine lAbF 5 [6] ?_
        refine sA ?_
        refine rNil ?_
        refine awp_ret ?_
        exact ⟨.inr rfl, _, (.cons (resC (by ((repeat apply Look.there rfl); exact Look.here)) (by exact rfl) (by exact rfl) (by ((repeat (apply All2.cons; first | exact .f (.v _) | exact .row rfl (by first | exact rfl | simp) | exact .f .nil | exact .f (.fro rfl (by first | exact rfl | simp)))); exact All2.nil))) .nil), by
          subst ht
          rw [isect, if_neg g1, if_pos g2]; rfl⟩ -- LEAF 4: ret
    ·
      have g2 : ¬ dist (satV a) k < 0 := by simpa using h2
      have f1 := c122 (satV a) k
      have f2 := c122 (satV b) k
      have e1 : Fn Try.prog 124 [A (satV a).pos, A (satV b).pos, I (ratio (dist (satV a) k) (dist (satV a) k - dist (satV b) k))] (.one (A (lerpQ (satV a) (satV b) (ratio (dist (satV a) k) (dist (satV a) k - dist (satV b) k))))) := c124 _ _ _
      refine awp_skip ?_
      refine tn ?_
      refine sd mixO ?_
      first | refine lAf ?_ | refine lAb ?_ | refine lAo ?_
      refine mv ?_
      refine cl (f1) ?_
      first | refine lAf ?_ | refine lAb ?_ | refine lAo ?_
      refine mv ?_
      refine cl (f2) ?_
      refine as_ ?_
      refine as_ ?_
      refine rNil ⟨rfl, ?_⟩
      refine sg ?_
      refine mv ?_
      refine mv ?_
      refine mv ?_
      refine bo (hz := by first | exact bop_sub (by omega) (by omega) | exact rfl) ?_
      refine cl (c123 _ _) ?_
      refine as_ ?_
      refine rNil ?_
      refine sg ?_
      first | refine ff ?_ | refine fb ?_ | refine fo ?_
      first | refine lAf ?_ | refine lAb ?_ | refine lAo ?_
      first | refine ff ?_ | refine fb ?_ | refine fo ?_
      first | refine lAf ?_ | refine lAb ?_ | refine lAo ?_
      refine mv ?_
      refine cl (e1) ?_
      refine buSz ?_
      refine al _ ?_
      refine sA ?_
      refine rNil ?_
      refine sq ?_
      refine sg ?_
      refine as_ ?_
      refine rNil ?_
      refine bk ?_
      refine adB 6 5 3 1 4 51 ?_
      generalize ht : ratio (dist (satV a) k) (dist (satV a) k - dist (satV b) k) = t
      refine lp (fun n S => ∃ (j m : Nat), n = (satV a).vs.length - j ∧ j ≤ (satV a).vs.length ∧ m = j ∧ S = ⟨[(13, .r (I j)), (7, .box 3 0), (8, .box 4 0), (12, .box 5 0), (11, .r (I t)), (6, .box 2 0)],
        [.box 51 (vC (satV a)), .box 51 (vC (satV b)), .box 51 [.r (I 0), .r (I 0), .r (I 0), .r (I 0), .nil], .box 51 (vC (satV a)), .box 51 (vC (satV b)), .box 51 [.r (I (lerpQ (satV a) (satV b) t).x), .r (I (lerpQ (satV a) (satV b) t).y), .r (I (lerpQ (satV a) (satV b) t).z), .r (I (lerpQ (satV a) (satV b) t).w), .own 6 m], .row 3 1 (((lv (satV a) (satV b) t).take j).map Enc.c)]⟩) (satV a).vs.length ?_ ?_
      · subst ht
        exact wx 7 ⟨0, 0, by omega, by omega, rfl, rfl⟩
      rintro n S ⟨j, m, hn, hj, hm, rfl⟩
      have hvl : (satV a).vs.length ≤ 17592186044412 := by rw [satV_len]; omega
      have hjl : ((lv (satV a) (satV b) t).take j).length = j := by rw [List.length_take, lv_len]; omega
      have hrow : m = (((lv (satV a) (satV b) t).take j).map Enc.c).length := by rw [List.length_map, hjl, hm]
      refine sq ?_
      refine sg ?_
      refine mv ?_
      first | refine ff ?_ | refine fb ?_ | refine fo ?_
      first | refine l1f ?_ | refine l1b ?_ | refine l1o ?_
      first | refine lnM ?_ | refine ln ?_ | refine lnO ?_ | refine lnN ?_ | refine lnW ?_
      refine bo (hz := by exact rfl) ?_
      refine rNil ?_
      refine cn (fun h5 => ?_) (fun h5 => ?_)
      ·
        have hj1 : j < (satV a).vs.length := by simpa using h5
        obtain ⟨x, hx⟩ := ex_get hj1
        have hg := take_snoc (lv_get (satV a) (satV b) t hj1)
        have hxd : (satV a).vs.getD j 0 = x := by rw [List.getD_eq_getElem?_getD, hx]; rfl
        refine awp_skip ?_
        refine tn ?_
        refine sq ?_
        refine bk ?_
        refine sg ?_
        refine as_ ?_
        refine rNil ?_
        refine sq ?_
        refine sg ?_
        refine mv ?_
        first | refine ff ?_ | refine fb ?_ | refine fo ?_
        first | refine l1f ?_ | refine l1b ?_ | refine l1o ?_
        first | refine lnM ?_ | refine ln ?_ | refine lnO ?_ | refine lnN ?_ | refine lnW ?_
        refine bo (hz := by exact rfl) ?_
        refine rNil ?_
        refine cn (fun h6 => ?_) (fun h6 => ?_)
        ·
          obtain ⟨y, hy⟩ := ex_get (show j < (satV b).vs.length by simpa using h6)
          have hyd : (satV b).vs.getD j 0 = y := by rw [List.getD_eq_getElem?_getD, hy]; rfl
          rw [lv1, hxd, hyd] at hg
          refine rg ?_
          first | refine ff ?_ | refine fb ?_ | refine fo ?_
          first | refine l1f ?_ | refine l1b ?_ | refine l1o ?_
          refine mv ?_
          first | refine xs_ ?_ | refine xo ?_ | refine xw ?_
          first | refine l1f ?_ | refine l1b ?_ | refine l1o ?_
          refine as_ ?_
          refine rNil ?_
          refine tn ?_
          refine rd mixO ?_
          first | refine ff ?_ | refine fb ?_ | refine fo ?_
          first | refine l1f ?_ | refine l1b ?_ | refine l1o ?_
          first | refine ff ?_ | refine fb ?_ | refine fo ?_
          first | refine l1f ?_ | refine l1b ?_ | refine l1o ?_
          refine mv ?_
          first | refine xs_ ?_ | refine xo ?_ | refine xw ?_
          first | refine l1f ?_ | refine l1b ?_ | refine l1o ?_
          refine mv ?_
          refine mv ?_
          refine cl (c125 _ _ _) ?_
          refine bs ?_
          first | refine ap ?_ | refine (apN _) ?_
          first | refine ff ?_ | refine fb ?_ | refine fo ?_
          first | refine s1 ?_ | refine s1w ?_
          refine rNil ⟨rfl, ?_⟩
          refine bn_ ?_
          refine tn ?_
          refine rg ?_
          refine mv ?_
          refine bo (hz := by first | exact bop_add (by omega) (by omega) | exact rfl) ?_
          refine as_ ?_
          refine rNil ?_
          refine tn ?_
          exact ⟨(satV a).vs.length - (j + 1), by omega, wy 7 ⟨j + 1, m + 1, by omega, by omega, by omega, rfl⟩ (by simp [hg, RV.flat, Enc.c]; omega)⟩ -- LEAF 5: round of loop 2
        ·
          have hyd : (satV b).vs.getD j 0 = 0 := by rw [List.getD_eq_getElem?_getD, List.getElem?_eq_none (by simpa using h6)]; rfl
          rw [lv1, hxd, hyd] at hg
          refine awp_skip ?_
          refine tn ?_
          refine rd mixO ?_
          first | refine ff ?_ | refine fb ?_ | refine fo ?_
          first | refine l1f ?_ | refine l1b ?_ | refine l1o ?_
          first | refine ff ?_ | refine fb ?_ | refine fo ?_
          first | refine l1f ?_ | refine l1b ?_ | refine l1o ?_
          refine mv ?_
          first | refine xs_ ?_ | refine xo ?_ | refine xw ?_
          first | refine l1f ?_ | refine l1b ?_ | refine l1o ?_
          refine mv ?_
          refine mv ?_
          refine cl (c125 _ _ _) ?_
          refine bs ?_
          first | refine ap ?_ | refine (apN _) ?_
          first | refine ff ?_ | refine fb ?_ | refine fo ?_
          first | refine s1 ?_ | refine s1w ?_
          refine rNil ⟨rfl, ?_⟩
          refine bn_ ?_
          refine tn ?_
          refine rg ?_
          refine mv ?_
          refine bo (hz := by first | exact bop_add (by omega) (by omega) | exact rfl) ?_
          refine as_ ?_
          refine rNil ?_
          refine tn ?_
          exact ⟨(satV a).vs.length - (j + 1), by omega, wy 7 ⟨j + 1, m + 1, by omega, by omega, by omega, rfl⟩ (by simp [hg, RV.flat, Enc.c]; omega)⟩ -- LEAF 6: round of loop 2
      ·
        have hjj : j = (satV a).vs.length := by simp at h5; omega
        have hft : (lv (satV a) (satV b) t).take j = lv (satV a) (satV b) t := List.take_of_length_le (by rw [lv_len]; omega)
        rw [hft] at hrow ⊢
        subst hm
        subst hjj
        refine fz 6 ?_
        refine awp_exit ?_
        refine te ?_
        refine te ?_
        refine xbk ?_
        refine tn ?_
        refine sg ?_
        refine lAbF 5 [6] ?_
        refine sA ?_
        refine rNil ?_
        refine awp_ret ?_
        exact ⟨.inr rfl, _, (.cons (resC (by ((repeat apply Look.there rfl); exact Look.here)) (by exact rfl) (by exact rfl) (by ((repeat (apply All2.cons; first | exact .f (.v _) | exact .row rfl (by first | exact rfl | simp) | exact .f .nil | exact .f (.fro rfl (by first | exact rfl | simp)))); exact All2.nil))) .nil), by
          subst ht
          rw [isect, if_neg g1, if_neg g2]; rfl⟩ -- LEAF 7: ret

end Go.Proofs.Ytlmecogidnbpjaa.VS
