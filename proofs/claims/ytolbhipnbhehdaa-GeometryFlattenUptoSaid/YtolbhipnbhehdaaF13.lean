/- The walks of functions: what each computes, by itself. Conditions: none. -/
import Derived.Test.YtolbhipnbhehdaaF12
set_option linter.unusedVariables false
set_option linter.unusedSimpArgs false
namespace Go.Proofs.Ytolbhipnbhehdaa.VS
open Go
def flat (v : V) : List Int := [v.x, v.y, v.z, v.w] ++ v.vs
def vl (t : T3 V) : List V := [t.a, t.b, t.c]
def flatK (t : T3 V) (j : Nat) : List Int := ((vl t).take j).flatMap flat
theorem t3_nth {t : T3 V} {j : Nat} (h : j < 3) : ∃ v : V, (vl t)[j]? = some v ∧ (List.drop (j * 5) (Enc.c t)).take 5 = Enc.c v := by
  match j, h with
  | 0, _ => exact ⟨t.a, rfl, rfl⟩
  | 1, _ => exact ⟨t.b, rfl, rfl⟩
  | 2, _ => exact ⟨t.c, rfl, rfl⟩
theorem flatK_snoc {t : T3 V} {j : Nat} {v : V} (h : (vl t)[j]? = some v) : flatK t (j + 1) = (flatK t j ++ [v.x, v.y, v.z, v.w]) ++ v.vs := by
  rw [flatK, take_snoc h, List.flatMap_append]; simp [flatK, flat]
def SmallT (t : T3 V) : Prop := t.a.vs.length ≤ 1048576 ∧ t.b.vs.length ≤ 1048576 ∧ t.c.vs.length ≤ 1048576
theorem smallT_nth {t : T3 V} {j : Nat} {v : V} (h : SmallT t) (hv : (vl t)[j]? = some v) : v.vs.length ≤ 1048576 := by
  have := List.mem_of_getElem? hv
  simp only [vl, List.mem_cons, List.not_mem_nil, or_false] at this
  rcases this with rfl | rfl | rfl
  · exact h.1
  · exact h.2.1
  · exact h.2.2
theorem flatK_len {t : T3 V} (h : SmallT t) : ∀ j, j ≤ 3 → (flatK t j).length ≤ j * 1048580
  | 0, _ => by simp [flatK]
  | j + 1, hj => by
    obtain ⟨v, hv, _⟩ := t3_nth (t := t) (j := j) (by omega)
    have h1 := flatK_len h j (by omega)
    have h2 := smallT_nth h hv
    rw [flatK_snoc hv, List.length_append, List.length_append]
    simp only [List.length_cons, List.length_nil]
    omega
theorem four {a b c d : FV} : ∀ x ∈ [[a], [b], [c], [d]], x.length = 1 := by
  intro x hx
  simp only [List.mem_cons, List.not_mem_nil, or_false] at hx
  rcases hx with rfl | rfl | rfl | rfl <;> rfl
/-- frustum/geometrystage.Flatten -/
theorem c26 (t : T3 V) (ht : SmallT t) : Fn Try.prog 26 [A t] (.one (L (flatK t 3))) := by
  refine fnI Try.func26 Try.ntmps26 fun hb => ?_
  refine sg ?_
  refine bx _ ?_
  refine as_ ?_
  refine rNil ?_
  refine sg ?_
  refine as_ ?_
  refine rNil ?_
  refine sq ?_
  refine sg ?_
  first | refine lAf ?_ | refine lAb ?_ | refine lAo ?_
  refine mv ?_
  refine rNil ?_
  refine bk ?_
  refine adN 1 3 3 1 ?_
  refine lp (fun n S => ∃ (j m : Nat), n = 3 - j ∧ j ≤ 3 ∧ m = (flatK t j).length ∧ S = ⟨[(8, .r (I j)), (7, .r (A t)), (3, .own 1 m)], [.gone, .row 3 1 ((flatK t j).map Enc.c)]⟩) 3 ?_ ?_
  · refine wr2 [0, 1] ⟨0, 0, rfl, by omega, rfl, rfl⟩ (.cons (.gone _) (.cons (.row _ _ _) (.nil _))) rfl ?_
    ((repeat refine KeptR.cons (by ((repeat apply Look.there rfl); exact Look.here)) (by first | exact SRen.r _ | exact SRen.own 1 0) ?_); exact KeptR.nil)
  rintro n S ⟨j, m, hn, hj, hm, rfl⟩
  have hmm : m = ((flatK t j).map Enc.c).length := by rw [List.length_map]; exact hm
  have hlen := flatK_len ht j hj
  have hlen2 : (flatK t j).length ≤ 3145740 := by omega
  refine sg ?_
  refine bo ?_
  refine rNil ?_
  refine sq ?_
  refine cn (fun h1 => ?_) (fun h1 => ?_)
  ·
    have hj3 : j < 3 := by simp at h1; omega
    obtain ⟨v, hv, hc⟩ := t3_nth (t := t) hj3
    have hvl := smallT_nth ht hv
    have hc' : List.take 5 (List.drop (Int.toNat (j : Int) * 5) (Enc.c t)) = Enc.c v := hc
    refine awp_skip ?_
    refine tn ?_
    refine sq ?_
    refine bk ?_
    refine sg ?_
    refine ixA ?_
    rw [hc']
    refine al _ ?_
    refine sA ?_
    refine rNil ?_
    refine sg ?_
    first | refine ff ?_ | refine fb ?_ | refine fo ?_
    first | refine lAf ?_ | refine lAb ?_ | refine lAo ?_
    refine al _ ?_
    refine sA ?_
    refine rNil ?_
    refine sg ?_
    refine mv ?_
    first | refine ff ?_ | refine fb ?_ | refine fo ?_
    first | refine l1f ?_ | refine l1b ?_ | refine l1o ?_
    first | refine ff ?_ | refine fb ?_ | refine fo ?_
    first | refine l1f ?_ | refine l1b ?_ | refine l1o ?_
    first | refine ff ?_ | refine fb ?_ | refine fo ?_
    first | refine l1f ?_ | refine l1b ?_ | refine l1o ?_
    first | refine ff ?_ | refine fb ?_ | refine fo ?_
    first | refine l1f ?_ | refine l1b ?_ | refine l1o ?_
    refine bs (hs := four) ?_
    refine ap (hys := four) ?_
    refine as_ ?_
    refine rNil ?_
    refine rg ?_
    refine mv ?_
    first | refine ff ?_ | refine fb ?_ | refine fo ?_
    first | refine l1f ?_ | refine l1b ?_ | refine l1o ?_
    first | refine ap ?_ | refine (apN _) ?_
    refine as_ ?_
    refine rNil ?_
    refine bn_ ?_
    refine tn ?_
    refine rg ?_
    refine bo ?_
    refine mv ?_
    refine rNil ?_
    refine tn ?_
    have e : (flatK t (j + 1)).map Enc.c = ((flatK t j).map Enc.c ++ [Enc.c v.x, Enc.c v.y, Enc.c v.z, Enc.c v.w]) ++ v.vs.map Enc.c := by rw [flatK_snoc hv, List.map_append, List.map_append]; rfl
    have e2 : (flatK t (j + 1)).length = (((flatK t j).map Enc.c ++ [Enc.c v.x, Enc.c v.y, Enc.c v.z, Enc.c v.w]) ++ v.vs.map Enc.c).length := by rw [← e, List.length_map]
    exact ⟨3 - (j + 1), by omega, wy 2 ⟨j + 1, _, rfl, by omega, e2.symm, rfl⟩ (by rw [e]; rfl)⟩ -- LEAF 1: round of loop 1
  ·
    refine awp_exit ?_
    refine te ?_
    refine te ?_
    refine xbk ?_
    refine tn ?_
    refine sg ?_
    refine mv ?_
    refine as_ ?_
    refine rNil ?_
    refine awp_ret ?_
    obtain rfl : j = 3 := by simp at h1; omega
    exact ⟨.inr rfl, _, .cons (.v (by ((repeat apply Look.there rfl); exact Look.here)) (.row rfl hmm)) .nil, rfl⟩ -- LEAF 2: ret

/-- frustum/frustumref30.Flatten -/
theorem c27 (t : T3 V) (ht : SmallT t) : Fn Try.prog 27 [A t] (.one (L (flatK t 3))) := by
  refine fnI Try.func27 Try.ntmps27 fun hb => ?_
  refine sg ?_
  refine bx _ ?_
  refine as_ ?_
  refine rNil ?_
  refine sg ?_
  refine (bsO _) ?_
  refine as_ ?_
  refine rNil ?_
  refine sq ?_
  refine sg ?_
  refine as_ ?_
  refine rNil ?_
  refine bk ?_
  refine lp (fun n S => ∃ (j m : Nat), n = 3 - j ∧ j ≤ 3 ∧ m = (flatK t j).length ∧ S = ⟨[(4, .r (I j)), (1, .box 0 0), (3, .own 1 m)], [.box 47 [.r (I t.a.x), .r (I t.a.y), .r (I t.a.z), .r (I t.a.w), .r (L t.a.vs), .r (I t.b.x), .r (I t.b.y), .r (I t.b.z), .r (I t.b.w), .r (L t.b.vs), .r (I t.c.x), .r (I t.c.y), .r (I t.c.z), .r (I t.c.w), .r (L t.c.vs)], .row 3 1 ((flatK t j).map Enc.c)]⟩) 3 ?_ ?_
  · exact wx 2 ⟨0, 0, rfl, by omega, rfl, rfl⟩
  rintro n S ⟨j, m, hn, hj, hm, rfl⟩
  have hmm : m = ((flatK t j).map Enc.c).length := by rw [List.length_map]; exact hm
  have hlen := flatK_len ht j hj
  have hlen2 : (flatK t j).length ≤ 3145740 := by omega
  refine sq ?_
  refine sg ?_
  refine mv ?_
  refine bo ?_
  refine rNil ?_
  refine cn (fun h1 => ?_) (fun h1 => ?_)
  ·
    have hj3 : j < 3 := by simp at h1; omega
    obtain ⟨v, hv, hc⟩ := t3_nth (t := t) hj3
    have hvl := smallT_nth ht hv
    have hA : ∀ ents', All2 (IsF ents') (List.take 5 (List.drop (0 + Int.toNat (j : Int) * 5) [Slot.r (I t.a.x), .r (I t.a.y), .r (I t.a.z), .r (I t.a.w), .r (L t.a.vs), .r (I t.b.x), .r (I t.b.y), .r (I t.b.z), .r (I t.b.w), .r (L t.b.vs), .r (I t.c.x), .r (I t.c.y), .r (I t.c.z), .r (I t.c.w), .r (L t.c.vs)])) (Enc.c v) := by
      intro ents'
      match j, hj3, hv with
      | 0, _, hv => cases hv; exact .cons (.v _) (.cons (.v _) (.cons (.v _) (.cons (.v _) (.cons (.v _) .nil))))
      | 1, _, hv => cases hv; exact .cons (.v _) (.cons (.v _) (.cons (.v _) (.cons (.v _) (.cons (.v _) .nil))))
      | 2, _, hv => cases hv; exact .cons (.v _) (.cons (.v _) (.cons (.v _) (.cons (.v _) (.cons (.v _) .nil))))
    refine awp_skip ?_
    refine tn ?_
    refine sq ?_
    refine bk ?_
    refine sg ?_
    refine mv ?_
    first | refine xf ?_ | refine xb ?_ | refine xoa ?_
    refine lAb (fs := Enc.c v) (hn := by simp; omega) (hf := fun e _ => hA e) ?_
    refine al _ ?_
    refine sA ?_
    refine rNil ?_
    refine sg ?_
    refine mv ?_
    first | refine ff ?_ | refine fb ?_ | refine fo ?_
    first | refine ff ?_ | refine fb ?_ | refine fo ?_
    first | refine l1f ?_ | refine l1b ?_ | refine l1o ?_
    first | refine ff ?_ | refine fb ?_ | refine fo ?_
    first | refine ff ?_ | refine fb ?_ | refine fo ?_
    first | refine l1f ?_ | refine l1b ?_ | refine l1o ?_
    first | refine ff ?_ | refine fb ?_ | refine fo ?_
    first | refine ff ?_ | refine fb ?_ | refine fo ?_
    first | refine l1f ?_ | refine l1b ?_ | refine l1o ?_
    first | refine ff ?_ | refine fb ?_ | refine fo ?_
    first | refine ff ?_ | refine fb ?_ | refine fo ?_
    first | refine l1f ?_ | refine l1b ?_ | refine l1o ?_
    refine bs (hs := four) ?_
    refine ap (hys := four) ?_
    refine as_ ?_
    refine rNil ?_
    refine rg ?_
    refine mv ?_
    first | refine ff ?_ | refine fb ?_ | refine fo ?_
    first | refine l1f ?_ | refine l1b ?_ | refine l1o ?_
    first | refine ap ?_ | refine (apN _) ?_
    refine as_ ?_
    refine rNil ?_
    refine bn_ ?_
    refine tn ?_
    refine rg ?_
    refine mv ?_
    refine bo ?_
    refine as_ ?_
    refine rNil ?_
    refine tn ?_
    have e : (flatK t (j + 1)).map Enc.c = ((flatK t j).map Enc.c ++ [Enc.c v.x, Enc.c v.y, Enc.c v.z, Enc.c v.w]) ++ v.vs.map Enc.c := by rw [flatK_snoc hv, List.map_append, List.map_append]; rfl
    have e2 : (flatK t (j + 1)).length = (((flatK t j).map Enc.c ++ [Enc.c v.x, Enc.c v.y, Enc.c v.z, Enc.c v.w]) ++ v.vs.map Enc.c).length := by rw [← e, List.length_map]
    exact ⟨3 - (j + 1), by omega, wy 2 ⟨j + 1, _, rfl, by omega, e2.symm, rfl⟩ (by rw [e]; rfl)⟩ -- LEAF 1: round of loop 1
  ·
    refine awp_exit ?_
    refine te ?_
    refine te ?_
    refine xbk ?_
    refine tn ?_
    refine sg ?_
    refine mv ?_
    refine as_ ?_
    refine rNil ?_
    refine awp_ret ?_
    obtain rfl : j = 3 := by simp at h1; omega
    exact ⟨.inr rfl, _, .cons (.v (by ((repeat apply Look.there rfl); exact Look.here)) (.row rfl hmm)) .nil, rfl⟩ -- LEAF 2: ret

/-- frustum/frustumlaw30.GeometryFlatten -/
theorem c8 (t : T3 V) (ht : SmallT t) : Fn Try.prog 8 [A t] (.one (B true)) := by
  refine fnI Try.func8 Try.ntmps8 fun hb => ?_
  refine sg ?_
  refine bx _ ?_
  refine as_ ?_
  refine rNil ?_
  refine sd mixO ?_
  first | refine lAf ?_ | refine lAb ?_ | refine lAo ?_
  refine cl (c26 t ht) ?_
  first | refine lAf ?_ | refine lAb ?_ | refine lAo ?_
  refine cl (c27 t ht) ?_
  refine cl (c25 (flatK t 3)) ?_
  refine mv ?_
  refine gd (fun h1 => ?_) (fun h1 => ?_)
  ·
    refine cl (c17) ?_
    refine pkT ?_
    refine as_ ?_
    refine rNil ⟨rfl, ?_⟩
    refine awp_ret ?_
    exact ⟨.inr rfl, _, (.cons (by first | exact .v (by ((repeat apply Look.there rfl); exact Look.here)) (.f (.v _)) | exact .v (by ((repeat apply Look.there rfl); exact Look.here)) (.row rfl rfl) | exact .v (by ((repeat apply Look.there rfl); exact Look.here)) (.f .nil) | exact .a (by ((repeat apply Look.there rfl); exact Look.here)) | skip) .nil), rfl⟩ -- LEAF 1: ret
  ·
    cases h1 -- END

end Go.Proofs.Ytolbhipnbhehdaa.VS
