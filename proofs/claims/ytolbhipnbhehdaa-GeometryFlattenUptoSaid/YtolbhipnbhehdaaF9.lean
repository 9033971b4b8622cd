/- The walks of functions: what each computes, by itself. Conditions: none. -/
import Derived.Test.YtolbhipnbhehdaaF8
set_option linter.unusedVariables false
set_option linter.unusedSimpArgs false
namespace Go.Proofs.Ytolbhipnbhehdaa.VS
open Go
def v0 : V := ⟨0, 0, 0, 0, []⟩
def pk (s : List V) (t : T3 Int) : T3 V := ⟨s.getD t.a.toNat v0, s.getD t.b.toNat v0, s.getD t.c.toNat v0⟩
def exK (s : List V) (k : Nat) : List (T3 V) := (trisK k).map (pk s)
def ex1 (s : List V) : List (T3 V) := exK s (s.length - 2)
def expandL (ss : List (List V)) : List (T3 V) := ss.flatMap ex1
theorem exK_snoc (s : List V) (k : Nat) : exK s (k + 1) = exK s k ++ [pk s (tri k)] := by simp [exK, trisK_snoc]
theorem exK_len (s : List V) (k : Nat) : (exK s k).length = k := by simp [exK, trisK_len]
theorem expandL_snoc {ss : List (List V)} {k : Nat} {s : List V} (h : ss[k]? = some s) : expandL (ss.take (k + 1)) = expandL (ss.take k) ++ ex1 s := by
  rw [take_snoc h, expandL, List.flatMap_append]; simp [expandL]
theorem expandL_len {ss : List (List V)} {m : Nat} (h : ∀ s ∈ ss, s.length ≤ m) : (expandL ss).length ≤ ss.length * m := by
  induction ss with
  | nil => simp [expandL]
  | cons s ss ih =>
    have h1 := ih (fun x hx => h x (.tail _ hx))
    have h2 := h s (.head _)
    have h3 : (ex1 s).length = s.length - 2 := exK_len _ _
    simp only [expandL, List.flatMap_cons, List.length_append, List.length_cons, Nat.succ_mul] at h1 ⊢
    omega
/-- What strips hold. -/
def Fine (em : List (List Int)) (ss : List (List V)) : Prop := ∀ s ∈ ss, s.length ≤ em.length ∧ ∀ v ∈ s, ∃ l ∈ em, v = vofs l
theorem seg_fine (em : List (List Int)) (a z : Nat) : (seg em a z).length ≤ em.length ∧ ∀ v ∈ seg em a z, ∃ l ∈ em, v = vofs l := by
  unfold seg
  refine ⟨by rw [List.length_map, List.length_take, List.length_drop]; omega, fun v hv => ?_⟩
  obtain ⟨l, hl, rfl⟩ := List.mem_map.1 hv
  exact ⟨l, List.mem_of_mem_drop (List.mem_of_mem_take hl), rfl⟩
theorem fine_snoc {em : List (List Int)} {ss : List (List V)} {a z : Nat} (h : Fine em ss) : Fine em (ss ++ [seg em a z]) := by
  intro s hs
  rcases List.mem_append.1 hs with hs | hs
  · exact h s hs
  · rw [List.mem_singleton.1 hs]; exact seg_fine em a z
theorem stripsL_fine (em : List (List Int)) : ∀ (cuts : List Int) (s : Nat × List (List V)), Fine em s.2 → Fine em (cuts.foldl (stepC em) s).2
  | [], _, h => h
  | c :: cuts, s, h => by
    rw [List.foldl_cons]
    refine stripsL_fine em cuts _ ?_
    unfold stepC
    split
    · exact fine_snoc h
    · exact h
theorem strips_fine (r : LR) : Fine r.em (strips r) ∧ (strips r).length ≤ r.cuts.length + 1 := by
  have h := stripsL_fine r.em r.cuts (0, []) (fun s hs => by cases hs)
  have h2 := (stripsL_le r.em r.cuts).2
  unfold strips
  split
  · exact ⟨fine_snoc h, by simp; exact h2⟩
  · exact ⟨h, by omega⟩
theorem getD_of {s : List V} {i : Nat} {v : V} (h : s[i]? = some v) : s.getD i v0 = v := by rw [List.getD_eq_getElem?_getD, h]; rfl
/-- A triangle of a strip. -/
theorem pk_get {s : List V} {j : Nat} (h : j < s.length - 2) : ∃ (b c : Nat) (x y z : V), tri j = ⟨(j : Int), (b : Int), (c : Int)⟩ ∧ s[j]? = some x ∧ s[b]? = some y ∧ s[c]? = some z ∧ pk s (tri j) = ⟨x, y, z⟩ := by
  obtain ⟨x, hx⟩ := ex_get (a := s) (k := j) (by omega)
  obtain ⟨y, hy⟩ := ex_get (a := s) (k := j + 1) (by omega)
  obtain ⟨z, hz⟩ := ex_get (a := s) (k := j + 2) (by omega)
  by_cases hm : j % 2 = 1
  · have ht : tri j = ⟨(j : Int), ((j + 2 : Nat) : Int), ((j + 1 : Nat) : Int)⟩ := if_pos hm
    exact ⟨j + 2, j + 1, x, z, y, ht, hx, hz, hy, by rw [ht]; simp only [pk, Int.toNat_natCast, getD_of hx, getD_of hy, getD_of hz]⟩
  · have ht : tri j = ⟨(j : Int), ((j + 1 : Nat) : Int), ((j + 2 : Nat) : Int)⟩ := if_neg hm
    exact ⟨j + 1, j + 2, x, y, z, ht, hx, hy, hz, by rw [ht]; simp only [pk, Int.toNat_natCast, getD_of hx, getD_of hy, getD_of hz]⟩
theorem vofs_len (l : List Int) : (vofs l).vs.length ≤ l.length := by simp [vofs, vof]
/-- frustum/geometrystage.Expand -/
theorem c21 (r : LR) (hem : r.em.length ≤ 300) (hcu : r.cuts.length ≤ 300) (hl : ∀ l ∈ r.em, l.length ≤ 17592186044412) : Fn Try.prog 21 [A r] (.one (L (expandL (strips r)))) := by
  refine fnI Try.func21 Try.ntmps21 fun hb => ?_
  refine sg ?_
  refine bx _ ?_
  refine as_ ?_
  refine rNil ?_
  refine sg ?_
  refine as_ ?_
  refine rNil ?_
  refine sq ?_
  refine sg ?_
  first | refine lAf ?_ | refine lAb ?_ | refine lAo ?_
  refine cl (c18 r hem hcu hl) ?_
  first | refine lnM ?_ | refine ln ?_ | refine lnO ?_ | refine lnN ?_ | refine lnW ?_
  refine mv ?_
  refine rNil ?_
  refine bk ?_
  refine adN 1 3 47 15 ?_
  obtain ⟨hfine, hsl⟩ := strips_fine r
  generalize strips r = ss at hfine hsl ⊢
  refine lp (fun n S => ∃ (k m : Nat), n = ss.length - k ∧ k ≤ ss.length ∧ m = (expandL (ss.take k)).length ∧ S = ⟨[(13, .r (I k)), (12, .r (I ss.length)), (11, .r (L ss)), (3, .own 1 m)], [.gone, .row 47 15 ((expandL (ss.take k)).map Enc.c)]⟩) ss.length ?_ ?_
  · refine wr2 [0, 1] ⟨0, 0, rfl, by omega, rfl, rfl⟩ (.cons (.gone _) (.cons (.row _ _ _) (.nil _))) rfl ?_
    ((repeat refine KeptR.cons (by ((repeat apply Look.there rfl); exact Look.here)) (by first | exact SRen.r _ | exact SRen.own 1 0) ?_); exact KeptR.nil)
  rintro n S ⟨k, m, hn, hk, hm, rfl⟩
  refine sg ?_
  refine bo ?_
  refine rNil ?_
  refine sq ?_
  refine cn (fun h1 => ?_) (fun h1 => ?_)
  ·
    have hk1 : k < ss.length := by simp at h1; omega
    obtain ⟨s, hs⟩ := ex_get hk1
    obtain ⟨hs1, hs2⟩ := hfine s (List.mem_of_getElem? hs)
    have hvl : ∀ v ∈ s, v.vs.length ≤ 17592186044416 := by
      intro v hv
      obtain ⟨l, hl1, rfl⟩ := hs2 v hv
      have := vofs_len l; have := hl l hl1; omega
    have hel := expandL_len (ss := ss.take k) (m := 300) (fun x hx => Nat.le_trans (hfine x (List.mem_of_mem_take hx)).1 hem)
    rw [List.length_take] at hel
    have hel2 : (expandL (ss.take k)).length ≤ 90300 := by
      have : min k ss.length * 300 ≤ 301 * 300 := Nat.mul_le_mul_right _ (by omega)
      omega
    refine awp_skip ?_
    refine tn ?_
    refine sq ?_
    refine bk ?_
    refine sg ?_
    first | refine xs_ ?_ | refine xo ?_ | refine xw ?_
    first | refine l1f ?_ | refine l1b ?_ | refine l1o ?_
    refine as_ ?_
    refine rNil ?_
    refine sg ?_
    refine as_ ?_
    refine rNil ?_
    refine sq ?_
    refine sg ?_
    refine mv ?_
    first | refine lnM ?_ | refine ln ?_ | refine lnO ?_ | refine lnN ?_ | refine lnW ?_
    refine mv ?_
    refine rNil ?_
    refine bk ?_
    refine adN 2 6 3 1 ?_
    refine lp (fun q S => ∃ (j i : Nat), q = s.length - j ∧ j ≤ s.length ∧ i = j ∧ S = ⟨[(19, .r (I j)), (18, .r (I s.length)), (6, .own 2 i), (5, .r (L s)), (13, .r (I k)), (12, .r (I ss.length)), (11, .r (L ss)), (3, .own 1 m)], [.gone, .row 47 15 ((expandL (ss.take k)).map Enc.c), .row 3 1 ((iota j).map Enc.c)]⟩) s.length ?_ ?_
    · exact wx 3 ⟨0, 0, rfl, by omega, rfl, rfl⟩
    rintro q S ⟨j, i, hq, hj, hi, rfl⟩
    have hij : i = ((iota j).map Enc.c).length := by rw [List.length_map, iota_len, hi]
    have hil := iota_len j
    refine sg ?_
    refine bo ?_
    refine rNil ?_
    refine sq ?_
    refine cn (fun h2 => ?_) (fun h2 => ?_)
    ·
      refine awp_skip ?_
      refine tn ?_
      refine sq ?_
      refine bk ?_
      refine sg ?_
      refine mv ?_
      refine as_ ?_
      refine rNil ?_
      refine rg ?_
      refine mv ?_
      refine mv ?_
      refine bs ?_
      first | refine ap ?_ | refine (apN _) ?_
      refine as_ ?_
      refine rNil ?_
      refine bn_ ?_
      refine tn ?_
      refine rg ?_
      refine bo ?_
      refine mv ?_
      refine rNil ?_
      refine tn ?_
      exact ⟨s.length - (j + 1), by simp at h2; omega, wy 3 ⟨j + 1, i + 1, rfl, by simp at h2; omega, by omega, rfl⟩ (by simp [iota_snoc, RV.flat, Enc.c])⟩ -- LEAF 1: round of loop 2
    ·
      refine awp_exit ?_
      refine te ?_
      refine te ?_
      refine xbk ?_
      refine tn ?_
      obtain rfl : j = s.length := by simp at h2; omega
      refine fz 2 ?_
      refine sg ?_
      refine mv ?_
      refine clF [2] (c34 s.length (by omega)) ?_
      first | refine lnM ?_ | refine ln ?_ | refine lnO ?_ | refine lnN ?_ | refine lnW ?_
      refine mv ?_
      refine rNil ?_
      refine bk ?_
      have htk : (tris s.length).length = s.length - 2 := trisK_len _
      refine lp (fun q S => ∃ (j m' : Nat), q = s.length - 2 - j ∧ j ≤ s.length - 2 ∧ m' = m + j ∧ S = ⟨[(30, .r (I j)), (29, .r (I (tris s.length).length)), (28, .r (L (tris s.length))), (5, .r (L s)), (13, .r (I k)), (12, .r (I ss.length)), (11, .r (L ss)), (3, .own 1 m')], [.gone, .row 47 15 ((expandL (ss.take k) ++ exK s j).map Enc.c)]⟩) (s.length - 2) ?_ ?_
      · exact wy 2 ⟨0, m, rfl, by omega, rfl, rfl⟩ (by simp [exK, trisK])
      rintro q S ⟨j, m', hq', hj', hm', rfl⟩
      have hmm : m' = ((expandL (ss.take k) ++ exK s j).map Enc.c).length := by rw [List.length_map, List.length_append, exK_len, ← hm, hm']
      have hxl := exK_len s j
      refine sg ?_
      refine bo ?_
      refine rNil ?_
      refine sq ?_
      refine cn (fun h3 => ?_) (fun h3 => ?_)
      ·
        have hj1 : j < s.length - 2 := by simp [htk] at h3; omega
        obtain ⟨b, c, x, y, z, ht, hx, hy, hz, hpk⟩ := pk_get hj1
        have hx3 : (tris s.length)[j]? = some ⟨(j : Int), (b : Int), (c : Int)⟩ := by rw [← ht]; simp [tris, trisK, hj1]
        have hlx := hvl x (List.mem_of_getElem? hx)
        have hly := hvl y (List.mem_of_getElem? hy)
        have hlz := hvl z (List.mem_of_getElem? hz)
        refine awp_skip ?_
        refine tn ?_
        refine sq ?_
        refine bk ?_
        refine sg ?_
        first | refine xs_ ?_ | refine xo ?_ | refine xw ?_
        first | refine lAf ?_ | refine lAb ?_ | refine lAo ?_
        refine al _ ?_
        refine sA ?_
        refine rNil ?_
        refine rd mixO ?_
        refine mv ?_
        refine mv ?_
        first | refine xf ?_ | refine xb ?_ | refine xoa ?_
        first | refine l1f ?_ | refine l1b ?_ | refine l1o ?_
        first | refine xs_ ?_ | refine xo ?_ | refine xw ?_
        first | refine lAf ?_ | refine lAb ?_ | refine lAo ?_
        refine cl (c35 x hlx) ?_
        refine mv ?_
        first | refine xf ?_ | refine xb ?_ | refine xoa ?_
        first | refine l1f ?_ | refine l1b ?_ | refine l1o ?_
        first | refine xs_ ?_ | refine xo ?_ | refine xw ?_
        first | refine lAf ?_ | refine lAb ?_ | refine lAo ?_
        refine cl (c35 y hly) ?_
        refine mv ?_
        first | refine xf ?_ | refine xb ?_ | refine xoa ?_
        first | refine l1f ?_ | refine l1b ?_ | refine l1o ?_
        first | refine xs_ ?_ | refine xo ?_ | refine xw ?_
        first | refine lAf ?_ | refine lAb ?_ | refine lAo ?_
        refine cl (c35 z hlz) ?_
        refine buA ?_
        refine bs ?_
        first | refine ap ?_ | refine (apN _) ?_
        refine as_ ?_
        refine rNil ⟨rfl, ?_⟩
        refine bn_ ?_
        refine tn ?_
        refine rg ?_
        refine bo ?_
        refine mv ?_
        refine rNil ?_
        refine tn ?_
        have e : (expandL (ss.take k) ++ exK s (j + 1)).map Enc.c = (expandL (ss.take k) ++ exK s j).map Enc.c ++ [Enc.c (⟨x, y, z⟩ : T3 V)] := by rw [exK_snoc, hpk, ← List.append_assoc, List.map_append]; rfl
        exact ⟨s.length - 2 - (j + 1), by omega, wy 2 ⟨j + 1, m' + 1, rfl, by omega, by omega, rfl⟩ (by rw [e]; rfl)⟩ -- LEAF 2: round of loop 3
      ·
        refine awp_exit ?_
        refine te ?_
        refine te ?_
        refine xbk ?_
        refine bn_ ?_
        refine tn ?_
        refine rg ?_
        refine bo ?_
        refine mv ?_
        refine rNil ?_
        refine tn ?_
        have hjl : j = s.length - 2 := by simp [htk] at h3; omega
        subst hjl
        exact ⟨ss.length - (k + 1), by omega, wy 2 ⟨k + 1, m', rfl, by omega, by rw [expandL_snoc hs, List.length_append, ← hm, hm', ex1, exK_len], rfl⟩ (by rw [expandL_snoc hs]; rfl)⟩ -- LEAF 3: round of loop 1
  ·
    refine awp_exit ?_
    refine te ?_
    refine te ?_
    refine xbk ?_
    refine tn ?_
    refine sg ?_
    refine mv ?_
    refine as_ ?_
    refine rNil ?_
    refine awp_ret ?_
    have hkk : k = ss.length := by simp at h1; omega
    subst hkk
    rw [List.take_length] at hm ⊢
    exact ⟨.inr rfl, _, .cons (.v (by ((repeat apply Look.there rfl); exact Look.here)) (.row rfl (by rw [List.length_map]; exact hm))) .nil, rfl⟩ -- LEAF 4: ret

set_option maxRecDepth 100000 in
/-- frustum/frustumref30.Expand -/
theorem c22 (r : LR) (hem : r.em.length ≤ 300) (hcu : r.cuts.length ≤ 300) (hl : ∀ l ∈ r.em, l.length ≤ 17592186044412) : Fn Try.prog 22 [A r] (.one (L (expandL (strips r)))) := by
  refine fnI Try.func22 Try.ntmps22 fun hb => ?_
  refine sg ?_
  refine bx _ ?_
  refine as_ ?_
  refine rNil ?_
  refine sg ?_
  refine (bsO _) ?_
  refine as_ ?_
  refine rNil ?_
  refine sg ?_
  first | refine lAf ?_ | refine lAb ?_ | refine lAo ?_
  refine cl (c19 r hem hcu hl) ?_
  refine as_ ?_
  refine rNil ?_
  refine sq ?_
  refine sg ?_
  refine as_ ?_
  refine rNil ?_
  refine bk ?_
  obtain ⟨hfine, hsl⟩ := strips_fine r
  generalize strips r = ss at hfine hsl ⊢
  refine lp (fun n S => ∃ (k m : Nat), n = ss.length - k ∧ k ≤ ss.length ∧ m = (expandL (ss.take k)).length ∧ S = ⟨[(5, .r (I k)), (4, .r (L ss)), (3, .own 1 m)], [.gone, .row 47 15 ((expandL (ss.take k)).map Enc.c)]⟩) ss.length ?_ ?_
  · refine wr2 [0, 1] ⟨0, 0, rfl, by omega, rfl, rfl⟩ (.cons (.gone _) (.cons (.row _ _ _) (.nil _))) rfl ?_
    ((repeat refine KeptR.cons (by ((repeat apply Look.there rfl); exact Look.here)) (by first | exact SRen.r _ | exact SRen.own 1 0) ?_); exact KeptR.nil)
  rintro n S ⟨k, m, hn, hk, hm, rfl⟩
  have hssl : (ss.length : Int) ≤ 301 := by omega
  refine sq ?_
  refine sg ?_
  refine mv ?_
  refine mv ?_
  first | refine lnM ?_ | refine ln ?_ | refine lnO ?_ | refine lnN ?_ | refine lnW ?_
  refine bo ?_
  refine rNil ?_
  refine cn (fun h1 => ?_) (fun h1 => ?_)
  ·
    have hk1 : k < ss.length := by simp at h1; omega
    obtain ⟨s, hs⟩ := ex_get hk1
    obtain ⟨hs1, hs2⟩ := hfine s (List.mem_of_getElem? hs)
    have hel := expandL_len (ss := ss.take k) (m := 300) (fun x hx => Nat.le_trans (hfine x (List.mem_of_mem_take hx)).1 hem)
    rw [List.length_take] at hel
    have hel2 : (expandL (ss.take k)).length ≤ 90300 := by
      have : min k ss.length * 300 ≤ 301 * 300 := Nat.mul_le_mul_right _ (by omega)
      omega
    refine awp_skip ?_
    refine tn ?_
    refine sq ?_
    refine bk ?_
    refine sg ?_
    refine mv ?_
    refine mv ?_
    first | refine xs_ ?_ | refine xo ?_ | refine xw ?_
    first | refine l1f ?_ | refine l1b ?_ | refine l1o ?_
    first | refine lnM ?_ | refine ln ?_ | refine lnO ?_ | refine lnN ?_ | refine lnW ?_
    refine cl (c37 s.length (by omega)) ?_
    refine cl (c36 s.length (by omega)) ?_
    refine as_ ?_
    refine rNil ?_
    refine sg ?_
    refine as_ ?_
    refine rNil ?_
    refine bk ?_
    have htk : (tris s.length).length = s.length - 2 := trisK_len _
    refine lp (fun q S => ∃ (j m' : Nat), q = s.length - 2 - j ∧ j ≤ s.length - 2 ∧ m' = m + j ∧ S = ⟨[(7, .r (I j)), (6, .r (L (tris s.length))), (5, .r (I k)), (4, .r (L ss)), (3, .own 1 m')], [.gone, .row 47 15 ((expandL (ss.take k) ++ exK s j).map Enc.c)]⟩) (s.length - 2) ?_ ?_
    · exact wy 2 ⟨0, m, rfl, by omega, rfl, rfl⟩ (by simp [exK, trisK])
    rintro q S ⟨j, m', hq', hj', hm', rfl⟩
    have hmm : m' = ((expandL (ss.take k) ++ exK s j).map Enc.c).length := by rw [List.length_map, List.length_append, exK_len, ← hm, hm']
    have hxl := exK_len s j
    refine sq ?_
    refine sg ?_
    refine mv ?_
    refine mv ?_
    first | refine lnM ?_ | refine ln ?_ | refine lnO ?_ | refine lnN ?_ | refine lnW ?_
    refine bo ?_
    refine rNil ?_
    refine cn (fun h2 => ?_) (fun h2 => ?_)
    ·
      have hj1 : j < s.length - 2 := by simp [htk] at h2; omega
      obtain ⟨b, c, x, y, z, ht, hx, hy, hz, hpk⟩ := pk_get hj1
      have hx3 : (tris s.length)[j]? = some ⟨(j : Int), (b : Int), (c : Int)⟩ := by rw [← ht]; simp [tris, trisK, hj1]
      refine awp_skip ?_
      refine tn ?_
      refine sq ?_
      refine bk ?_
      refine rd mixO ?_
      refine mv ?_
      refine mv ?_
      refine mv ?_
      first | refine xs_ ?_ | refine xo ?_ | refine xw ?_
      first | refine l1f ?_ | refine l1b ?_ | refine l1o ?_
      refine mv ?_
      refine mv ?_
      first | refine xs_ ?_ | refine xo ?_ | refine xw ?_
      first | refine xf ?_ | refine xb ?_ | refine xoa ?_
      first | refine l1f ?_ | refine l1b ?_ | refine l1o ?_
      first | refine xs_ ?_ | refine xo ?_ | refine xw ?_
      first | refine lAf ?_ | refine lAb ?_ | refine lAo ?_
      refine mv ?_
      refine mv ?_
      first | refine xs_ ?_ | refine xo ?_ | refine xw ?_
      first | refine l1f ?_ | refine l1b ?_ | refine l1o ?_
      refine mv ?_
      refine mv ?_
      first | refine xs_ ?_ | refine xo ?_ | refine xw ?_
      first | refine xf ?_ | refine xb ?_ | refine xoa ?_
      first | refine l1f ?_ | refine l1b ?_ | refine l1o ?_
      first | refine xs_ ?_ | refine xo ?_ | refine xw ?_
      first | refine lAf ?_ | refine lAb ?_ | refine lAo ?_
      refine mv ?_
      refine mv ?_
      first | refine xs_ ?_ | refine xo ?_ | refine xw ?_
      first | refine l1f ?_ | refine l1b ?_ | refine l1o ?_
      refine mv ?_
      refine mv ?_
      first | refine xs_ ?_ | refine xo ?_ | refine xw ?_
      first | refine xf ?_ | refine xb ?_ | refine xoa ?_
      first | refine l1f ?_ | refine l1b ?_ | refine l1o ?_
      first | refine xs_ ?_ | refine xo ?_ | refine xw ?_
      first | refine lAf ?_ | refine lAb ?_ | refine lAo ?_
      refine buA ?_
      refine bs ?_
      first | refine ap ?_ | refine (apN _) ?_
      refine as_ ?_
      refine rNil ⟨rfl, ?_⟩
      refine bn_ ?_
      refine tn ?_
      refine rg ?_
      refine mv ?_
      refine bo ?_
      refine as_ ?_
      refine rNil ?_
      refine tn ?_
      have e : (expandL (ss.take k) ++ exK s (j + 1)).map Enc.c = (expandL (ss.take k) ++ exK s j).map Enc.c ++ [Enc.c (⟨x, y, z⟩ : T3 V)] := by rw [exK_snoc, hpk, ← List.append_assoc, List.map_append]; rfl
      exact ⟨s.length - 2 - (j + 1), by omega, wy 2 ⟨j + 1, m' + 1, rfl, by omega, by omega, rfl⟩ (by rw [e]; rfl)⟩ -- LEAF 1: round of loop 2
    ·
      refine awp_exit ?_
      refine te ?_
      refine te ?_
      refine xbk ?_
      refine bn_ ?_
      refine tn ?_
      refine rg ?_
      refine mv ?_
      refine bo ?_
      refine as_ ?_
      refine rNil ?_
      refine tn ?_
      have hjl : j = s.length - 2 := by simp [htk] at h2; omega
      subst hjl
      exact ⟨ss.length - (k + 1), by omega, wy 2 ⟨k + 1, m', rfl, by omega, by rw [expandL_snoc hs, List.length_append, ← hm, hm', ex1, exK_len], rfl⟩ (by rw [expandL_snoc hs]; rfl)⟩ -- LEAF 2: round of loop 1
  ·
    refine awp_exit ?_
    refine te ?_
    refine te ?_
    refine xbk ?_
    refine tn ?_
    refine sg ?_
    refine mv ?_
    refine as_ ?_
    refine rNil ?_
    refine awp_ret ?_
    have hkk : k = ss.length := by simp at h1; omega
    subst hkk
    rw [List.take_length] at hm ⊢
    exact ⟨.inr rfl, _, .cons (.v (by ((repeat apply Look.there rfl); exact Look.here)) (.row rfl (by rw [List.length_map]; exact hm))) .nil, rfl⟩ -- LEAF 3: ret

def ampl (rs : List LR) : Nat := (rs.map fun r => (expandL (strips r)).length).sum
def Small (r : LR) : Prop := r.em.length ≤ 300 ∧ r.cuts.length ≤ 300 ∧ ∀ l ∈ r.em, l.length ≤ 17592186044412
theorem ampl_snoc {rs : List LR} {k : Nat} {r : LR} (h : rs[k]? = some r) : ampl (rs.take (k + 1)) = ampl (rs.take k) + (expandL (strips r)).length := by
  rw [take_snoc h, ampl, List.map_append, List.sum_append]; simp [ampl]
theorem exp_le {r : LR} (h : Small r) : (expandL (strips r)).length ≤ 90300 := by
  obtain ⟨hf, hs⟩ := strips_fine r
  have h1 := expandL_len (ss := strips r) (m := 300) (fun s hs => Nat.le_trans (hf s hs).1 h.1)
  have : (strips r).length * 300 ≤ 301 * 300 := Nat.mul_le_mul_right _ (by have := h.2.1; omega)
  omega
theorem ampl_le : ∀ (rs : List LR), (∀ r ∈ rs, Small r) → ampl rs ≤ rs.length * 90300
  | [], _ => by simp [ampl]
  | r :: rs, h => by
    have h1 := ampl_le rs (fun x hx => h x (.tail _ hx))
    have h2 := exp_le (h r (.head _))
    simp only [ampl, List.map_cons, List.sum_cons, List.length_cons, Nat.succ_mul] at h1 ⊢
    omega
/-- frustum/geometrystage.Amplification -/
theorem c23 (rs : List LR) (hr : rs.length ≤ 50) (hs : ∀ r ∈ rs, Small r) : Fn Try.prog 23 [L rs] (.one (I (ampl rs))) := by
  refine fnI Try.func23 Try.ntmps23 fun hb => ?_
  refine sg ?_
  refine as_ ?_
  refine rNil ?_
  refine sg ?_
  refine as_ ?_
  refine rNil ?_
  refine sq ?_
  refine sg ?_
  refine mv ?_
  first | refine lnM ?_ | refine ln ?_ | refine lnO ?_ | refine lnN ?_ | refine lnW ?_
  refine mv ?_
  refine rNil ?_
  refine bk ?_
  refine lp (fun n S => ∃ (k : Nat), n = rs.length - k ∧ k ≤ rs.length ∧ S = ⟨[(8, .r (I k)), (7, .r (I rs.length)), (6, .r (L rs)), (3, .r (I (ampl (rs.take k))))], []⟩) rs.length ?_ ?_
  · exact wx 0 ⟨0, rfl, by omega, rfl⟩
  rintro n S ⟨k, hn, hk, rfl⟩
  refine sg ?_
  refine bo ?_
  refine rNil ?_
  refine sq ?_
  refine cn (fun h1 => ?_) (fun h1 => ?_)
  ·
    have hk1 : k < rs.length := by simp at h1; omega
    obtain ⟨r, hx⟩ := ex_get hk1
    have hsm := hs r (List.mem_of_getElem? hx)
    have he := exp_le hsm
    have ha := ampl_le (rs.take k) (fun x hx => hs x (List.mem_of_mem_take hx))
    rw [List.length_take] at ha
    have ha2 : ampl (rs.take k) ≤ 4515000 := by
      have : min k rs.length * 90300 ≤ 50 * 90300 := Nat.mul_le_mul_right _ (by omega)
      omega
    refine awp_skip ?_
    refine tn ?_
    refine sq ?_
    refine bk ?_
    refine sg ?_
    first | refine xs_ ?_ | refine xo ?_ | refine xw ?_
    first | refine lAf ?_ | refine lAb ?_ | refine lAo ?_
    refine al _ ?_
    refine sA ?_
    refine rNil ?_
    refine rg ?_
    refine mv ?_
    first | refine lAf ?_ | refine lAb ?_ | refine lAo ?_
    refine cl (c21 r hsm.1 hsm.2.1 hsm.2.2) ?_
    first | refine lnM ?_ | refine ln ?_ | refine lnO ?_ | refine lnN ?_ | refine lnW ?_
    refine bo ?_
    refine as_ ?_
    refine rNil ?_
    refine bn_ ?_
    refine tn ?_
    refine rg ?_
    refine bo ?_
    refine mv ?_
    refine rNil ?_
    refine tn ?_
    exact ⟨rs.length - (k + 1), by omega, wx 0 ⟨k + 1, rfl, by omega, by rw [ampl_snoc hx]; rfl⟩⟩ -- LEAF 1: round of loop 1
  ·
    refine awp_exit ?_
    refine te ?_
    refine te ?_
    refine xbk ?_
    refine tn ?_
    refine sg ?_
    refine mv ?_
    refine as_ ?_
    refine rNil ?_
    refine awp_ret ?_
    have hkk : k = rs.length := by simp at h1; omega
    subst hkk
    exact ⟨.inr rfl, _, (.cons (by first | exact .v (by ((repeat apply Look.there rfl); exact Look.here)) (.f (.v _)) | exact .v (by ((repeat apply Look.there rfl); exact Look.here)) (.row rfl rfl) | exact .v (by ((repeat apply Look.there rfl); exact Look.here)) (.f .nil) | exact .a (by ((repeat apply Look.there rfl); exact Look.here)) | skip) .nil), by rw [List.take_length]; rfl⟩ -- LEAF 2: ret

/-- frustum/frustumref30.Amplification -/
theorem c24 (rs : List LR) (hr : rs.length ≤ 50) (hs : ∀ r ∈ rs, Small r) : Fn Try.prog 24 [L rs] (.one (I (ampl rs))) := by
  refine fnI Try.func24 Try.ntmps24 fun hb => ?_
  refine sg ?_
  refine as_ ?_
  refine rNil ?_
  refine sg ?_
  refine as_ ?_
  refine rNil ?_
  refine sq ?_
  refine sg ?_
  refine as_ ?_
  refine rNil ?_
  refine bk ?_
  refine lp (fun n S => ∃ (k : Nat), n = rs.length - k ∧ k ≤ rs.length ∧ S = ⟨[(4, .r (I k)), (0, .r (L rs)), (3, .r (I (ampl (rs.take k))))], []⟩) rs.length ?_ ?_
  · exact wx 0 ⟨0, rfl, by omega, rfl⟩
  rintro n S ⟨k, hn, hk, rfl⟩
  refine sq ?_
  refine sg ?_
  refine mv ?_
  refine mv ?_
  first | refine lnM ?_ | refine ln ?_ | refine lnO ?_ | refine lnN ?_ | refine lnW ?_
  refine bo ?_
  refine rNil ?_
  refine cn (fun h1 => ?_) (fun h1 => ?_)
  ·
    have hk1 : k < rs.length := by simp at h1; omega
    obtain ⟨r, hx⟩ := ex_get hk1
    have hsm := hs r (List.mem_of_getElem? hx)
    have he := exp_le hsm
    have ha := ampl_le (rs.take k) (fun x hx => hs x (List.mem_of_mem_take hx))
    rw [List.length_take] at ha
    have ha2 : ampl (rs.take k) ≤ 4515000 := by
      have : min k rs.length * 90300 ≤ 50 * 90300 := Nat.mul_le_mul_right _ (by omega)
      omega
    refine awp_skip ?_
    refine tn ?_
    refine sq ?_
    refine bk ?_
    refine rg ?_
    refine mv ?_
    refine mv ?_
    refine mv ?_
    first | refine xs_ ?_ | refine xo ?_ | refine xw ?_
    first | refine lAf ?_ | refine lAb ?_ | refine lAo ?_
    refine cl (c22 r hsm.1 hsm.2.1 hsm.2.2) ?_
    first | refine lnM ?_ | refine ln ?_ | refine lnO ?_ | refine lnN ?_ | refine lnW ?_
    refine bo ?_
    refine as_ ?_
    refine rNil ?_
    refine bn_ ?_
    refine tn ?_
    refine rg ?_
    refine mv ?_
    refine bo ?_
    refine as_ ?_
    refine rNil ?_
    refine tn ?_
    exact ⟨rs.length - (k + 1), by omega, wx 0 ⟨k + 1, rfl, by omega, by rw [ampl_snoc hx]; rfl⟩⟩ -- LEAF 1: round of loop 1
  ·
    refine awp_exit ?_
    refine te ?_
    refine te ?_
    refine xbk ?_
    refine tn ?_
    refine sg ?_
    refine mv ?_
    refine as_ ?_
    refine rNil ?_
    refine awp_ret ?_
    have hkk : k = rs.length := by simp at h1; omega
    subst hkk
    exact ⟨.inr rfl, _, (.cons (by first | exact .v (by ((repeat apply Look.there rfl); exact Look.here)) (.f (.v _)) | exact .v (by ((repeat apply Look.there rfl); exact Look.here)) (.row rfl rfl) | exact .v (by ((repeat apply Look.there rfl); exact Look.here)) (.f .nil) | exact .a (by ((repeat apply Look.there rfl); exact Look.here)) | skip) .nil), by rw [List.take_length]; rfl⟩ -- LEAF 2: ret

end Go.Proofs.Ytolbhipnbhehdaa.VS
