/- The walks of functions: what each computes, by itself. Conditions: none. -/
import Derived.Test.YtnhljpbpfaablaaF15
set_option linter.unusedVariables false
set_option linter.unusedSimpArgs false
namespace Go.Proofs.Ytnhljpbpfaablaa.VS
open Go
def men (q : Pr) : Bool := q.y != -2
def IvOk (ls : List Pr) (L : Nat) : Prop := ls.length ≤ 8192 ∧ L ≤ 16384 ∧ ∀ q ∈ ls, -1 ≤ q.x ∧ q.x < L ∧ (q.y = -2 ∨ (0 ≤ q.y ∧ q.y < L ∧ q.x ≤ q.y))
def ordK (ls : List Pr) (k : Nat) : List Int := ((List.range k).filter fun r => men (ls.getD r ⟨0, 0⟩)).map fun r : Nat => (r : Int)
theorem ordK_succ {ls : List Pr} {k : Nat} : ordK ls (k + 1) = ordK ls k ++ (if men (ls.getD k ⟨0, 0⟩) = true then [(k : Int)] else []) := by
  unfold ordK
  rw [List.range_succ, List.filter_append, List.map_append]
  congr 1
  by_cases h : men (ls.getD k ⟨0, 0⟩) = true
  · rw [if_pos h, List.filter_cons, if_pos h]; rfl
  · rw [if_neg h, List.filter_cons, if_neg h]; rfl
theorem ordK_len (ls : List Pr) : ∀ k, (ordK ls k).length ≤ k
  | 0 => Nat.le_refl _
  | k + 1 => by rw [ordK_succ, List.length_append]; have := ordK_len ls k; split <;> simp <;> omega
theorem ordK_mem {ls : List Pr} {k : Nat} {z : Int} (h : z ∈ ordK ls k) : 0 ≤ z ∧ z < k ∧ men (ls.getD z.toNat ⟨0, 0⟩) = true := by
  unfold ordK at h
  obtain ⟨r, hr, rfl⟩ := List.mem_map.1 h
  obtain ⟨h1, h2⟩ := List.mem_filter.1 hr
  have h3 := List.mem_range.1 h1
  refine ⟨by omega, by omega, ?_⟩
  rw [Int.toNat_natCast]; exact h2
theorem ordK_inc (ls : List Pr) : ∀ k, Inc (ordK ls k)
  | 0 => List.Pairwise.nil
  | k + 1 => by
    rw [ordK_succ]
    refine List.pairwise_append.2 ⟨ordK_inc ls k, by split; exact List.pairwise_singleton _ _; exact List.Pairwise.nil, fun a ha b hb => ?_⟩
    have h1 := ordK_mem ha
    split at hb
    · rw [List.mem_singleton.1 hb]; omega
    · cases hb
def ordF (ls : List Pr) : List Int := lexs ls (ordK ls ls.length)
def fnN (s : Int) : List Int → Nat
  | [] => 0
  | x :: l => if x ≥ s then 1 + fnN s l else 0
theorem fnN_le (s : Int) : ∀ l : List Int, fnN s l ≤ l.length
  | [] => Nat.le_refl _
  | x :: l => by rw [fnN, List.length_cons]; have := fnN_le s l; split <;> omega
def gst (ls : List Pr) (st : List Int × List Int) (r : Int) : List Int × List Int :=
  ((if fnN (kx ls r) st.1 = st.1.length then st.1 ++ [0] else st.1).set (fnN (kx ls r) st.1) (ls.getD r.toNat ⟨0, 0⟩).y, st.2.set r.toNat (fnN (kx ls r) st.1 : Nat))
def greedy (ls : List Pr) (l : List Int) : List Int × List Int := l.foldl (gst ls) ([], List.replicate ls.length (-1))
def asg (ls : List Pr) : List Int := (greedy ls (ordF ls)).2
theorem gd_of {ls : List Pr} {L : Nat} (h : IvOk ls L) {z : Int} (h0 : 0 ≤ z) (h1 : z < ls.length) : Gd ls z := by
  obtain ⟨_, h3, h4⟩ := h
  refine ⟨h0, h1, ?_⟩
  have hm : ls.getD z.toNat ⟨0, 0⟩ ∈ ls := by rw [List.getD_eq_getElem?_getD, List.getElem?_eq_getElem (by omega)]; exact List.getElem_mem _
  have := h4 _ hm
  unfold kx
  omega
theorem getD_at {ls : List Pr} {i : Nat} {q : Pr} (h : ls[i]? = some q) : ls.getD i ⟨0, 0⟩ = q := by rw [List.getD_eq_getElem?_getD, h]; rfl
theorem gst_len (ls : List Pr) : ∀ (l : List Int) (st : List Int × List Int), (l.foldl (gst ls) st).1.length ≤ st.1.length + l.length ∧ (l.foldl (gst ls) st).2.length = st.2.length
  | [], st => ⟨by simp, rfl⟩
  | r :: l, st => by
    rw [List.foldl_cons]
    have := gst_len ls l (gst ls st r)
    have h1 : (gst ls st r).1.length ≤ st.1.length + 1 := by unfold gst; simp only [List.length_set]; split <;> simp
    have h2 : (gst ls st r).2.length = st.2.length := by unfold gst; simp
    rw [List.length_cons]
    omega
theorem scan_le : ∀ (l : List Ins) (n e : Int), scan n e l ≤ e + l.length
  | [], n, e => by rw [scan]; simp
  | x :: l, n, e => by
    rw [scan, List.length_cons]
    split
    · omega
    · have := scan_le l (n + lpI x) (e + 1); omega
theorem ends_bd : ∀ (l : List Ins) (d i : Int), 0 ≤ i → ∀ e ∈ ends d i l, e < i + l.length
  | [], d, i, _, e, he => by cases he
  | x :: l, d, i, hi, e, he => by
    rw [ends] at he
    rw [List.length_cons]
    rcases List.mem_cons.1 he with h | h
    · subst h
      unfold endA
      by_cases hc : d + (if x.op = 46 then 1 else 0) > 0
      · rw [if_pos hc]; have := scan_le l (d + lpI x) i; omega
      · rw [if_neg hc]; omega
    · have := ends_bd l (d + lpI x) (i + 1) (by omega) e h
      omega
theorem ivK_bd {code : List Ins} {ds es : List Int} {r : Int} (he : ∀ e ∈ es, e < code.length) : ∀ k, k ≤ code.length → -1 ≤ (ivK code ds es r k).x ∧ (ivK code ds es r k).x < k ∧ ((ivK code ds es r k).y = -2 ∨ (0 ≤ (ivK code ds es r k).y ∧ (ivK code ds es r k).y < code.length ∧ (ivK code ds es r k).x ≤ (ivK code ds es r k).y))
  | 0, _ => ⟨Int.le_refl _, by show (-1 : Int) < ((0 : Nat) : Int); decide, .inl rfl⟩
  | k + 1, hk => by
    obtain ⟨h1, h2, h3⟩ := ivK_bd (ds := ds) (r := r) he k (by omega)
    rw [ivK]
    split
    · rename_i x hx
      have hen : es.getD k 0 < code.length := by
        rw [List.getD_eq_getElem?_getD]
        cases h : es[k]? with
        | none => simp; omega
        | some e => exact he e (List.mem_of_getElem? h)
      unfold stepI
      split
      · refine ⟨?_, ?_, .inr ⟨?_, ?_, ?_⟩⟩ <;> simp only <;> first | (split <;> omega) | omega
      · exact ⟨h1, by omega, h3⟩
    · exact ⟨h1, by omega, h3⟩
theorem ivs_ok {p : Prg} (h : validF p = 0) : IvOk (ivs p) p.code.length := by
  obtain ⟨hs, hl, _, _⟩ := valid_of h
  obtain ⟨_, _, _, _, _, _, _, _, _, _, hr0, hr1⟩ := hs
  refine ⟨by unfold ivs; simp; omega, hl, fun q hq => ?_⟩
  obtain ⟨r, _, rfl⟩ := List.mem_map.1 hq
  exact ivK_bd (fun e he => by have := ends_bd p.code 0 0 (Int.le_refl _) e he; omega) _ (Nat.le_refl _)
theorem ivF_ok (p : Prg) : ∃ L, IvOk (ivF p) L := by
  by_cases h : validF p = 0
  · exact ⟨_, by rw [ivF, if_pos h]; exact ivs_ok h⟩
  · refine ⟨0, ?_⟩
    rw [ivF, if_neg h]
    exact ⟨by simp, by decide, fun q hq => by cases hq⟩
theorem asg_nil : asg [] = [] := by
  have : ordF [] = [] := by unfold ordF; rw [lexs_one (by simp [ordK])]; simp [ordK]
  unfold asg greedy
  rw [this]; rfl
theorem rep_set {k n : Nat} (h : k < n) : (List.replicate k (-1 : Int) ++ List.replicate (n - k) 0).set k (-1) = List.replicate (k + 1) (-1) ++ List.replicate (n - (k + 1)) 0 := by
  rw [List.set_append, if_neg (by simp), List.length_replicate, Nat.sub_self, show n - k = (n - (k + 1)) + 1 by omega, List.replicate_succ, List.set_cons_zero, List.replicate_succ' (n := k), List.append_assoc]; rfl
theorem fnN_drop {s x : Int} {u : List Int} {c : Nat} (h : u[c]? = some x) (hx : x ≥ s) (hf : fnN s u = c + fnN s (u.drop c)) : fnN s u = (c + 1) + fnN s (u.drop (c + 1)) := by
  rw [hf, drop_at h, fnN, if_pos hx]; omega
/-- frustum/regalloc.Assign -/
theorem c17 (p : Prg) : Fn Try.prog 17 [A p] (.one (L (asg (ivF p)))) := by
  refine fnI Try.func17 Try.ntmps17 fun hb => ?_
  refine sg ?_
  refine bx _ ?_
  refine as_ ?_
  refine rNil ?_
  refine sg ?_
  first | refine lAf ?_ | refine lAb ?_ | refine lAo ?_
  refine cl (c11 p) ?_
  refine al _ ?_
  first | refine s1 ?_ | refine s1w ?_ | refine soI ?_
  refine rNil ?_
  refine sq ?_
  obtain ⟨L0, hok⟩ := ivF_ok p
  generalize hls : ivF p = ls at *
  refine nilB 1 rfl (by ((repeat apply SetAt.there); exact SetAt.here)) (by ((repeat apply SetAt.there); exact SetAt.here)) (fun hnil => ?_) ?_
  · refine sg ?_
    refine l1b ?_
    refine nq ?_
    refine rNil ?_
    refine cn (fun h1 => ?_) (fun h1 => ?_)
    · refine sg ?_
      refine as_ ?_
      refine rNil ?_
      refine awp_ret ?_
      refine tr ?_
      have hl0 : ls = [] := by simpa using hnil
      exact ⟨.inr rfl, _, (.cons (.v (by ((repeat apply Look.there rfl); exact Look.here)) (.f .nil)) .nil), by rw [hl0, asg_nil]; rfl⟩
    · exact absurd h1 (by decide)
  refine sg ?_
  first | refine l1f ?_ | refine l1b ?_ | refine l1o ?_ | refine ldI ?_
  refine nq ?_
  refine rNil ?_
  refine cn (fun h1 => ?_) (fun h1 => ?_)
  ·
    exact absurd h1 (by decide) -- END
  ·
    refine unB 1 ?_
    have hl1 := hok.1
    refine awp_skip ?_
    refine tn ?_
    refine sg ?_
    refine as_ ?_
    refine rNil ?_
    refine sg ?_
    first | refine l1f ?_ | refine l1b ?_ | refine l1o ?_ | refine ldI ?_
    first | refine lnM ?_ | refine ln ?_ | refine lnO ?_ | refine lnN ?_ | refine lnW ?_ | refine lnS ?_
    refine mk 2 (n := ls.length) ?_
    refine as_ ?_
    refine rNil ?_
    refine sq ?_
    refine sg ?_
    first | refine l1f ?_ | refine l1b ?_ | refine l1o ?_ | refine ldI ?_
    first | refine lnM ?_ | refine ln ?_ | refine lnO ?_ | refine lnN ?_ | refine lnW ?_ | refine lnS ?_
    refine mv ?_
    refine rNil ?_
    refine bk ?_
    refine adN 3 4 3 1 ?_
    refine lp (fun m S => ∃ k : Nat, m = ls.length - k ∧ k ≤ ls.length ∧ S = ⟨[(21, .r (I k)), (20, .r (I ls.length)), (19, .r (L ls)), (5, .own 2 ls.length), (4, .own 3 (ordK ls k).length), (3, .box 1 0), (1, .box 0 0)], [bxP p, .box 28 [.r (L ls)], .row 3 1 ((List.replicate k (-1) ++ List.replicate (ls.length - k) 0).map Enc.c), .row 3 1 ((ordK ls k).map Enc.c)]⟩) ls.length ?_ ?_
    · exact wy 4 ⟨0, rfl, Nat.zero_le _, rfl⟩ (by rw [List.replicate_zero, List.nil_append, Nat.sub_zero, List.map_replicate]; rfl)
    rintro m S ⟨k, hm, hk, rfl⟩
    have hol := ordK_len ls k
    refine sg ?_
    refine bo (hz := by exact rfl) ?_
    refine rNil ?_
    refine sq ?_
    refine cn (fun h2 => ?_) (fun h2 => ?_)
    ·
      have hk' : k < ls.length := by simpa using h2
      obtain ⟨q, hq⟩ := ex_get hk'
      have hq' : ls[k]? = some q := by simpa using hq
      have hgq := getD_at hq'
      refine awp_skip ?_
      refine tn ?_
      refine sq ?_
      refine bk ?_
      refine sg ?_
      refine mv ?_
      first | refine xs_ ?_ | refine xo ?_ | refine xw ?_ | refine xsl ?_
      first | refine lAf ?_ | refine lAb ?_ | refine lAo ?_
      refine al _ ?_
      refine as_ ?_
      refine sA ?_
      refine rNil ?_
      refine sg ?_
      refine mv ?_
      refine mv ?_
      first | refine xs_ ?_ | refine xo ?_ | refine xw ?_ | refine xsl ?_
      first | refine s1 ?_ | refine s1w ?_ | refine soI ?_
      refine rNil ?_
      refine sg ?_
      first | refine lAf ?_ | refine lAb ?_ | refine lAo ?_
      refine cl (c33 q) ?_
      refine rNil ?_
      refine cn (fun h3 => ?_) (fun h3 => ?_)
      ·
        refine rg ?_
        refine mv ?_
        refine mv ?_
        refine bs ?_
        first | refine ap ?_ | refine (apN _) ?_
        refine as_ ?_
        refine rNil ?_
        refine bn_ ?_
        refine tn ?_
        refine rg ?_
        refine bo (hz := by first | exact bop_add (by omega) (by omega) | exact rfl) ?_
        refine mv ?_
        refine rNil ?_
        refine tn ?_
        have hmn : men (ls.getD k ⟨0, 0⟩) = true := by rw [hgq]; exact h3
        exact ⟨ls.length - (k + 1), by omega, wy 4 ⟨k + 1, rfl, by omega, by rw [ordK_succ, if_pos hmn, List.length_append]⟩ (by
          show [_, _, Ent.row 3 1 (List.map Enc.c (List.set _ ((k : Int).toNat * 1) _)), _] = _
          rw [show (k : Int).toNat * 1 = k by omega, rep_set hk']; simp; try rfl)⟩ -- LEAF 1: round of loop 1
      ·
        refine awp_skip ?_
        refine bn_ ?_
        refine tn ?_
        refine rg ?_
        refine bo (hz := by first | exact bop_add (by omega) (by omega) | exact rfl) ?_
        refine mv ?_
        refine rNil ?_
        refine tn ?_
        have hmn : ¬ men (ls.getD k ⟨0, 0⟩) = true := by rw [hgq]; simpa [men] using h3
        exact ⟨ls.length - (k + 1), by omega, wy 4 ⟨k + 1, rfl, by omega, by rw [ordK_succ, if_neg hmn, List.append_nil]⟩ (by
          show [_, _, Ent.row 3 1 (List.map Enc.c (List.set _ ((k : Int).toNat * 1) _)), _] = _
          rw [show (k : Int).toNat * 1 = k by omega, rep_set hk'])⟩ -- LEAF 2: round of loop 1
    ·
      have hk' : k = ls.length := by simp at h2; omega
      subst hk'
      rw [Nat.sub_self, List.replicate_zero, List.append_nil]
      have hordl : (ordF ls).length = (ordK ls ls.length).length := lexs_len _ _
      have hordg : ∀ z ∈ ordF ls, 0 ≤ z ∧ z < ls.length := fun z hz => by have := ordK_mem (lexs_mem.1 hz); omega
      refine awp_exit ?_
      refine te ?_
      refine te ?_
      refine xbk ?_
      refine tn ?_
      refine sgX 2 ?_
      refine mv ?_
      refine mf ?_
      refine rNil ?_
      refine cxT (c34 p ls (List.replicate ls.length (-1)) (ordK ls ls.length) [] rfl (ordK_inc ls _) (fun z hz => gd_of hok (ordK_mem hz).1 (ordK_mem hz).2.1) (by omega)) rfl ?_
      rw [show lexs ls (ordK ls ls.length) = ordF ls from rfl, ← hordl]
      refine rNil ?_
      refine sg ?_
      refine as_ ?_
      refine rNil ?_
      refine sq ?_
      refine sg ?_
      refine mv ?_
      first | refine lnM ?_ | refine ln ?_ | refine lnO ?_ | refine lnN ?_ | refine lnW ?_ | refine lnS ?_
      refine mv ?_
      refine rNil ?_
      refine bk ?_
      generalize hord : ordF ls = od at *
      refine adN 4 8 3 1 ?_
      refine lp (fun m S => ∃ (j : Nat) (st : List Int × List Int), m = od.length - j ∧ j ≤ od.length ∧ st = (od.take j).foldl (gst ls) ([], List.replicate ls.length (-1)) ∧ st.1.length ≤ j ∧ st.2.length = ls.length ∧ S = ⟨[(41, .r (I j)), (40, .r (I od.length)), (39, .own 3 od.length), (8, .own 4 st.1.length), (5, .own 2 ls.length), (3, .box 1 0), (1, .box 0 0)], [bxP p, .box 28 [.r (L ls)], .row 3 1 (st.2.map Enc.c), .row 3 1 (od.map Enc.c), .row 3 1 (st.1.map Enc.c)]⟩) od.length ?_ ?_
      · exact wy 5 ⟨0, ([], List.replicate ls.length (-1)), rfl, Nat.zero_le _, rfl, Nat.le_refl _, by simp, rfl⟩ rfl
      rintro m2 S ⟨j, ⟨u, o⟩, hm2, hj, hst, hul, hol2, rfl⟩
      simp only at hul hol2
      have hul2 : u.length ≤ 8192 := by omega
      refine sg ?_
      refine bo (hz := by exact rfl) ?_
      refine rNil ?_
      refine sq ?_
      refine cn (fun h4 => ?_) (fun h4 => ?_)
      ·
        have hj' : j < od.length := by simpa using h4
        obtain ⟨r, hr⟩ : ∃ r, od[j]? = some r := ⟨od[j], by simp⟩
        have hrm := hordg r (List.mem_of_getElem? hr)
        have hrg : od.getD ((j : Int).toNat * 1) 0 = r := by rw [show (j : Int).toNat * 1 = j by omega, List.getD_eq_getElem?_getD, hr]; rfl
        obtain ⟨q, hq⟩ : ∃ q, ls[r.toNat]? = some q := ⟨ls[r.toNat]'(by omega), List.getElem?_eq_getElem _⟩
        have hkq : kx ls r = q.x := by unfold kx; rw [getD_at hq]
        have hst2 : (od.take (j + 1)).foldl (gst ls) ([], List.replicate ls.length (-1)) = gst ls (u, o) r := by rw [take_snoc hr, List.foldl_append, ← hst]; rfl
        have hfl := fnN_le q.x u
        refine awp_skip ?_
        refine tn ?_
        refine sq ?_
        refine bk ?_
        refine sg ?_
        first | refine xs_ ?_ | refine xo ?_ | refine xw ?_ | refine xsl ?_
        first | refine l1f ?_ | refine l1b ?_ | refine l1o ?_ | refine ldI ?_
        rw [hrg]
        refine as_ ?_
        refine rNil ?_
        refine sg ?_
        refine as_ ?_
        refine rNil ?_
        refine jn (fun S => S = ⟨[(11, .r (I (fnN q.x u : Nat))), (10, .r (I r)), (41, .r (I j)), (40, .r (I od.length)), (39, .own 3 od.length), (8, .own 4 u.length), (5, .own 2 ls.length), (3, .box 1 0), (1, .box 0 0)], [bxP p, .box 28 [.r (L ls)], .row 3 1 (o.map Enc.c), .row 3 1 (od.map Enc.c), .row 3 1 (u.map Enc.c)]⟩) ?_ ?_
        ·
          refine bk ?_
          refine lp (fun m S => ∃ c : Nat, m = u.length - c ∧ c ≤ u.length ∧ fnN q.x u = c + fnN q.x (u.drop c) ∧ S = ⟨[(11, .r (I c)), (10, .r (I r)), (41, .r (I j)), (40, .r (I od.length)), (39, .own 3 od.length), (8, .own 4 u.length), (5, .own 2 ls.length), (3, .box 1 0), (1, .box 0 0)], [bxP p, .box 28 [.r (L ls)], .row 3 1 (o.map Enc.c), .row 3 1 (od.map Enc.c), .row 3 1 (u.map Enc.c)]⟩) u.length ?_ ?_
          · exact wx 5 ⟨0, rfl, Nat.zero_le _, by simp, rfl⟩
          rintro m3 S ⟨c, hm3, hc, hf, rfl⟩
          refine sq ?_
          refine sd mixO ?_
          refine mv ?_
          refine mv ?_
          first | refine lnM ?_ | refine ln ?_ | refine lnO ?_ | refine lnN ?_ | refine lnW ?_ | refine lnS ?_
          refine bo (hz := by exact rfl) ?_
          refine mv ?_
          refine gd (fun h5 => ?_) (fun h5 => ?_)
          ·
            have hcl : c < u.length := by simpa using h5
            obtain ⟨z, hz⟩ : ∃ z, u[c]? = some z := ⟨u[c], by simp⟩
            have hzg : u.getD ((c : Int).toNat * 1) 0 = z := by rw [show (c : Int).toNat * 1 = c by omega, List.getD_eq_getElem?_getD, hz]; rfl
            refine mv ?_
            refine mv ?_
            first | refine xs_ ?_ | refine xo ?_ | refine xw ?_ | refine xsl ?_
            first | refine l1f ?_ | refine l1b ?_ | refine l1o ?_ | refine ldI ?_
            first | refine l1f ?_ | refine l1b ?_ | refine l1o ?_ | refine ldI ?_
            refine mv ?_
            first | refine xs_ ?_ | refine xo ?_ | refine xw ?_ | refine xsl ?_
            first | refine xf ?_ | refine xb ?_ | refine xoa ?_
            first | refine l1f ?_ | refine l1b ?_ | refine l1o ?_ | refine ldI ?_
            refine bo (hz := by exact rfl) ?_
            refine pkT ?_
            refine rNil ⟨rfl, ?_⟩
            refine cn (fun h6 => ?_) (fun h6 => ?_)
            ·
              have hge : z ≥ q.x := by rw [hzg] at h6; simpa using h6
              refine awp_skip ?_
              refine tn ?_
              refine bk ?_
              refine rg ?_
              refine mv ?_
              refine bo (hz := by first | exact bop_add (by omega) (by omega) | exact rfl) ?_
              refine as_ ?_
              refine rNil ?_
              refine bn_ ?_
              refine tn ?_
              exact ⟨u.length - (c + 1), by omega, wx 5 ⟨c + 1, rfl, by omega, fnN_drop hz hge hf, rfl⟩⟩ -- LEAF 3: round of loop 3
            ·
              have hge : ¬ z ≥ q.x := by rw [hzg] at h6; simpa using h6
              refine awp_exit ?_
              refine te ?_
              refine te ?_
              refine xbk ?_
              refine tn ?_
              exact wx 5 (by rw [show fnN q.x u = c by rw [hf, drop_at hz, fnN, if_neg hge]; rfl]; rfl) -- LEAF 4: join
          ·
            have hcl : c = u.length := by simp at h5; omega
            refine no ?_
            refine no ?_
            refine no ?_
            refine no ?_
            refine no ?_
            refine no ?_
            refine no ?_
            refine no ?_
            refine no ?_
            refine no ?_
            refine pkF ?_
            refine rNil ⟨rfl, ?_⟩
            refine cn (fun h7 => ?_) (fun h7 => ?_)
            ·
              first | exact absurd h7 (by decide) | (exfalso; simp_all; done)
            ·
              refine awp_exit ?_
              refine te ?_
              refine te ?_
              refine xbk ?_
              refine tn ?_
              exact wx 5 (by rw [show fnN q.x u = c by rw [hf, hcl, List.drop_length]; rfl]; rfl) -- LEAF 5: join
        ·
          rintro S rfl
          refine jn (fun S => ∃ u2 : List Int, u2 = (if fnN q.x u = u.length then u ++ [0] else u) ∧ S = ⟨[(11, .r (I (fnN q.x u : Nat))), (10, .r (I r)), (41, .r (I j)), (40, .r (I od.length)), (39, .own 3 od.length), (8, .own 4 u2.length), (5, .own 2 ls.length), (3, .box 1 0), (1, .box 0 0)], [bxP p, .box 28 [.r (L ls)], .row 3 1 (o.map Enc.c), .row 3 1 (od.map Enc.c), .row 3 1 (u2.map Enc.c)]⟩) ?_ ?_
          ·
            refine sg ?_
            refine mv ?_
            refine mv ?_
            first | refine lnM ?_ | refine ln ?_ | refine lnO ?_ | refine lnN ?_ | refine lnW ?_ | refine lnS ?_
            refine bo (hz := by exact rfl) ?_
            refine rNil ?_
            refine cn (fun h8 => ?_) (fun h8 => ?_)
            ·
              refine rg ?_
              refine mv ?_
              refine bs ?_
              first | refine ap ?_ | refine (apN _) ?_
              refine as_ ?_
              refine rNil ?_
              refine tn ?_
              have he : fnN q.x u = u.length := by simp at h8; omega
              exact wy 5 ⟨u ++ [0], by rw [if_pos he], rfl⟩ (by simp; rfl) -- LEAF 6: join
            ·
              refine awp_skip ?_
              refine tn ?_
              have he : fnN q.x u ≠ u.length := by simp at h8; omega
              exact wx 5 ⟨u, by rw [if_neg he], rfl⟩ -- LEAF 7: join
          ·
            rintro S ⟨u2, hu2, rfl⟩
            have hu2l : fnN q.x u < u2.length := by rw [hu2]; split <;> first | (rw [List.length_append, List.length_singleton]; omega) | omega
            have hu2l2 : u2.length ≤ u.length + 1 := by rw [hu2]; split <;> simp
            have hg : gst ls (u, o) r = (u2.set (fnN q.x u) q.y, o.set r.toNat (fnN q.x u : Nat)) := by unfold gst; rw [hkq, getD_at hq, hu2]
            refine sg ?_
            refine mv ?_
            refine mv ?_
            first | refine l1f ?_ | refine l1b ?_ | refine l1o ?_ | refine ldI ?_
            refine mv ?_
            first | refine xs_ ?_ | refine xo ?_ | refine xw ?_ | refine xsl ?_
            first | refine xf ?_ | refine xb ?_ | refine xoa ?_
            first | refine l1f ?_ | refine l1b ?_ | refine l1o ?_ | refine ldI ?_
            first | refine xs_ ?_ | refine xo ?_ | refine xw ?_ | refine xsl ?_
            first | refine s1 ?_ | refine s1w ?_ | refine soI ?_
            refine rNil ?_
            refine rg ?_
            refine mv ?_
            refine mv ?_
            refine mv ?_
            first | refine xs_ ?_ | refine xo ?_ | refine xw ?_ | refine xsl ?_
            first | refine s1 ?_ | refine s1w ?_ | refine soI ?_
            refine rNil ?_
            refine bn_ ?_
            refine tn ?_
            refine rg ?_
            refine bo (hz := by first | exact bop_add (by omega) (by omega) | exact rfl) ?_
            refine mv ?_
            refine rNil ?_
            refine tn ?_
            exact ⟨od.length - (j + 1), by omega, wy 5 ⟨j + 1, (u2.set (fnN q.x u) q.y, o.set r.toNat (fnN q.x u : Nat)), rfl, by omega, (hst2.trans hg).symm, by simp only [List.length_set]; omega, by simp only [List.length_set]; exact hol2, rfl⟩ (by
              show [_, _, Ent.row 3 1 (List.map Enc.c (List.set _ (r.toNat * 1) _)), _, Ent.row 3 1 (List.map Enc.c (List.set _ (((fnN q.x u : Nat) : Int).toNat * 1) _))] = _
              rw [Nat.mul_one, Nat.mul_one, Int.toNat_natCast])⟩ -- LEAF 8: round of loop 2
      ·
        have hj' : j = od.length := by simp at h4; omega
        rw [hj', List.take_length] at hst
        refine awp_exit ?_
        refine te ?_
        refine te ?_
        refine xbk ?_
        refine tn ?_
        refine sg ?_
        refine mv ?_
        refine as_ ?_
        refine rNil ?_
        refine awp_ret ?_
        exact ⟨.inr rfl, _, (.cons (by first | exact .v (by ((repeat apply Look.there rfl); exact Look.here)) (.f (.v _)) | exact .v (by ((repeat apply Look.there rfl); exact Look.here)) (.row rfl (by first | exact rfl | (simp; done) | (simp; omega))) | exact .v (by ((repeat apply Look.there rfl); exact Look.here)) (.f .nil) | exact .a (by ((repeat apply Look.there rfl); exact Look.here)) | skip) .nil), (by rw [asg, greedy, hord, ← hst]; rfl)⟩ -- LEAF 9: ret

end Go.Proofs.Ytnhljpbpfaablaa.VS
