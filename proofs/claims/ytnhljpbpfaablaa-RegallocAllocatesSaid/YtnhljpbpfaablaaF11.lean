/- The walks of functions: what each computes, by itself. Conditions: none. -/
import Derived.Test.YtnhljpbpfaablaaF10
import Derived.Test.YtnhljpbpfaablaaV29
set_option linter.unusedVariables false
set_option linter.unusedSimpArgs false
namespace Go.Proofs.Ytnhljpbpfaablaa.VS
open Go
theorem om_y (j : Int) : ∀ (l : List Ins) (d f i : Int), j ≤ i → ∀ q ∈ om d f i l, j ≤ q.y
  | [], d, f, i, _, q, hq => by cases hq
  | x :: l, d, f, i, hi, q, hq => by
    rw [om] at hq
    repeat' split at hq
    all_goals first | exact om_y j l _ _ _ (by omega) q hq | skip
    rcases List.mem_cons.1 hq with h | h
    · subst h; exact hi
    · exact om_y j l _ _ _ (by omega) q h
theorem om_x (j : Int) : ∀ (l : List Ins) (d f i : Int), j ≤ i → (d ≤ 0 ∨ j ≤ f) → ∀ q ∈ om d f i l, j ≤ q.x
  | [], d, f, i, _, _, q, hq => by cases hq
  | x :: l, d, f, i, hi, hd, q, hq => by
    rw [om] at hq
    split at hq
    · exact om_x j l _ _ _ (by omega) (by split <;> omega) q hq
    split at hq
    · split at hq
      · rcases List.mem_cons.1 hq with h | h
        · subst h; show j ≤ f; omega
        · exact om_x j l _ _ _ (by omega) (by omega) q h
      · exact om_x j l _ _ _ (by omega) (by omega) q hq
    · exact om_x j l _ _ _ (by omega) (by omega) q hq
theorem om_head {p : Prg} : ∀ (l : List Ins) (st : List Int) (f i : Int), vrun p l st = 0 → 0 < n3 st → ∃ t, om (n3 st) f i l = ⟨f, scan (n3 st) (i - 1) l⟩ :: t
  | [], st, f, i, h, h0 => by
    rw [vrun] at h
    split at h
    · rename_i he; subst he; exact absurd h0 (by decide)
    · cases h
  | x :: l, st, f, i, h, h0 => by
    obtain ⟨st', _, _, h3, h4, _⟩ := vstep h
    rw [om, scan, if_neg (show ¬ n3 st ≤ 0 by omega)]
    have ih := om_head l st' f (i + 1) h3
    by_cases h46 : x.op = 46
    · have e : lpI x = 1 := by simp [lpI, h46]
      rw [if_pos h46, if_neg (by omega), e]
      rw [e] at h4
      obtain ⟨t, ht⟩ := ih (by omega)
      exact ⟨t, by rw [← h4, ht]; congr 3; omega⟩
    rw [if_neg h46]
    by_cases h49 : x.op = 49
    · have e : lpI x = -1 := by simp [lpI, h49]
      rw [if_pos h49, e]
      rw [e] at h4
      by_cases h1 : n3 st - 1 = 0
      · rw [if_pos h1, scan_done (by omega)]
        exact ⟨_, by congr 2; omega⟩
      · rw [if_neg h1]
        have := n3_nonneg st'
        obtain ⟨t, ht⟩ := ih (by omega)
        exact ⟨t, by rw [show n3 st - 1 = n3 st' by omega, ht, show n3 st + -1 = n3 st' by omega]; congr 3; omega⟩
    · have e : lpI x = 0 := by simp [lpI, h46, h49]
      rw [if_neg h49, e]
      rw [e] at h4
      obtain ⟨t, ht⟩ := ih (by omega)
      exact ⟨t, by rw [show n3 st = n3 st' by omega, ht]; congr 3; omega⟩
theorem scan_ge : ∀ (l : List Ins) (n e : Int), e ≤ scan n e l
  | [], n, e => Int.le_refl _
  | x :: l, n, e => by
    rw [scan]
    split
    · exact Int.le_refl _
    · have := scan_ge l (n + lpI x) (e + 1); omega
/-- The end of the outermost loop, by either road. -/
theorem last_ok {p : Prg} {x : Ins} {l : List Ins} {st : List Int} {f k : Int} (h : vrun p (x :: l) st = 0) (hf : 0 < n3 st → f < k) (hk : 0 ≤ k) :
    (∃ q t, om (n3 st) f k (x :: l) = q :: t ∧ q.x ≤ k ∧ q.y = max k (endA (n3 st) k x l)) ∨ ((∀ q ∈ om (n3 st) f k (x :: l), k < q.x) ∧ max k (endA (n3 st) k x l) = k) := by
  obtain ⟨st', _, _, h3, h4, _⟩ := vstep h
  have hn := n3_nonneg st
  have hn' := n3_nonneg st'
  rcases Int.lt_or_le 0 (n3 st) with h0 | h0
  · left
    obtain ⟨t, ht⟩ := om_head (x :: l) st f k h h0
    refine ⟨_, t, ht, by have := hf h0; show f ≤ k; omega, ?_⟩
    show scan (n3 st) (k - 1) (x :: l) = _
    rw [scan, if_neg (show ¬ n3 st ≤ 0 by omega), endA, if_pos (by split <;> omega), show k - 1 + 1 = k by omega]
    have := scan_ge l (n3 st + lpI x) k
    omega
  · by_cases h46 : x.op = 46
    · left
      have e : lpI x = 1 := by simp [lpI, h46]
      rw [e] at h4
      obtain ⟨t, ht⟩ := om_head l st' k (k + 1) h3 (by omega)
      refine ⟨⟨k, scan (n3 st') (k + 1 - 1) l⟩, t, ?_, Int.le_refl _, ?_⟩
      · rw [om, if_pos h46, if_pos (by omega), ← h4, ht]
      · show scan (n3 st') (k + 1 - 1) l = _
        rw [endA, if_pos (by rw [if_pos h46]; omega), e, ← h4, show k + 1 - 1 = k by omega]
        have := scan_ge l (n3 st') k
        omega
    · right
      have h49 : x.op ≠ 49 := fun e => by simp [lpI, e] at h4; omega
      refine ⟨fun q hq => ?_, ?_⟩
      · rw [om, if_neg h46, if_neg h49] at hq
        have := om_x (k + 1) l (n3 st) f (k + 1) (Int.le_refl _) (.inl h0) q hq
        omega
      · rw [endA, if_neg (by rw [if_neg h46]; omega)]
        omega
abbrev rowF (n : Nat) (F : Nat → Pr) : List (List FV) := ((List.range n).map F).map Enc.c
theorem rowF_at {n : Nat} {F : Nat → Pr} {j : Nat} (h : j < n) : ((List.range n).map F)[j]? = some (F j) := by simp [h]
theorem rowF_set {n : Nat} {F : Nat → Pr} {j : Nat} {q : Pr} : (rowF n F).set j (Enc.c q) = rowF n (fun r => if r = j then q else F r) := by
  apply List.ext_getElem (by simp)
  intro i h1 h2
  simp only [List.getElem_set, List.getElem_map, List.getElem_range]
  by_cases h : j = i
  · subst h; simp
  · rw [if_neg h, if_neg (fun e => h e.symm)]
theorem rowF_congr {n : Nat} {F G : Nat → Pr} (h : ∀ r < n, F r = G r) : rowF n F = rowF n G := by
  have : (List.range n).map F = (List.range n).map G := List.map_congr_left fun r hr => h r (List.mem_range.1 hr)
  show ((List.range n).map F).map Enc.c = ((List.range n).map G).map Enc.c
  rw [this]
def rdG (F : Nat → Pr) (us : List Int) (last : Int) (j r : Nat) : Pr := if (r : Int) ∈ us.take j then ⟨(F r).x, max (F r).y last⟩ else F r
theorem rdG_succ {F : Nat → Pr} {us : List Int} {last u : Int} {j : Nat} (hu : us[j]? = some u) (r : Nat) : rdG F us last (j + 1) r = if (r : Int) = u then ⟨(rdG F us last j r).x, max (rdG F us last j r).y last⟩ else rdG F us last j r := by
  unfold rdG
  rw [take_snoc hu]
  simp only [List.mem_append, List.mem_singleton]
  by_cases h1 : (r : Int) ∈ us.take j
  · by_cases h2 : (r : Int) = u
    · rw [if_pos (.inl h1), if_pos h2, if_pos h1]
      show Pr.mk _ _ = Pr.mk _ (max (max _ _) _)
      congr 1; omega
    · rw [if_pos (.inl h1), if_neg h2, if_pos h1]
  · by_cases h2 : (r : Int) = u
    · rw [if_pos (.inr h2), if_pos h2, if_neg h1]
    · rw [if_neg (by rintro (h | h) <;> contradiction), if_neg h2, if_neg h1]
theorem rdG_all {F : Nat → Pr} {x : Ins} {last : Int} (r : Nat) : rdG F (usesF x) last (usesF x).length r = if rdF x r = true then ⟨(F r).x, max (F r).y last⟩ else F r := by
  unfold rdG rdF
  rw [List.take_length]
  simp [List.contains_iff_mem]
theorem step_eq {c G : Pr} {r k dp en last : Int} {x : Ins} (hG : G = if rdF x r = true then ⟨c.x, max c.y last⟩ else c) (hk : 0 ≤ k) (hlast : last = max k en) :
    stepI r k dp en x c = if wrF x r = true then ⟨if G.y = -2 ∧ dp = 0 then k else G.x, max G.y last⟩ else G := by
  unfold stepI
  cases h1 : rdF x r <;> cases h2 : wrF x r <;> rw [h1] at hG
  · rw [if_neg (by decide)] at hG
    rw [if_neg (by decide), if_neg (by decide), hG]
  · rw [if_neg (by decide)] at hG
    subst hG
    rw [if_pos (by decide), if_pos rfl]
    have e : max (max G.y k) en = max G.y last := by omega
    rw [e]
    by_cases h3 : G.y = -2 ∧ dp = 0
    · rw [if_pos h3, if_pos ⟨h3.1, rfl, rfl, h3.2⟩]
    · rw [if_neg h3, if_neg (fun h => h3 ⟨h.1, h.2.2.2⟩)]
  · rw [if_pos rfl] at hG
    subst hG
    rw [if_pos (by decide), if_neg (show ¬ (c.y = -2 ∧ false = true ∧ true = false ∧ dp = 0) by rintro ⟨_, h, _⟩; cases h), if_neg (by decide)]
    congr 1; omega
  · rw [if_pos rfl] at hG
    subst hG
    rw [if_pos (by decide), if_pos rfl, if_neg (by rintro ⟨_, _, h, _⟩; cases h)]
    show Pr.mk _ _ = Pr.mk (if max c.y last = -2 ∧ dp = 0 then k else c.x) (max (max c.y last) last)
    rw [if_neg (by rintro ⟨h, _⟩; omega)]
    congr 1; omega
theorem ivK_inv {code : List Ins} {ds es : List Int} {r : Int} : ∀ k, (ivK code ds es r k).y = -2 → (ivK code ds es r k).x = -1
  | 0, _ => rfl
  | k + 1, h => by
    rw [ivK] at h ⊢
    split at h
    · rename_i x hx
      unfold stepI at h ⊢
      split at h
      · simp only at h; omega
      · rename_i hn; rw [if_neg hn]; exact ivK_inv k h
    · exact ivK_inv k h
theorem inF_iff {x lo hi : Int} : inF x lo hi = true ↔ lo ≤ x ∧ x ≤ hi := by simp [inF]
/-- The registers of a valid instruction. -/
theorem regs_ok {p : Prg} {x : Ins} (h : opnF p x = 0) : (∀ u ∈ usesF x, 0 ≤ u ∧ u < p.rg) ∧ (dF x.op = true → 0 ≤ x.dst ∧ x.dst < p.rg) := by
  have hr : rgOk p.rg x = true := by
    unfold opnF at h
    split at h
    · cases h
    split at h
    · cases h
    split at h
    · rename_i hh; exact hh.1
    · cases h
  unfold rgOk at hr
  simp only [Bool.and_eq_true, Bool.or_eq_true, Bool.not_eq_true', inF_iff] at hr
  obtain ⟨h1, h2, h3, h4⟩ := hr
  refine ⟨fun u hu => ?_, fun hd => ?_⟩
  · unfold usesF at hu
    rcases List.mem_append.1 hu with hu | hu
    · split at hu
      · rename_i ha; rw [List.mem_singleton.1 hu]; rw [ha] at h2; simp at h2; omega
      · cases hu
    rcases List.mem_append.1 hu with hu | hu
    · split at hu
      · rename_i ha; rw [List.mem_singleton.1 hu]; rw [ha] at h3; simp at h3; omega
      · cases hu
    · split at hu
      · rename_i ha; rw [List.mem_singleton.1 hu]; rw [ha] at h4; simp at h4; omega
      · cases hu
  · rw [hd] at h1; simp at h1; omega
def dpA (x : Ins) (d : Int) : Int := if x.op = 45 ∨ x.op = 49 ∨ x.op = 44 then d - 1 else d
theorem deps_step (x : Ins) (l : List Ins) (d : Int) : deps d (x :: l) = dpA x d :: deps (d + dpI x) l := by
  rw [deps]
  unfold dpA dpI
  by_cases h1 : x.op = 45 ∨ x.op = 49
  · rw [if_pos h1, if_pos (by omega), if_neg (by omega), if_pos h1]; rfl
  rw [if_neg h1]
  by_cases h2 : x.op = 44
  · rw [if_pos h2, if_pos (by omega), if_neg (by omega), if_neg h1, Int.add_zero]
  rw [if_neg h2]
  by_cases h3 : x.op = 43 ∨ x.op = 46
  · rw [if_pos h3, if_neg (by omega), if_pos h3]
  · rw [if_neg h3, if_neg (by omega), if_neg h3, if_neg h1, Int.add_zero]
theorem dst_dp {x : Ins} (h : dF x.op = true) (d : Int) : dpA x d = d ∧ d + (if x.op = 45 ∨ x.op = 49 then -1 else 0) = d := by
  simp [dF] at h
  unfold dpA
  rw [if_neg (by omega), if_neg (by omega)]
  exact ⟨rfl, Int.add_zero d⟩
theorem om_next (x : Ins) (l : List Ins) {d d' f k : Int} (h : d' = d + lpI x) (hf : 0 < d → f < k) (hd : 0 ≤ d) : ∃ f', (0 < d' → f' < k + 1) ∧ (om d f k (x :: l) = om d' f' (k + 1) l ∨ ∃ q : Pr, q.y < k + 1 ∧ om d f k (x :: l) = q :: om d' f' (k + 1) l) := by
  rw [om]
  unfold lpI at h
  by_cases h46 : x.op = 46
  · rw [if_pos h46] at h ⊢
    exact ⟨if d = 0 then k else f, fun _ => by by_cases h0 : d = 0 <;> simp [h0] <;> omega, .inl (by rw [h])⟩
  rw [if_neg h46] at h ⊢
  by_cases h49 : x.op = 49
  · rw [if_pos h49] at h ⊢
    by_cases h1 : d - 1 = 0
    · rw [if_pos h1]
      exact ⟨f, by omega, .inr ⟨⟨f, k⟩, by show k < k + 1; omega, by rw [h]; rfl⟩⟩
    · rw [if_neg h1]
      exact ⟨f, by omega, .inl (by rw [h]; rfl)⟩
  · rw [if_neg h49] at h ⊢
    exact ⟨f, by omega, .inl (by rw [h, Int.add_zero])⟩
theorem rows_eq {n : Nat} {e0 : Ent} {F G : Nat → Pr} {T : List Ent} (h : ∀ r < n, F r = G r) : (e0 :: .row 37 2 (rowF n F) :: T) = e0 :: .row 37 2 (rowF n G) :: T := by rw [rowF_congr h]
theorem rows_set {n : Nat} {e0 : Ent} {F G : Nat → Pr} {T : List Ent} {j : Nat} {cells : List FV} (q : Pr) (hq : cells = Enc.c q) (h : ∀ r < n, (if r = j then q else F r) = G r) : (e0 :: .row 37 2 ((rowF n F).set j cells) :: T) = e0 :: .row 37 2 (rowF n G) :: T := by
  rw [hq, rowF_set, rowF_congr h]
theorem rowF_rep (n : Nat) : List.replicate n (Enc.c (⟨0, 0⟩ : Pr)) = rowF n (fun r => if r < 0 then ⟨-1, -2⟩ else ⟨0, 0⟩) := by
  apply List.ext_getElem (by simp)
  intro i h1 h2
  simp
theorem cut1 {l : List Pr} : ((l.map Enc.c).drop 1).take ((l.map Enc.c).length - 1) = (l.drop 1).map (Enc.c (α := Pr)) := by
  rw [List.take_of_length_le (by simp), List.map_drop]
set_option maxHeartbeats 4000000 in
/-- frustum/regalloc.Intervals -/
theorem c11 (p : Prg) : Fn Try.prog 11 [A p] (.one (L (ivF p))) := by
  refine fnI Try.func11 Try.ntmps11 fun hb => ?_
  refine sg ?_
  refine bx _ ?_
  refine as_ ?_
  refine rNil ?_
  refine sq ?_
  refine sg ?_
  first | refine lAf ?_ | refine lAb ?_ | refine lAo ?_
  refine cl (c19 p) ?_
  refine bo (hz := by exact rfl) ?_
  refine rNil ?_
  refine cn (fun h1 => ?_) (fun h1 => ?_)
  ·
    have g1 : validF p ≠ 0 := by simpa using h1
    refine sg ?_
    refine as_ ?_
    refine rNil ?_
    refine awp_ret ?_
    refine tr ?_
    exact ⟨.inr rfl, _, (.cons (by first | exact .v (by ((repeat apply Look.there rfl); exact Look.here)) (.f (.v _)) | exact .v (by ((repeat apply Look.there rfl); exact Look.here)) (.row rfl (by first | exact rfl | (simp; done) | (simp; omega))) | exact .v (by ((repeat apply Look.there rfl); exact Look.here)) (.f .nil) | exact .a (by ((repeat apply Look.there rfl); exact Look.here)) | skip) .nil), (by rw [ivF, if_neg g1]; rfl)⟩ -- LEAF 1: ret
  ·
    have g1 : validF p = 0 := by simpa using h1
    obtain ⟨hs, hl, hv, _⟩ := valid_of g1
    have hs' := hs
    obtain ⟨_, _, _, _, _, _, _, _, _, _, hr0, hr1⟩ := hs'
    obtain ⟨n, hn⟩ : ∃ n : Nat, p.rg = n := ⟨p.rg.toNat, by omega⟩
    refine awp_skip ?_
    refine tn ?_
    refine sg ?_
    first | refine ff ?_ | refine fb ?_ | refine fo ?_
    first | refine l1f ?_ | refine l1b ?_ | refine l1o ?_
    refine mk 1 (n := n) ?_ (hx := by rw [← hn]; apply Opd.tmp; ((repeat apply Look.there rfl); exact Look.here))
    refine as_ ?_
    refine rNil ?_
    refine sq ?_
    refine sg ?_
    refine mv ?_
    first | refine lnM ?_ | refine ln ?_ | refine lnO ?_ | refine lnN ?_ | refine lnW ?_ | refine lnS ?_
    refine mv ?_
    refine rNil ?_
    refine bk ?_
    refine lp (fun m S => ∃ k : Nat, m = n - k ∧ k ≤ n ∧ S = ⟨[(22, .r (I k)), (21, .r (I n)), (3, .own 1 n), (1, .box 0 0)], [bxP p, .row 37 2 (rowF n fun r => if r < k then ⟨-1, -2⟩ else ⟨0, 0⟩)]⟩) n ?_ ?_
    · exact wy 2 ⟨0, rfl, Nat.zero_le _, rfl⟩ (by rw [← rowF_rep]; rfl)
    rintro m S ⟨k, hm, hk, rfl⟩
    refine sg ?_
    refine bo (hz := by exact rfl) ?_
    refine rNil ?_
    refine sq ?_
    refine cn (fun h2 => ?_) (fun h2 => ?_)
    ·
      have hk' : k < n := by simpa using h2
      refine awp_skip ?_
      refine tn ?_
      refine sq ?_
      refine bk ?_
      refine sg ?_
      refine mv ?_
      refine as_ ?_
      refine rNil ?_
      refine rg ?_
      refine mv ?_
      refine mv ?_
      refine buA ?_
      first | refine xs_ ?_ | refine xo ?_ | refine xw ?_ | refine xsl ?_
      refine soA k ?_
      refine rNil ?_
      refine bn_ ?_
      refine tn ?_
      refine rg ?_
      refine bo (hz := by first | exact bop_add (by omega) (by omega) | exact rfl) ?_
      refine mv ?_
      refine rNil ?_
      refine tn ?_
      exact ⟨n - (k + 1), by omega, wy 2 ⟨k + 1, rfl, by omega, rfl⟩ (rows_set ⟨-1, -2⟩ rfl fun r hr => by by_cases h : r = k <;> simp [h] <;> (split <;> (split <;> first | rfl | omega)))⟩ -- LEAF 2: round of loop 1
    ·
      have hk' : n = k := by simp at h2; omega
      subst hk'
      refine awp_exit ?_
      refine te ?_
      refine te ?_
      refine xbk ?_
      refine tn ?_
      refine sg ?_
      first | refine ff ?_ | refine fb ?_ | refine fo ?_
      first | refine l1f ?_ | refine l1b ?_ | refine l1o ?_
      refine cl (c25 p.code hl) ?_
      refine as_ ?_
      refine rNil ?_
      refine sg ?_
      refine as_ ?_
      refine rNil ?_
      refine sq ?_
      refine sg ?_
      first | refine ff ?_ | refine fb ?_ | refine fo ?_
      first | refine l1f ?_ | refine l1b ?_ | refine l1o ?_
      first | refine lnM ?_ | refine ln ?_ | refine lnO ?_ | refine lnN ?_ | refine lnW ?_ | refine lnS ?_
      refine mv ?_
      refine rNil ?_
      refine bk ?_
      refine lp (fun m S => ∃ (k : Nat) (st : List Int) (f : Int) (ls : List Pr), m = p.code.length - k ∧ k ≤ p.code.length ∧ st.length ≤ k ∧ vrun p (p.code.drop k) st = 0 ∧ (0 < n3 st → f < k) ∧ (ls = om (n3 st) f k (p.code.drop k) ∨ ∃ q : Pr, q.y < k ∧ ls = q :: om (n3 st) f k (p.code.drop k)) ∧ (deps 0 p.code).drop k = deps st.length (p.code.drop k) ∧ (ends 0 0 p.code).drop k = ends (n3 st) k (p.code.drop k) ∧ S = ⟨[(36, .r (I k)), (35, .r (I p.code.length)), (34, .r (L p.code)), (6, .r (I st.length)), (5, .r (L ls)), (3, .own 1 n), (1, .box 0 0)], [bxP p, .row 37 2 (rowF n fun r => ivK p.code (deps 0 p.code) (ends 0 0 p.code) r k)]⟩) p.code.length ?_ ?_
      · exact wy 2 ⟨0, [], 0, om 0 0 0 p.code, rfl, Nat.zero_le _, Nat.le_refl _, hv, fun h => absurd h (by decide), .inl rfl, rfl, rfl, rfl⟩ (rows_eq fun r hr => by simp only [if_pos hr]; rfl)
      rintro m S ⟨k, st, f, ls, hm, hk, hstl, hvk, hf, hls, hdk, hek, rfl⟩
      refine sg ?_
      refine bo (hz := by exact rfl) ?_
      refine rNil ?_
      refine sq ?_
      refine cn (fun h3 => ?_) (fun h3 => ?_)
      ·
        have hk' : k < p.code.length := by simpa using h3
        obtain ⟨x, hx⟩ := ex_get hk'
        have hx' : p.code[k]? = some x := by simpa using hx
        have hdr := drop_at hx'
        have hn0 := n3_nonneg st
        rw [hdr] at hvk hls hdk hek
        have hlo := last_ok hvk hf (by omega)
        have hy := om_y (k : Int) (x :: p.code.drop (k + 1)) (n3 st) f k (Int.le_refl _)
        obtain ⟨st', hs1, hs2, hs3, hs4, hs5⟩ := vstep hvk
        obtain ⟨f', hf', hnext⟩ := om_next x (p.code.drop (k + 1)) hs4 hf hn0
        generalize hom : om (n3 st) f k (x :: p.code.drop (k + 1)) = omk at *
        rw [deps_step, ← hs5] at hdk
        rw [ends, ← hs4] at hek
        generalize hen : endA (n3 st) k x (p.code.drop (k + 1)) = en at *
        generalize hdp : dpA x st.length = dp at *
        have hdk1 : (deps 0 p.code)[k]? = some dp := by
          have := congrArg (·[0]?) hdk
          simpa using this
        have hek1 : (ends 0 0 p.code)[k]? = some en := by
          have := congrArg (·[0]?) hek
          simpa using this
        have hdk2 : (deps 0 p.code).drop (k + 1) = deps st'.length (p.code.drop (k + 1)) := by
          have := congrArg (List.drop 1) hdk
          simpa using this
        have hek2 : (ends 0 0 p.code).drop (k + 1) = ends (n3 st') (k + 1) (p.code.drop (k + 1)) := by
          have := congrArg (List.drop 1) hek
          simpa using this
        obtain ⟨hreg, hdst⟩ := regs_ok hs2
        obtain ⟨last, hlast⟩ : ∃ last : Int, last = max (k : Int) en := ⟨_, rfl⟩
        rw [← hlast] at hlo
        have hst : ∀ r : Nat, ivK p.code (deps 0 p.code) (ends 0 0 p.code) r (k + 1) = stepI r k dp en x (ivK p.code (deps 0 p.code) (ends 0 0 p.code) r k) := fun r => by
          rw [ivK, hx']; simp only []; rw [getD_of hdk1, getD_of hek1]
        have hinv : ∀ r : Nat, (ivK p.code (deps 0 p.code) (ends 0 0 p.code) r k).y = -2 → (ivK p.code (deps 0 p.code) (ends 0 0 p.code) r k).x = -1 := fun r => ivK_inv k
        generalize hF : (fun r : Nat => ivK p.code (deps 0 p.code) (ends 0 0 p.code) r k) = F
        have hFr : ∀ r : Nat, ivK p.code (deps 0 p.code) (ends 0 0 p.code) r k = F r := fun r => by rw [← hF]
        simp only [hFr] at hst hinv
        refine awp_skip ?_
        refine tn ?_
        refine sq ?_
        refine bk ?_
        refine sg ?_
        refine mv ?_
        first | refine xs_ ?_ | refine xo ?_ | refine xw ?_ | refine xsl ?_
        first | refine lAf ?_ | refine lAb ?_ | refine lAo ?_
        refine al _ ?_
        refine as_ ?_
        refine sA ?_
        refine rNil ?_
        refine jn (fun S => S = ⟨[(7, .r (I k)), (8, .box 2 0), (36, .r (I k)), (35, .r (I p.code.length)), (34, .r (L p.code)), (6, .r (I st.length)), (5, .r (L omk)), (3, .own 1 n), (1, .box 0 0)], [bxP p, .row 37 2 (rowF n F), bxI x]⟩) ?_ ?_
        ·
          refine bk ?_
          refine lp (fun m S => ∃ ls : List Pr, m = ls.length ∧ (ls = omk ∨ ∃ q : Pr, q.y < k ∧ ls = q :: omk) ∧ S = ⟨[(7, .r (I k)), (8, .box 2 0), (36, .r (I k)), (35, .r (I p.code.length)), (34, .r (L p.code)), (6, .r (I st.length)), (5, .r (L ls)), (3, .own 1 n), (1, .box 0 0)], [bxP p, .row 37 2 (rowF n F), bxI x]⟩) ls.length ?_ ?_
          · exact wx 3 ⟨ls, rfl, hls, rfl⟩
          rintro m2 S ⟨ls, hm2, hls, rfl⟩
          refine sq ?_
          refine sg ?_
          refine mv ?_
          first | refine lnM ?_ | refine ln ?_ | refine lnO ?_ | refine lnN ?_ | refine lnW ?_ | refine lnS ?_
          refine bo (hz := by exact rfl) ?_
          refine mv ?_
          refine gd (fun h4 => ?_) (fun h4 => ?_)
          ·
            have hpos : 0 < ls.length := by simpa using h4
            obtain ⟨q, hq⟩ : ∃ q, ls[(0 : Int).toNat]? = some q := ⟨ls[0], by simp⟩
            have hq' : ls[0]? = some q := by simpa using hq
            refine mv ?_
            first | refine xs_ ?_ | refine xo ?_ | refine xw ?_ | refine xsl ?_
            first | refine xf ?_ | refine xb ?_ | refine xoa ?_
            first | refine l1f ?_ | refine l1b ?_ | refine l1o ?_
            refine mv ?_
            refine bo (hz := by exact rfl) ?_
            refine pkT ?_
            refine rNil ?_
            refine cn (fun h5 => ?_) (fun h5 => ?_)
            ·
              have hlt : q.y < k := by simpa using h5
              have hcut : ls.drop 1 = omk := by
                rcases hls with h | ⟨q2, _, h⟩
                · rw [h] at hq'
                  have := hy q (List.mem_of_getElem? hq')
                  omega
                · rw [h]; rfl
              refine awp_skip ?_
              refine tn ?_
              refine bk ?_
              refine rg ?_
              refine mv ?_
              refine ct 1 ((ls.map Enc.c).length) ?_ (hs := by intro y hy; obtain ⟨z, _, rfl⟩ := List.mem_map.1 hy; rfl) (haz := by rw [List.length_map]; omega) (hz := Nat.le_refl _)
              rw [cut1]
              refine as_ ?_
              refine rNil ?_
              refine bn_ ?_
              refine tn ?_
              exact ⟨(ls.drop 1).length, by rw [List.length_drop]; omega, wx 3 ⟨ls.drop 1, rfl, .inl hcut, rfl⟩⟩ -- LEAF 3: round of loop 3
            ·
              have hge : ¬ q.y < k := by simpa using h5
              have hnil : ls = omk := by
                rcases hls with h | ⟨q2, h2, h⟩
                · exact h
                · rw [h] at hq'; cases hq'; exact absurd h2 hge
              subst hnil
              refine awp_exit ?_
              refine te ?_
              refine te ?_
              refine xbk ?_
              refine tn ?_
              exact wx 3 rfl -- LEAF 4: join
          ·
            have hnil : ls = omk := by
              have h0 : ls = [] := by simpa using h4
              rcases hls with h | ⟨q, _, h⟩
              · exact h
              · rw [h] at h0; cases h0
            subst hnil
            refine no ?_
            refine no ?_
            refine no ?_
            refine no ?_
            refine no ?_
            refine no ?_
            refine pkF ?_
            refine rNil ?_
            refine cn (fun h6 => ?_) (fun h6 => ?_)
            ·
              first | exact absurd h6 (by decide) | (exfalso; simp_all; done)
            ·
              refine awp_exit ?_
              refine te ?_
              refine te ?_
              refine xbk ?_
              refine tn ?_
              exact wx 3 rfl -- LEAF 5: join
        ·
          rintro S rfl
          refine sg ?_
          refine mv ?_
          refine as_ ?_
          refine rNil ?_
          refine jn (fun S => S = ⟨[(9, .r (I last)), (7, .r (I k)), (8, .box 2 0), (36, .r (I k)), (35, .r (I p.code.length)), (34, .r (L p.code)), (6, .r (I st.length)), (5, .r (L omk)), (3, .own 1 n), (1, .box 0 0)], [bxP p, .row 37 2 (rowF n F), bxI x]⟩) ?_ ?_
          ·
            refine sg ?_
            refine mv ?_
            first | refine lnM ?_ | refine ln ?_ | refine lnO ?_ | refine lnN ?_ | refine lnW ?_ | refine lnS ?_
            refine bo (hz := by exact rfl) ?_
            refine mv ?_
            refine gd (fun h7 => ?_) (fun h7 => ?_)
            ·
              have hpos : 0 < omk.length := by simpa using h7
              obtain ⟨q, hq⟩ : ∃ q, omk[(0 : Int).toNat]? = some q := ⟨omk[0], by simp⟩
              have hq' : omk[0]? = some q := by simpa using hq
              refine mv ?_
              first | refine xs_ ?_ | refine xo ?_ | refine xw ?_ | refine xsl ?_
              first | refine xf ?_ | refine xb ?_ | refine xoa ?_
              first | refine l1f ?_ | refine l1b ?_ | refine l1o ?_
              refine mv ?_
              refine bo (hz := by exact rfl) ?_
              refine pkT ?_
              refine rNil ?_
              refine cn (fun h8 => ?_) (fun h8 => ?_)
              ·
                have hle : q.x ≤ k := by simpa using h8
                have hl2 : q.y = last := by
                  rcases hlo with ⟨q2, t, h, _, h2⟩ | ⟨h, _⟩
                  · rw [h] at hq'; cases hq'; exact h2
                  · have := h q (List.mem_of_getElem? hq'); omega
                refine rg ?_
                refine mv ?_
                first | refine xs_ ?_ | refine xo ?_ | refine xw ?_ | refine xsl ?_
                first | refine xf ?_ | refine xb ?_ | refine xoa ?_
                first | refine l1f ?_ | refine l1b ?_ | refine l1o ?_
                refine as_ ?_
                refine rNil ?_
                refine tn ?_
                exact wx 3 (by rw [← hl2]; rfl) -- LEAF 6: join
              ·
                have hle : ¬ q.x ≤ k := by simpa using h8
                have hl2 : last = k := by
                  rcases hlo with ⟨q2, t, h, h2, _⟩ | ⟨_, h⟩
                  · rw [h] at hq'; cases hq'; exact absurd h2 hle
                  · exact h
                refine awp_skip ?_
                refine tn ?_
                exact wx 3 (by rw [hl2]; rfl) -- LEAF 7: join
            ·
              have hl2 : last = k := by
                have h0 : omk = [] := by simpa using h7
                rcases hlo with ⟨q2, t, h, h2, _⟩ | ⟨_, h⟩
                · rw [h0] at h; cases h
                · exact h
              refine no ?_
              refine no ?_
              refine no ?_
              refine no ?_
              refine no ?_
              refine no ?_
              refine pkF ?_
              refine rNil ?_
              refine cn (fun h9 => ?_) (fun h9 => ?_)
              ·
                first | exact absurd h9 (by decide) | (exfalso; simp_all; done)
              ·
                refine awp_skip ?_
                refine tn ?_
                exact wx 3 (by rw [hl2]; rfl) -- LEAF 8: join
          ·
            rintro S rfl
            have hlk : (k : Int) ≤ last := by omega
            refine jn (fun S => ∃ v : Int, v = st.length + (if x.op = 45 ∨ x.op = 49 then -1 else 0) ∧ S = ⟨[(6, .r (I v)), (9, .r (I last)), (7, .r (I k)), (8, .box 2 0), (36, .r (I k)), (35, .r (I p.code.length)), (34, .r (L p.code)), (5, .r (L omk)), (3, .own 1 n), (1, .box 0 0)], [bxP p, .row 37 2 (rowF n F), bxI x]⟩) ?_ ?_
            ·
              refine sg ?_
              first | refine ff ?_ | refine fb ?_ | refine fo ?_
              first | refine l1f ?_ | refine l1b ?_ | refine l1o ?_
              refine bo (hz := by exact rfl) ?_
              refine mv ?_
              refine gd (fun h10 => ?_) (fun h10 => ?_)
              ·
                refine no ?_
                refine no ?_
                refine no ?_
                refine pkT ?_
                refine rNil ?_
                refine cn (fun h11 => ?_) (fun h11 => ?_)
                ·
                  refine rg ?_
                  refine mv ?_
                  refine bo (hz := by first | exact bop_sub (by omega) (by omega) | exact rfl) ?_
                  refine as_ ?_
                  refine rNil ?_
                  refine tn ?_
                  refine wx 3 ⟨_, ?_, rfl⟩
                  clear hst hinv hFr hdst hreg hlo hy hls hdk hek hdk1 hek1 hdk2 hek2
                  simp_all
                  try omega
                ·
                  first | exact absurd h11 (by decide) | (exfalso; simp_all; done)
              ·
                first | refine ff ?_ | refine fb ?_ | refine fo ?_
                first | refine l1f ?_ | refine l1b ?_ | refine l1o ?_
                refine bo (hz := by exact rfl) ?_
                refine pkF ?_
                refine rNil ?_
                refine cn (fun h12 => ?_) (fun h12 => ?_)
                ·
                  refine rg ?_
                  refine mv ?_
                  refine bo (hz := by first | exact bop_sub (by omega) (by omega) | exact rfl) ?_
                  refine as_ ?_
                  refine rNil ?_
                  refine tn ?_
                  refine wx 3 ⟨_, ?_, rfl⟩
                  clear hst hinv hFr hdst hreg hlo hy hls hdk hek hdk1 hek1 hdk2 hek2
                  simp_all
                  try omega
                ·
                  refine awp_skip ?_
                  refine tn ?_
                  refine wx 3 ⟨_, ?_, rfl⟩
                  clear hst hinv hFr hdst hreg hlo hy hls hdk hek hdk1 hek1 hdk2 hek2
                  simp_all
                  try omega
            ·
              rintro S ⟨dl, hdl, rfl⟩
              refine sg ?_
              first | refine lAf ?_ | refine lAb ?_ | refine lAo ?_
              refine cl (c26 x) ?_
              refine mv ?_
              refine ex ?_
              refine ex ?_
              refine as_ ?_
              refine as_ ?_
              refine rNil ?_
              refine jn (fun S => S = ⟨[(11, .r (I (dstF x))), (6, .r (I dl)), (9, .r (I last)), (7, .r (I k)), (8, .box 2 0), (36, .r (I k)), (35, .r (I p.code.length)), (34, .r (L p.code)), (5, .r (L omk)), (3, .own 1 n), (1, .box 0 0)], [bxP p, .row 37 2 (rowF n (rdG F (usesF x) last (usesF x).length)), bxI x]⟩) ?_ ?_
              ·
                refine sg ?_
                refine mv ?_
                first | refine lnM ?_ | refine ln ?_ | refine lnO ?_ | refine lnN ?_ | refine lnW ?_ | refine lnS ?_
                refine mv ?_
                refine rNil ?_
                refine bk ?_
                have hul : (usesF x).length ≤ 3 := by unfold usesF; split <;> split <;> split <;> simp
                refine lp (fun m S => ∃ j : Nat, m = (usesF x).length - j ∧ j ≤ (usesF x).length ∧ S = ⟨[(87, .r (I j)), (86, .r (I (usesF x).length)), (85, .r (L (usesF x))), (11, .r (I (dstF x))), (6, .r (I dl)), (9, .r (I last)), (7, .r (I k)), (8, .box 2 0), (36, .r (I k)), (35, .r (I p.code.length)), (34, .r (L p.code)), (5, .r (L omk)), (3, .own 1 n), (1, .box 0 0)], [bxP p, .row 37 2 (rowF n (rdG F (usesF x) last j)), bxI x]⟩) (usesF x).length ?_ ?_
                · exact wy 3 ⟨0, rfl, Nat.zero_le _, rfl⟩ (rows_eq fun r hr => by simp [rdG])
                rintro m4 S ⟨j, hm4, hj, rfl⟩
                refine sg ?_
                refine bo (hz := by exact rfl) ?_
                refine rNil ?_
                refine sq ?_
                refine cn (fun h13 => ?_) (fun h13 => ?_)
                ·
                  have hj' : j < (usesF x).length := by simpa using h13
                  obtain ⟨u, hu⟩ := ex_get hj'
                  have hu' : (usesF x)[j]? = some u := by simpa using hu
                  obtain ⟨hu0, hu1⟩ := hreg u (List.mem_of_getElem? hu')
                  rw [hn] at hu1
                  have hsu := fun r => rdG_succ (F := F) (last := last) hu' r
                  generalize hG : rdG F (usesF x) last j = G at *
                  have hGi : ∀ r, (G r).y = -2 → (G r).x = -1 := fun r h => by
                    rw [← hG] at h ⊢
                    unfold rdG at h ⊢
                    split at h
                    · simp only at h; omega
                    · rename_i h2; rw [if_neg h2]; exact hinv r h
                  have hgu := rowF_at (F := G) (show u.toNat < n by omega)
                  refine awp_skip ?_
                  refine tn ?_
                  refine sq ?_
                  refine bk ?_
                  refine sg ?_
                  first | refine xs_ ?_ | refine xo ?_ | refine xw ?_ | refine xsl ?_
                  first | refine l1f ?_ | refine l1b ?_ | refine l1o ?_
                  refine as_ ?_
                  refine rNil ?_
                  refine jn (fun S => S = ⟨[(13, .r (I u)), (87, .r (I j)), (86, .r (I (usesF x).length)), (85, .r (L (usesF x))), (11, .r (I (dstF x))), (6, .r (I dl)), (9, .r (I last)), (7, .r (I k)), (8, .box 2 0), (36, .r (I k)), (35, .r (I p.code.length)), (34, .r (L p.code)), (5, .r (L omk)), (3, .own 1 n), (1, .box 0 0)], [bxP p, .row 37 2 (rowF n G), bxI x]⟩) ?_ ?_
                  ·
                    refine sg ?_
                    refine mv ?_
                    refine mv ?_
                    first | refine xs_ ?_ | refine xo ?_ | refine xw ?_ | refine xsl ?_
                    first | refine xf ?_ | refine xb ?_ | refine xoa ?_
                    first | refine l1f ?_ | refine l1b ?_ | refine l1o ?_
                    refine bo (hz := by exact rfl) ?_
                    refine rNil ?_
                    refine cn (fun h14 => ?_) (fun h14 => ?_)
                    ·
                      refine rg ?_
                      refine mv ?_
                      refine mv ?_
                      first | refine xs_ ?_ | refine xo ?_ | refine xw ?_ | refine xsl ?_
                      first | refine xf ?_ | refine xb ?_ | refine xoa ?_
                      refine so u.toNat 0 ?_ (hj := by show 0 < 2; decide)
                      refine rNil ?_
                      refine tn ?_
                      have hm2 : (G u.toNat).x = -1 := hGi _ (by simpa using h14)
                      exact wy 3 rfl (rows_set ⟨-1, (G u.toNat).y⟩ rfl fun r hr => by
                        by_cases h : r = u.toNat
                        · rw [if_pos h, h, ← hm2]
                        · rw [if_neg h]) -- LEAF 9: join
                    ·
                      refine awp_skip ?_
                      refine tn ?_
                      exact wx 3 rfl -- LEAF 10: join
                  ·
                    rintro S rfl
                    refine rd mixO ?_
                    refine mv ?_
                    refine mv ?_
                    refine mv ?_
                    refine mv ?_
                    first | refine xs_ ?_ | refine xo ?_ | refine xw ?_ | refine xsl ?_
                    first | refine xf ?_ | refine xb ?_ | refine xoa ?_
                    first | refine l1f ?_ | refine l1b ?_ | refine l1o ?_
                    refine mv ?_
                    refine mx2 ?_
                    first | refine xs_ ?_ | refine xo ?_ | refine xw ?_ | refine xsl ?_
                    first | refine xf ?_ | refine xb ?_ | refine xoa ?_
                    refine so u.toNat 1 ?_ (hj := by show 1 < 2; decide)
                    refine rNil ⟨rfl, ?_⟩
                    refine bn_ ?_
                    refine tn ?_
                    refine rg ?_
                    refine bo (hz := by first | exact bop_add (by omega) (by omega) | exact rfl) ?_
                    refine mv ?_
                    refine rNil ?_
                    refine tn ?_
                    exact ⟨(usesF x).length - (j + 1), by omega, wy 3 ⟨j + 1, rfl, by omega, rfl⟩ (rows_set ⟨(G u.toNat).x, mx (G u.toNat).y last⟩ rfl fun r hr => by
                      rw [hsu r, mx_max]
                      by_cases h : r = u.toNat
                      · rw [if_pos h, if_pos (by omega), h]
                      · rw [if_neg h, if_neg (by omega)])⟩ -- LEAF 11: round of loop 4
                ·
                  have hj' : j = (usesF x).length := by simp at h13; omega
                  subst hj'
                  refine awp_exit ?_
                  refine te ?_
                  refine te ?_
                  refine xbk ?_
                  refine tn ?_
                  exact wx 3 rfl -- LEAF 12: join
              ·
                rintro S rfl
                refine jn (fun S => S = ⟨[(7, .r (I k)), (8, .box 2 0), (6, .r (I dl)), (36, .r (I k)), (35, .r (I p.code.length)), (34, .r (L p.code)), (5, .r (L omk)), (3, .own 1 n), (1, .box 0 0)], [bxP p, .row 37 2 (rowF n fun r => ivK p.code (deps 0 p.code) (ends 0 0 p.code) r (k + 1)), bxI x]⟩) ?_ ?_
                have hG := fun r : Nat => rdG_all (F := F) (x := x) (last := last) r
                generalize rdG F (usesF x) last (usesF x).length = G at *
                have hse : ∀ r : Nat, ivK p.code (deps 0 p.code) (ends 0 0 p.code) r (k + 1) = if wrF x r = true then ⟨if (G r).y = -2 ∧ dp = 0 then (k : Int) else (G r).x, max (G r).y last⟩ else G r := fun r => by
                  rw [hst r]; exact step_eq (hG r) (by omega) hlast
                ·
                  refine sg ?_
                  refine mv ?_
                  refine bo (hz := by exact rfl) ?_
                  refine rNil ?_
                  refine cn (fun h15 => ?_) (fun h15 => ?_)
                  ·
                    have hd0 : dstF x ≥ 0 := by simpa using h15
                    have hd1 : dF x.op = true := by
                      cases hd : dF x.op with
                      | true => rfl
                      | false => rw [dstF, hd] at hd0; simp at hd0
                    have hd2 : dstF x = x.dst := by rw [dstF, if_pos hd1]
                    obtain ⟨hd3, hd4⟩ := hdst hd1
                    rw [hn] at hd4
                    have hd5 := dst_dp hd1 (st.length : Int)
                    have hdd : dp = dl := by rw [← hdp, hd5.1, hdl, hd5.2]
                    rw [hd2]
                    have hgd := rowF_at (F := G) (show x.dst.toNat < n by omega)
                    have hwr : ∀ r : Nat, wrF x r = true ↔ r = x.dst.toNat := fun r => by
                      unfold wrF; rw [hd1, Bool.true_and, beq_iff_eq]; omega
                    refine jn (fun S => ∃ v : Int, v = (if (G x.dst.toNat).y = -2 ∧ dl = 0 then (k : Int) else (G x.dst.toNat).x) ∧ S = ⟨[(11, .r (I x.dst)), (9, .r (I last)), (7, .r (I k)), (8, .box 2 0), (6, .r (I dl)), (36, .r (I k)), (35, .r (I p.code.length)), (34, .r (L p.code)), (5, .r (L omk)), (3, .own 1 n), (1, .box 0 0)], [bxP p, .row 37 2 (rowF n fun r => if r = x.dst.toNat then ⟨v, (G r).y⟩ else G r), bxI x]⟩) ?_ ?_
                    ·
                      refine sg ?_
                      refine mv ?_
                      refine mv ?_
                      first | refine xs_ ?_ | refine xo ?_ | refine xw ?_ | refine xsl ?_
                      first | refine xf ?_ | refine xb ?_ | refine xoa ?_
                      first | refine l1f ?_ | refine l1b ?_ | refine l1o ?_
                      refine bo (hz := by exact rfl) ?_
                      refine mv ?_
                      refine gd (fun h16 => ?_) (fun h16 => ?_)
                      ·
                        refine mv ?_
                        refine bo (hz := by exact rfl) ?_
                        refine pkT ?_
                        refine rNil ?_
                        refine cn (fun h17 => ?_) (fun h17 => ?_)
                        ·
                          refine rg ?_
                          refine mv ?_
                          refine mv ?_
                          refine mv ?_
                          first | refine xs_ ?_ | refine xo ?_ | refine xw ?_ | refine xsl ?_
                          first | refine xf ?_ | refine xb ?_ | refine xoa ?_
                          refine so x.dst.toNat 0 ?_ (hj := by show 0 < 2; decide)
                          refine rNil ?_
                          refine tn ?_
                          have e1 : (G x.dst.toNat).y = -2 := by simpa using h16
                          have e2 : dl = 0 := by simpa using h17
                          exact wy 3 ⟨k, by rw [if_pos ⟨e1, e2⟩], rfl⟩ (rows_set ⟨k, (G x.dst.toNat).y⟩ rfl fun r hr => by
                            by_cases h : r = x.dst.toNat
                            · rw [if_pos h, if_pos h, h]
                            · rw [if_neg h, if_neg h]) -- LEAF 13: join
                        ·
                          refine awp_skip ?_
                          refine tn ?_
                          have e2 : dl ≠ 0 := by simpa using h17
                          exact wy 3 ⟨(G x.dst.toNat).x, by rw [if_neg (fun h => e2 h.2)], rfl⟩ (rows_eq fun r hr => by
                            by_cases h : r = x.dst.toNat
                            · rw [if_pos h, h]
                            · rw [if_neg h]) -- LEAF 14: join
                      ·
                        refine no ?_
                        refine no ?_
                        refine pkF ?_
                        refine rNil ?_
                        refine cn (fun h18 => ?_) (fun h18 => ?_)
                        ·
                          first | exact absurd h18 (by decide) | (exfalso; simp_all; done)
                        ·
                          refine awp_skip ?_
                          refine tn ?_
                          have e1 : (G x.dst.toNat).y ≠ -2 := by simpa using h16
                          exact wy 3 ⟨(G x.dst.toNat).x, by rw [if_neg (fun h => e1 h.1)], rfl⟩ (rows_eq fun r hr => by
                            by_cases h : r = x.dst.toNat
                            · rw [if_pos h, h]
                            · rw [if_neg h]) -- LEAF 15: join
                    ·
                      rintro S ⟨v, hv1, rfl⟩
                      have hgd2 := rowF_at (F := fun r => if r = x.dst.toNat then ⟨v, (G r).y⟩ else G r) (show x.dst.toNat < n by omega)
                      rw [if_pos rfl] at hgd2
                      refine rd mixO ?_
                      refine mv ?_
                      refine mv ?_
                      refine mv ?_
                      refine mv ?_
                      first | refine xs_ ?_ | refine xo ?_ | refine xw ?_ | refine xsl ?_
                      first | refine xf ?_ | refine xb ?_ | refine xoa ?_
                      first | refine l1f ?_ | refine l1b ?_ | refine l1o ?_
                      refine mv ?_
                      refine mx2 ?_
                      first | refine xs_ ?_ | refine xo ?_ | refine xw ?_ | refine xsl ?_
                      first | refine xf ?_ | refine xb ?_ | refine xoa ?_
                      refine so x.dst.toNat 1 ?_ (hj := by show 1 < 2; decide)
                      refine rNil ⟨rfl, ?_⟩
                      refine tn ?_
                      exact wy 3 rfl (rows_set ⟨v, mx (G x.dst.toNat).y last⟩ rfl fun r hr => by
                        rw [hse r, mx_max]
                        by_cases h : r = x.dst.toNat
                        · rw [if_pos h, if_pos ((hwr r).2 h), hv1, hdd, h]
                        · rw [if_neg h, if_neg h, if_neg (fun e => h ((hwr r).1 e))]) -- LEAF 16: join
                  ·
                    have hd1 : dF x.op = false := by
                      cases hd : dF x.op with
                      | false => rfl
                      | true =>
                        have hd2 : dstF x = x.dst := by rw [dstF, if_pos hd]
                        have := (hdst hd).1
                        simp at h15; omega
                    refine awp_skip ?_
                    refine tn ?_
                    exact wy 3 rfl (rows_eq fun r hr => by rw [hse r, if_neg (by unfold wrF; rw [hd1]; simp)]) -- LEAF 17: join
                ·
                  rintro S rfl
                  have ec : ((k + 1 : Nat) : Int) = (k : Int) + 1 := by omega
                  have hdpb : dpI x ≤ 1 := by
                    unfold dpI
                    split
                    · omega
                    split <;> omega
                  have hl1 : st'.length ≤ k + 1 := by clear hnext hls hlo; omega
                  have hl2 : k + 1 ≤ p.code.length := hk'
                  have hl3 : p.code.length - (k + 1) < m := by clear hnext hls hlo; omega
                  refine sg ?_
                  first | refine ff ?_ | refine fb ?_ | refine fo ?_
                  first | refine l1f ?_ | refine l1b ?_ | refine l1o ?_
                  refine bo (hz := by exact rfl) ?_
                  refine mv ?_
                  refine gd (fun h19 => ?_) (fun h19 => ?_)
                  ·
                    refine no ?_
                    refine no ?_
                    refine no ?_
                    refine pkT ?_
                    refine rNil ?_
                    refine cn (fun h20 => ?_) (fun h20 => ?_)
                    ·
                      refine rg ?_
                      refine mv ?_
                      refine bo (hz := by first | exact bop_add (by omega) (by omega) | exact rfl) ?_
                      refine as_ ?_
                      refine rNil ?_
                      refine bn_ ?_
                      refine tn ?_
                      refine rg ?_
                      refine bo (hz := by first | exact bop_add (by omega) (by omega) | exact rfl) ?_
                      refine mv ?_
                      refine rNil ?_
                      refine tn ?_
                      have e1 : x.op = 43 := by simpa using h19
                      have e2 : (st'.length : Int) = dl + 1 := by rw [hs5, hdl]; simp [dpI, e1]
                      exact ⟨p.code.length - (k + 1), hl3, wx 2 ⟨k + 1, st', f', omk, rfl, hl2, hl1, hs3, by rw [ec]; exact hf', by rw [ec]; exact hnext, hdk2, by rw [ec]; exact hek2, by rw [e2]; rfl⟩⟩ -- LEAF 18: round of loop 2
                    ·
                      first | exact absurd h20 (by decide) | (exfalso; simp_all; done)
                  ·
                    first | refine ff ?_ | refine fb ?_ | refine fo ?_
                    first | refine l1f ?_ | refine l1b ?_ | refine l1o ?_
                    refine bo (hz := by exact rfl) ?_
                    refine pkF ?_
                    refine rNil ?_
                    refine cn (fun h21 => ?_) (fun h21 => ?_)
                    ·
                      refine rg ?_
                      refine mv ?_
                      refine bo (hz := by first | exact bop_add (by omega) (by omega) | exact rfl) ?_
                      refine as_ ?_
                      refine rNil ?_
                      refine bn_ ?_
                      refine tn ?_
                      refine rg ?_
                      refine bo (hz := by first | exact bop_add (by omega) (by omega) | exact rfl) ?_
                      refine mv ?_
                      refine rNil ?_
                      refine tn ?_
                      have e1 : x.op = 46 := by simpa using h21
                      have e2 : (st'.length : Int) = dl + 1 := by rw [hs5, hdl]; simp [dpI, e1]
                      exact ⟨p.code.length - (k + 1), hl3, wx 2 ⟨k + 1, st', f', omk, rfl, hl2, hl1, hs3, by rw [ec]; exact hf', by rw [ec]; exact hnext, hdk2, by rw [ec]; exact hek2, by rw [e2]; rfl⟩⟩ -- LEAF 19: round of loop 2
                    ·
                      refine awp_skip ?_
                      refine bn_ ?_
                      refine tn ?_
                      refine rg ?_
                      refine bo (hz := by first | exact bop_add (by omega) (by omega) | exact rfl) ?_
                      refine mv ?_
                      refine rNil ?_
                      refine tn ?_
                      have f1 : x.op ≠ 43 := by simpa using h19
                      have f2 : x.op ≠ 46 := by simpa using h21
                      have e2 : (st'.length : Int) = dl := by rw [hs5, hdl]; simp [dpI, f1, f2]
                      exact ⟨p.code.length - (k + 1), hl3, wx 2 ⟨k + 1, st', f', omk, rfl, hl2, hl1, hs3, by rw [ec]; exact hf', by rw [ec]; exact hnext, hdk2, by rw [ec]; exact hek2, by rw [e2]; rfl⟩⟩ -- LEAF 20: round of loop 2
      ·
        have hk' : k = p.code.length := by simp at h3; omega
        subst hk'
        refine awp_exit ?_
        refine te ?_
        refine te ?_
        refine xbk ?_
        refine tn ?_
        refine sg ?_
        refine mv ?_
        refine as_ ?_
        refine rNil ?_
        refine awp_ret ?_
        exact ⟨.inr rfl, _, (.cons (by first | exact .v (by ((repeat apply Look.there rfl); exact Look.here)) (.f (.v _)) | exact .v (by ((repeat apply Look.there rfl); exact Look.here)) (.row rfl (by first | exact rfl | (simp; done) | (simp; omega))) | exact .v (by ((repeat apply Look.there rfl); exact Look.here)) (.f .nil) | exact .a (by ((repeat apply Look.there rfl); exact Look.here)) | skip) .nil), (by rw [ivF, if_pos g1, ivs, hn, Int.toNat_natCast]; rfl)⟩ -- LEAF 21: ret

end Go.Proofs.Ytnhljpbpfaablaa.VS
