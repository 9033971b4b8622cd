/- The plain law: what the program's and the reference's assignments of registers come to. Conditions: none. -/
import Derived.Test.YtnhljpbpfaablaaF19
set_option linter.unusedVariables false
set_option linter.unusedSimpArgs false
namespace Go.Proofs.Ytnhljpbpfaablaa.VS
open Go

/-! ### Lists -/
theorem nodup_sub : ∀ {a b : List Int}, a.Nodup → (∀ x ∈ a, x ∈ b) → a.length ≤ b.length
  | [], b, _, _ => Nat.zero_le _
  | x :: a, b, hn, hs => by
    obtain ⟨h1, h2⟩ := List.nodup_cons.1 hn
    have h3 := hs x (.head _)
    have ih := nodup_sub (b := b.erase x) h2 (fun y hy => (List.mem_erase_of_ne (fun e : y = x => h1 (by rw [← e]; exact hy))).2 (hs y (.tail _ hy)))
    rw [List.length_erase_of_mem h3] at ih
    have := List.length_pos_of_mem h3
    rw [List.length_cons]; omega
theorem getD_set {l : List Int} {i k : Nat} {v : Int} (hi : i < l.length) : (l.set i v).getD k 0 = if k = i then v else l.getD k 0 := by
  rw [List.getD_eq_getElem?_getD, List.getD_eq_getElem?_getD]
  by_cases h : k = i
  · subst h; rw [if_pos rfl, List.getElem?_set_self hi]; rfl
  · rw [if_neg h, List.getElem?_set_ne (by omega)]
def ys_ (ls : List Pr) (z : Int) : Int := (ls.getD z.toNat ⟨0, 0⟩).y

/-! ### The order -/
def grp (ls : List Pr) (i : Nat) : List Int := ((List.range ls.length).filter fun r => decide ((ls.getD r ⟨0, 0⟩).x = (i : Int) - 1 ∧ (ls.getD r ⟨0, 0⟩).y ≥ -1)).map fun r : Nat => (r : Int)
def sqn (ls : List Pr) (o : List Int) (r : Int) : List Int := o.set r.toNat (freeF ls o r : Nat)
theorem inn_grp (ls : List Pr) (i : Nat) (o : List Int) : inn ls ls.length ((i : Int) - 1) o = (grp ls i).foldl (sqn ls) o := by
  unfold inn grp
  rw [List.foldl_map]
  generalize List.range ls.length = l
  induction l generalizing o with
  | nil => rfl
  | cons r l ih =>
    rw [List.foldl_cons, List.filter_cons, ih]
    by_cases h : (ls.getD r ⟨0, 0⟩).x = (i : Int) - 1 ∧ (ls.getD r ⟨0, 0⟩).y ≥ -1
    · rw [if_pos (by simpa using h), List.foldl_cons, stp, if_pos h]
      rfl
    · rw [if_neg (by simpa using h), stp, if_neg h]
def seqL (ls : List Pr) : Nat → List Int
  | 0 => []
  | m + 1 => seqL ls m ++ grp ls m
theorem ras_seq (ls : List Pr) : ∀ m, ras ls m = (seqL ls m).foldl (sqn ls) (List.replicate ls.length (-1))
  | 0 => rfl
  | m + 1 => by rw [ras_succ, ras_seq ls m, inn_grp, seqL, List.foldl_append]
theorem grp_mem {ls : List Pr} {i : Nat} {z : Int} : z ∈ grp ls i ↔ 0 ≤ z ∧ z < ls.length ∧ kx ls z = (i : Int) - 1 ∧ ys_ ls z ≥ -1 := by
  unfold grp
  rw [List.mem_map]
  constructor
  · rintro ⟨r, hr, rfl⟩
    obtain ⟨h1, h2⟩ := List.mem_filter.1 hr
    have h3 := List.mem_range.1 h1
    have h4 := of_decide_eq_true h2
    unfold kx ys_
    rw [Int.toNat_natCast]
    exact ⟨by omega, by omega, h4.1, h4.2⟩
  · rintro ⟨h1, h2, h3, h4⟩
    refine ⟨z.toNat, List.mem_filter.2 ⟨List.mem_range.2 (by omega), decide_eq_true ⟨h3, h4⟩⟩, by omega⟩
theorem seqL_mem {ls : List Pr} {z : Int} : ∀ m, z ∈ seqL ls m ↔ ∃ i < m, z ∈ grp ls i
  | 0 => by simp [seqL]
  | m + 1 => by
    rw [seqL, List.mem_append, seqL_mem m]
    constructor
    · rintro (⟨i, h1, h2⟩ | h)
      · exact ⟨i, by omega, h2⟩
      · exact ⟨m, by omega, h⟩
    · rintro ⟨i, h1, h2⟩
      by_cases h : i = m
      · subst h; exact .inr h2
      · exact .inl ⟨i, by omega, h2⟩
def SL (ls : List Pr) (u v : Int) : Prop := kx ls u < kx ls v ∨ (kx ls u = kx ls v ∧ u < v)
theorem grp_inc (ls : List Pr) (i : Nat) : (grp ls i).Pairwise (· < ·) := by
  unfold grp
  rw [List.pairwise_map]
  refine List.Pairwise.filter _ ?_
  exact List.pairwise_lt_range.imp fun h => by omega
theorem seqL_sl (ls : List Pr) : ∀ m, (seqL ls m).Pairwise (SL ls)
  | 0 => .nil
  | m + 1 => by
    rw [seqL]
    refine List.pairwise_append.2 ⟨seqL_sl ls m, ?_, ?_⟩
    · refine (grp_inc ls m).imp_of_mem fun {a b} ha hb hab => ?_
      have h1 := (grp_mem.1 ha).2.2.1
      have h2 := (grp_mem.1 hb).2.2.1
      exact .inr ⟨by omega, hab⟩
    · intro a ha b hb
      obtain ⟨i, hi, hg⟩ := (seqL_mem m).1 ha
      have h1 := (grp_mem.1 hg).2.2.1
      have h2 := (grp_mem.1 hb).2.2.1
      exact .inl (by omega)
theorem sl_nodup {ls : List Pr} {l : List Int} (h : l.Pairwise (SL ls)) : l.Nodup := h.imp fun {a b} hab e => by subst e; unfold SL at hab; omega
theorem ordK_mem_iff {ls : List Pr} {z : Int} : z ∈ ordK ls ls.length ↔ 0 ≤ z ∧ z < ls.length ∧ men (ls.getD z.toNat ⟨0, 0⟩) = true := by
  constructor
  · exact ordK_mem
  · rintro ⟨h1, h2, h3⟩
    unfold ordK
    exact List.mem_map.2 ⟨z.toNat, List.mem_filter.2 ⟨List.mem_range.2 (by omega), h3⟩, by omega⟩
theorem iv_at {ls : List Pr} {L : Nat} (h : IvOk ls L) {z : Int} (h0 : 0 ≤ z) (h1 : z < ls.length) : -1 ≤ kx ls z ∧ kx ls z < L ∧ (ys_ ls z = -2 ∨ (0 ≤ ys_ ls z ∧ ys_ ls z < L ∧ kx ls z ≤ ys_ ls z)) := by
  refine h.2.2 (ls.getD z.toNat ⟨0, 0⟩) ?_
  rw [List.getD_eq_getElem?_getD, List.getElem?_eq_getElem (by omega)]; exact List.getElem_mem _
theorem men_iff {ls : List Pr} {z : Int} : men (ls.getD z.toNat ⟨0, 0⟩) = true ↔ ys_ ls z ≠ -2 := by unfold men ys_; simp
theorem ord_eq {ls : List Pr} {L : Nat} (h : IvOk ls L) : ordF ls = seqL ls (L + 1) := by
  have hs := seqL_sl ls (L + 1)
  refine (lexs_uniq (hs.imp fun {a b} hab => ?_) ?_).symm
  · unfold SL at hab; rw [lxb_iff]; omega
  · refine (List.perm_ext_iff_of_nodup (sl_nodup hs) ((ordK_inc ls _).imp fun {a b} hab e => by omega)).2 fun z => ?_
    rw [seqL_mem, ordK_mem_iff]
    constructor
    · rintro ⟨i, hi, hg⟩
      obtain ⟨h1, h2, h3, h4⟩ := grp_mem.1 hg
      exact ⟨h1, h2, men_iff.2 (by omega)⟩
    · rintro ⟨h1, h2, h3⟩
      have h4 := iv_at h h1 h2
      have h5 := men_iff.1 h3
      exact ⟨(kx ls z + 1).toNat, by omega, grp_mem.2 ⟨h1, h2, by omega, by omega⟩⟩

/-! ### The greedy assignment -/
structure Inv (ls : List Pr) (pre : List Int) (u o : List Int) : Prop where
  len : o.length = ls.length
  ulen : u.length ≤ pre.length
  out : ∀ k : Nat, k < ls.length → (k : Int) ∉ pre → o.getD k 0 = -1
  num : ∀ z ∈ pre, 0 ≤ o.getD z.toNat 0 ∧ o.getD z.toNat 0 < u.length
  wit : ∀ c : Nat, c < u.length → ∃ z ∈ pre, o.getD z.toNat 0 = c ∧ u.getD c 0 = ys_ ls z
  top : ∀ z ∈ pre, ys_ ls z ≤ u.getD (o.getD z.toNat 0).toNat 0
  dis : ∀ y ∈ pre, ∀ z ∈ pre, y ≠ z → o.getD y.toNat 0 = o.getD z.toNat 0 → ys_ ls y < kx ls z ∨ ys_ ls z < kx ls y
  occ : ∀ z ∈ pre, ∀ c : Nat, (c : Int) < o.getD z.toNat 0 → ∃ y ∈ pre, o.getD y.toNat 0 = c ∧ kx ls y ≤ kx ls z ∧ kx ls z ≤ ys_ ls y
theorem fnN_spec (s : Int) : ∀ u : List Int, (∀ c < fnN s u, u.getD c 0 ≥ s) ∧ (fnN s u < u.length → u.getD (fnN s u) 0 < s)
  | [] => ⟨fun c h => absurd h (Nat.not_lt_zero _), fun h => absurd h (Nat.not_lt_zero _)⟩
  | x :: u => by
    obtain ⟨h1, h2⟩ := fnN_spec s u
    rw [fnN]
    by_cases hx : x ≥ s
    · rw [if_pos hx]
      refine ⟨fun c hc => ?_, fun h => ?_⟩
      · cases c with
        | zero => exact hx
        | succ c => have := h1 c (by omega); simpa using this
      · rw [Nat.add_comm]
        have := h2 (by rw [List.length_cons] at h; omega)
        simpa using this
    · rw [if_neg hx]
      exact ⟨fun c h => absurd h (Nat.not_lt_zero _), fun _ => by show x < s; omega⟩
theorem freeG_eq {T : Nat → Bool} {c : Nat} : ∀ (m n : Nat), n ≤ c → c < n + m → (∀ k, n ≤ k → k < c → T k = true) → T c = false → freeG T n m = c
  | 0, n, h1, h2, _, _ => by omega
  | m + 1, n, h1, h2, h3, h4 => by
    rw [freeG]
    by_cases h : n = c
    · subst h; rw [h4, if_neg (by decide)]
    · rw [h3 n (Nat.le_refl _) (by omega), if_pos rfl]
      exact freeG_eq m (n + 1) (by omega) (by omega) (fun k hk => h3 k (by omega)) h4
/-- One register more. -/
theorem inv_step {ls : List Pr} {L : Nat} (hok : IvOk ls L) {pre u o : List Int} {r : Int} (hI : Inv ls pre u o) (hpre : ∀ z ∈ pre, 0 ≤ z ∧ z < ls.length ∧ kx ls z ≤ kx ls r) (hr0 : 0 ≤ r) (hr1 : r < ls.length) (hrn : r ∉ pre) (hrm : kx ls r ≤ ys_ ls r) (hlt : pre.length < ls.length) :
    freeF ls o r = fnN (kx ls r) u ∧ Inv ls (pre ++ [r]) (gst ls (u, o) r).1 (gst ls (u, o) r).2 := by
  obtain ⟨f1, f2⟩ := fnN_spec (kx ls r) u
  have f3 := fnN_le (kx ls r) u
  have hul := hI.ulen
  generalize hc : fnN (kx ls r) u = c at *
  have hg1 : (gst ls (u, o) r).1 = (if c = u.length then u ++ [0] else u).set c (ys_ ls r) := by unfold gst; rw [hc]; rfl
  have hg2 : (gst ls (u, o) r).2 = o.set r.toNat (c : Nat) := by unfold gst; rw [hc]
  rw [hg1, hg2]
  -- the reference's choice
  have htk : ∀ n : Nat, takenF ls o r n ls.length = true ↔ (n < u.length ∧ u.getD n 0 ≥ kx ls r) := by
    intro n
    unfold takenF tkn meetF
    rw [List.any_eq_true]
    constructor
    · rintro ⟨k, hk, hh⟩
      have hk := List.mem_range.1 hk
      simp only [Bool.and_eq_true, beq_iff_eq, decide_eq_true_eq] at hh
      obtain ⟨h1, h2⟩ := hh
      have hkp : (k : Int) ∈ pre := Classical.byContradiction fun h => by have := hI.out k hk h; omega
      have h3 := hI.num _ hkp
      have h4 := hI.top _ hkp
      rw [Int.toNat_natCast] at h3 h4
      rw [h1, Int.toNat_natCast] at h4
      rw [h1] at h3
      unfold ys_ at h4
      rw [Int.toNat_natCast] at h4
      unfold kx
      exact ⟨by omega, by omega⟩
    · rintro ⟨h1, h2⟩
      obtain ⟨z, hz, h3, h4⟩ := hI.wit n h1
      obtain ⟨h5, h6, h7⟩ := hpre z hz
      refine ⟨z.toNat, List.mem_range.2 (by omega), ?_⟩
      simp only [Bool.and_eq_true, beq_iff_eq, decide_eq_true_eq]
      refine ⟨h3, ?_⟩
      unfold kx at h2 h7 hrm
      unfold ys_ at h4 hrm
      omega
  have hfree : freeF ls o r = c := by
    unfold freeF
    refine freeG_eq ls.length 0 (Nat.zero_le _) (by omega) (fun k _ hk => (htk k).2 ⟨by omega, f1 k hk⟩) ?_
    rw [← Bool.not_eq_true, htk]
    rintro ⟨h1, h2⟩
    have := f2 h1
    omega
  refine ⟨hfree, ?_⟩
  have hrl : r.toNat < o.length := by rw [hI.len]; omega
  have hog : ∀ k : Nat, (o.set r.toNat (c : Nat)).getD k 0 = if k = r.toNat then (c : Int) else o.getD k 0 := fun k => getD_set hrl
  have hne : ∀ z ∈ pre, z.toNat ≠ r.toNat := fun z hz e => hrn (by have := (hpre z hz).1; rw [show r = z by omega]; exact hz)
  have hop : ∀ z ∈ pre, (o.set r.toNat (c : Nat)).getD z.toNat 0 = o.getD z.toNat 0 := fun z hz => by rw [hog, if_neg (hne z hz)]
  have hor : (o.set r.toNat (c : Nat)).getD r.toNat 0 = c := by rw [hog, if_pos rfl]
  have hul2 : ((if c = u.length then u ++ [0] else u).set c (ys_ ls r)).length = if c = u.length then u.length + 1 else u.length := by rw [List.length_set]; split <;> simp
  have hcl : c < (if c = u.length then u ++ [0] else u).length := by
    split
    · rw [List.length_append, List.length_singleton]; omega
    · omega
  have hug : ∀ k : Nat, ((if c = u.length then u ++ [0] else u).set c (ys_ ls r)).getD k 0 = if k = c then ys_ ls r else u.getD k 0 := by
    intro k
    rw [getD_set hcl]
    by_cases h : k = c
    · rw [if_pos h, if_pos h]
    · rw [if_neg h, if_neg h]
      split
      · rename_i he
        rw [List.getD_eq_getElem?_getD, List.getD_eq_getElem?_getD, List.getElem?_append]
        by_cases hk : k < u.length
        · rw [if_pos hk]
        · rw [if_neg hk, List.getElem?_eq_none (by omega : u.length ≤ k), List.getElem?_eq_none (by simp; omega)]
      · rfl
  have hmem : ∀ {z : Int}, z ∈ pre ++ [r] → z ∈ pre ∨ z = r := fun h => by rcases List.mem_append.1 h with h | h; exact .inl h; exact .inr (List.mem_singleton.1 h)
  have hm1 : ∀ {z : Int}, z ∈ pre → z ∈ pre ++ [r] := fun h => List.mem_append_left _ h
  have hm2 : r ∈ pre ++ [r] := List.mem_append_right _ (.head _)
  have hcu : ∀ z ∈ pre, o.getD z.toNat 0 = c → ys_ ls z < kx ls r := fun z hz e => by
    have h1 := hI.num z hz
    have h2 := hI.top z hz
    rw [e, Int.toNat_natCast] at h2
    have := f2 (by omega)
    omega
  refine ⟨by rw [List.length_set]; exact hI.len, by rw [hul2, List.length_append, List.length_singleton]; split <;> omega, ?_, ?_, ?_, ?_, ?_, ?_⟩
  · intro k hk hkn
    rw [hog, if_neg (fun e => hkn (by rw [show (k : Int) = r by omega]; exact hm2))]
    exact hI.out k hk fun h => hkn (hm1 h)
  · intro z hz
    rw [hul2]
    rcases hmem hz with h | rfl
    · rw [hop z h]; have := hI.num z h; split <;> omega
    · rw [hor]; split <;> omega
  · intro c' hc'
    rw [hul2] at hc'
    by_cases h : c' = c
    · subst h; exact ⟨r, hm2, hor, by rw [hug, if_pos rfl]⟩
    · obtain ⟨z, hz, h1, h2⟩ := hI.wit c' (by split at hc' <;> omega)
      exact ⟨z, hm1 hz, by rw [hop z hz]; exact h1, by rw [hug, if_neg h]; exact h2⟩
  · intro z hz
    rcases hmem hz with h | rfl
    · rw [hop z h, hug]
      have h1 := hI.top z h
      have h2 := hI.num z h
      by_cases h3 : (o.getD z.toNat 0).toNat = c
      · rw [if_pos h3]; have := hcu z h (by omega); omega
      · rw [if_neg h3]; exact h1
    · rw [hor, Int.toNat_natCast, hug, if_pos rfl]; exact Int.le_refl _
  · intro y hy z hz hyz he
    rcases hmem hy with h | rfl <;> rcases hmem hz with h' | rfl
    · rw [hop y h, hop z h'] at he; exact hI.dis y h z h' hyz he
    · rw [hop y h, hor] at he; exact .inl (hcu y h he)
    · rw [hop z h', hor] at he; exact .inr (hcu z h' he.symm)
    · exact absurd rfl hyz
  · intro z hz c' hc'
    rcases hmem hz with h | rfl
    · rw [hop z h] at hc'
      obtain ⟨y, hy, h1, h2⟩ := hI.occ z h c' hc'
      exact ⟨y, hm1 hy, by rw [hop y hy]; exact h1, h2⟩
    · rw [hor] at hc'
      obtain ⟨y, hy, h1, h2⟩ := hI.wit c' (by omega)
      have h3 := f1 c' (by omega)
      exact ⟨y, hm1 hy, by rw [hop y hy]; exact h1, (hpre y hy).2.2, by omega⟩
theorem inv_nil (ls : List Pr) : Inv ls [] [] (List.replicate ls.length (-1)) :=
  ⟨by simp, Nat.le_refl _, fun k hk _ => by rw [List.getD_eq_getElem?_getD, List.getElem?_replicate, if_pos hk]; rfl, fun z hz => (by cases hz), fun c hc => absurd hc (Nat.not_lt_zero _), fun z hz => (by cases hz), fun z hz => (by cases hz), fun z hz => (by cases hz)⟩
theorem inv_all {ls : List Pr} {L : Nat} (hok : IvOk ls L) : ∀ (suf pre : List Int) (u o : List Int), Inv ls pre u o → (pre ++ suf).Pairwise (SL ls) → (∀ z ∈ pre ++ suf, 0 ≤ z ∧ z < ls.length ∧ kx ls z ≤ ys_ ls z) →
    suf.foldl (sqn ls) o = (suf.foldl (gst ls) (u, o)).2 ∧ Inv ls (pre ++ suf) (suf.foldl (gst ls) (u, o)).1 (suf.foldl (gst ls) (u, o)).2
  | [], pre, u, o, hI, _, _ => ⟨rfl, by rw [List.append_nil]; exact hI⟩
  | r :: suf, pre, u, o, hI, hp, hm => by
    have hrm := hm r (List.mem_append_right _ (.head _))
    obtain ⟨h1, h2, h3⟩ := List.pairwise_append.1 hp
    have hnd := sl_nodup hp
    have hlen : (pre ++ r :: suf).length ≤ ls.length := by
      have := nodup_sub (b := (List.range ls.length).map fun k : Nat => (k : Int)) hnd (fun z hz => by
        have := hm z hz
        exact List.mem_map.2 ⟨z.toNat, List.mem_range.2 (by omega), by omega⟩)
      simpa using this
    have hrn : r ∉ pre := fun h => by have := h3 r h r (.head _); unfold SL at this; omega
    obtain ⟨hf, hI'⟩ := inv_step hok hI (fun z hz => by
      have h4 := hm z (List.mem_append_left _ hz)
      have h5 := h3 z hz r (.head _)
      unfold SL at h5
      exact ⟨h4.1, h4.2.1, by omega⟩) hrm.1 hrm.2.1 hrn hrm.2.2 (by simp only [List.length_append, List.length_cons] at hlen; omega)
    have hs : sqn ls o r = (gst ls (u, o) r).2 := by unfold sqn gst; rw [hf]
    rw [List.foldl_cons, List.foldl_cons, hs]
    have e : pre ++ r :: suf = (pre ++ [r]) ++ suf := by simp
    have := inv_all hok suf (pre ++ [r]) (gst ls (u, o) r).1 (gst ls (u, o) r).2 hI' (by rw [← e]; exact hp) (by rw [← e]; exact hm)
    rw [e]
    exact this
theorem asg_main {ls : List Pr} {L : Nat} (hok : IvOk ls L) : asg ls = ras ls (L + 1) ∧ Inv ls (ordF ls) (greedy ls (ordF ls)).1 (asg ls) := by
  have he := ord_eq hok
  have := inv_all hok (ordF ls) [] [] _ (inv_nil ls) (by rw [List.nil_append, he]; exact seqL_sl _ _) (fun z hz => by
    rw [List.nil_append] at hz
    obtain ⟨h1, h2, h3⟩ := ordK_mem_iff.1 (lexs_mem.1 hz)
    have h4 := iv_at hok h1 h2
    have h5 := men_iff.1 h3
    exact ⟨h1, h2, by omega⟩)
  obtain ⟨h1, h2⟩ := this
  refine ⟨?_, h2⟩
  rw [ras_seq, ← he, h1]; rfl

/-! ### Pressure -/
def con (ls : List Pr) (s : Int) (k : Nat) : Bool := decide ((ls.getD k ⟨0, 0⟩).x ≤ s) && decide (s ≤ (ls.getD k ⟨0, 0⟩).y)
theorem cnt_filter (ls : List Pr) (s : Int) : cntF ls s = ((List.range ls.length).filter (con ls s)).length := by
  have e : ls = (List.range ls.length).map fun k => ls.getD k ⟨0, 0⟩ := by
    apply List.ext_getElem (by simp)
    intro i h1 h2
    simp [h1]
  have e2 : cntF ls s = List.countP (fun q : Pr => decide (q.x ≤ s) && decide (s ≤ q.y)) ((List.range ls.length).map fun k => ls.getD k ⟨0, 0⟩) := by rw [← e]; rfl
  rw [e2, List.countP_map, List.countP_eq_length_filter]
  rfl
structure Fin_ (ls : List Pr) (L : Nat) (u o : List Int) : Prop where
  ok : IvOk ls L
  inv : Inv ls (ordF ls) u o
theorem mem_ord {ls : List Pr} {z : Int} : z ∈ ordF ls ↔ 0 ≤ z ∧ z < ls.length ∧ ys_ ls z ≠ -2 := by
  rw [ordF, lexs_mem, ordK_mem_iff, men_iff]
theorem con_iff {ls : List Pr} {s : Int} {k : Nat} : con ls s k = true ↔ kx ls k ≤ s ∧ s ≤ ys_ ls k := by
  unfold con kx ys_
  rw [Int.toNat_natCast]
  simp
theorem cnt_le {ls : List Pr} {L : Nat} {u o : List Int} (h : Fin_ ls L u o) {s : Int} (hs : -1 ≤ s) : cntF ls s ≤ u.length := by
  rw [cnt_filter]
  have hm : ∀ k ∈ (List.range ls.length).filter (con ls s), (k : Int) ∈ ordF ls ∧ kx ls k ≤ s ∧ s ≤ ys_ ls k := fun k hk => by
    obtain ⟨h1, h2⟩ := List.mem_filter.1 hk
    have h3 := con_iff.1 h2
    have h4 := List.mem_range.1 h1
    exact ⟨mem_ord.2 ⟨by omega, by omega, by omega⟩, h3⟩
  have hn : (((List.range ls.length).filter (con ls s)).map fun k => o.getD k 0).Nodup := by
    refine List.pairwise_map.2 ?_
    refine ((List.pairwise_lt_range.filter _).imp_of_mem fun {a b} ha hb hab e => ?_)
    obtain ⟨h1, h2, h3⟩ := hm a ha
    obtain ⟨h4, h5, h6⟩ := hm b hb
    have := h.inv.dis _ h1 _ h4 (by omega) (by rw [Int.toNat_natCast, Int.toNat_natCast]; exact e)
    omega
  have := nodup_sub (b := (List.range u.length).map fun k : Nat => (k : Int)) hn (fun x hx => by
    obtain ⟨k, hk, rfl⟩ := List.mem_map.1 hx
    have h1 := h.inv.num _ (hm k hk).1
    rw [Int.toNat_natCast] at h1
    exact List.mem_map.2 ⟨(o.getD k 0).toNat, List.mem_range.2 (by omega), by omega⟩)
  simpa using this
theorem cnt_ge {ls : List Pr} {L : Nat} {u o : List Int} (h : Fin_ ls L u o) (hu : 0 < u.length) : ∃ r ∈ ordF ls, u.length ≤ cntF ls (kx ls r) := by
  obtain ⟨r, hr, h1, _⟩ := h.inv.wit (u.length - 1) (by omega)
  refine ⟨r, hr, ?_⟩
  obtain ⟨hr0, hr1, hr2⟩ := mem_ord.1 hr
  have hri := iv_at h.ok hr0 hr1
  rw [cnt_filter]
  have hnd : ((List.range u.length).map fun k : Nat => (k : Int)).Nodup := List.pairwise_map.2 (List.pairwise_lt_range.imp fun {a b} hab e => by omega)
  have := nodup_sub (b := ((List.range ls.length).filter (con ls (kx ls r))).map fun k => o.getD k 0) hnd (fun x hx => by
    obtain ⟨c, hc, rfl⟩ := List.mem_map.1 hx
    have hc := List.mem_range.1 hc
    have key : ∃ y ∈ ordF ls, o.getD y.toNat 0 = c ∧ kx ls y ≤ kx ls r ∧ kx ls r ≤ ys_ ls y := by
      by_cases e : c = u.length - 1
      · exact ⟨r, hr, by rw [e]; exact h1, Int.le_refl _, by omega⟩
      · exact h.inv.occ r hr c (by rw [h1]; omega)
    obtain ⟨y, hy, h2, h3, h4⟩ := key
    obtain ⟨hy0, hy1, _⟩ := mem_ord.1 hy
    exact List.mem_map.2 ⟨y.toNat, List.mem_filter.2 ⟨List.mem_range.2 (by omega), con_iff.2 (by rw [show ((y.toNat : Nat) : Int) = y by omega]; exact ⟨h3, h4⟩)⟩, h2⟩)
  simpa using this
theorem rpt_spec (ls : List Pr) : ∀ (l : List Pr) (m : Int), m ≤ l.foldl (rpt ls) m ∧ (∀ q ∈ l, q.y ≥ -1 → (cntF ls q.x : Int) ≤ l.foldl (rpt ls) m) ∧ (∀ w : Int, m ≤ w → (∀ q ∈ l, q.y ≥ -1 → (cntF ls q.x : Int) ≤ w) → l.foldl (rpt ls) m ≤ w)
  | [], m => ⟨Int.le_refl _, fun q hq => (by cases hq), fun w h _ => h⟩
  | p :: l, m => by
    rw [List.foldl_cons]
    obtain ⟨h1, h2, h3⟩ := rpt_spec ls l (rpt ls m p)
    have h4 : m ≤ rpt ls m p ∧ (p.y ≥ -1 → (cntF ls p.x : Int) ≤ rpt ls m p) := by unfold rpt; split <;> omega
    refine ⟨by omega, fun q hq hy => ?_, fun w hw hq => h3 w ?_ fun q h => hq q (.tail _ h)⟩
    · rcases List.mem_cons.1 hq with h | h
      · subst h; have := h4.2 hy; omega
      · exact h2 q h hy
    · have := hq p (.head _)
      unfold rpt
      split
      · rename_i h; have := this h; omega
      · exact hw
theorem rpres_eq {ls : List Pr} {L : Nat} {u o : List Int} (h : Fin_ ls L u o) : rpres ls = u.length := by
  obtain ⟨h1, h2, h3⟩ := rpt_spec ls ls 0
  have hle : rpres ls ≤ u.length := h3 _ (by omega) (fun q hq hy => by
    have := h.ok.2.2 q hq
    have := cnt_le h (s := q.x) (by omega)
    omega)
  rcases Nat.eq_zero_or_pos u.length with h0 | h0
  · have : (0 : Int) ≤ rpres ls := h1
    omega
  · obtain ⟨r, hr, hc⟩ := cnt_ge h h0
    obtain ⟨hr0, hr1, hr2⟩ := mem_ord.1 hr
    have hri := iv_at h.ok hr0 hr1
    have := h2 (ls.getD r.toNat ⟨0, 0⟩) (by rw [List.getD_eq_getElem?_getD, List.getElem?_eq_getElem (by omega)]; exact List.getElem_mem _) (by unfold ys_ at hri hr2; omega)
    have : ((cntF ls (kx ls r) : Nat) : Int) ≤ rpres ls := this
    omega
theorem sum_take_set : ∀ {c : List Int} {i m : Nat} {v : Int}, i < c.length → ((c.set i v).take m).sum = (c.take m).sum + (if i < m then v - c.getD i 0 else 0)
  | [], i, m, v, h => absurd h (Nat.not_lt_zero _)
  | x :: c, i, 0, v, h => by simp
  | x :: c, 0, m + 1, v, h => by
    rw [List.set_cons_zero, List.take_succ_cons, List.take_succ_cons, List.sum_cons, List.sum_cons, if_pos (by omega)]
    show v + _ = x + _ + (v - x)
    omega
  | x :: c, i + 1, m + 1, v, h => by
    rw [List.set_cons_succ, List.take_succ_cons, List.take_succ_cons, List.sum_cons, List.sum_cons, sum_take_set (by rw [List.length_cons] at h; omega)]
    have e : (x :: c).getD (i + 1) 0 = c.getD i 0 := by simp
    rw [e]
    by_cases hi : i < m
    · rw [if_pos hi, if_pos (by omega)]; omega
    · rw [if_neg hi, if_neg (by omega)]; omega
theorem chg_sum {L : Nat} {c : List Int} {q : Pr} {m : Nat} (hc : c.length = L + 2) (hq : -1 ≤ q.x ∧ q.x < L ∧ (q.y = -2 ∨ (0 ≤ q.y ∧ q.y < L ∧ q.x ≤ q.y))) (hm : 1 ≤ m) : ((chg c q).take m).sum = (c.take m).sum + (if (decide (q.x ≤ (m : Int) - 2) && decide ((m : Int) - 2 ≤ q.y)) = true then 1 else 0) := by
  unfold chg
  by_cases h : men q = true
  · have h2 : q.y ≠ -2 := by simpa [men] using h
    rw [if_pos h, sum_take_set (by rw [List.length_set]; omega), sum_take_set (by omega)]
    generalize (c.set (q.x + 1).toNat (c.getD (q.x + 1).toNat 0 + 1)).getD (q.y + 2).toNat 0 = g
    by_cases h3 : (q.x + 1).toNat < m <;> by_cases h4 : (q.y + 2).toNat < m
    · rw [if_pos h3, if_pos h4, if_neg (by simp; omega)]; omega
    · rw [if_pos h3, if_neg h4, if_pos (by simp; omega)]; omega
    · omega
    · rw [if_neg h3, if_neg h4, if_neg (by simp; omega)]; omega
  · have h2 : q.y = -2 := by simpa [men] using h
    rw [if_neg h, if_neg (by simp; omega)]; omega
theorem chs_sum {L : Nat} {m : Nat} (hm : 1 ≤ m) : ∀ (l : List Pr) (c : List Int), c.length = L + 2 → (∀ q ∈ l, -1 ≤ q.x ∧ q.x < L ∧ (q.y = -2 ∨ (0 ≤ q.y ∧ q.y < L ∧ q.x ≤ q.y))) → ((l.foldl chg c).take m).sum = (c.take m).sum + (cntF l ((m : Int) - 2) : Nat)
  | [], c, _, _ => by simp [cntF]
  | q :: l, c, hc, hq => by
    rw [List.foldl_cons, chs_sum hm l (chg c q) (by rw [chg_len]; exact hc) (fun z hz => hq z (.tail _ hz)), chg_sum hc (hq q (.head _)) hm]
    have : cntF (q :: l) ((m : Int) - 2) = cntF l ((m : Int) - 2) + (if (decide (q.x ≤ (m : Int) - 2) && decide ((m : Int) - 2 ≤ q.y)) = true then 1 else 0) := by unfold cntF; rw [List.countP_cons]
    rw [this]
    split <;> omega
theorem prs_spec : ∀ (l : List Int) (m n : Int), m ≤ (l.foldl prs (m, n)).1 ∧ (∀ j, 1 ≤ j → j ≤ l.length → n + (l.take j).sum ≤ (l.foldl prs (m, n)).1) ∧ (∀ w : Int, m ≤ w → (∀ j, 1 ≤ j → j ≤ l.length → n + (l.take j).sum ≤ w) → (l.foldl prs (m, n)).1 ≤ w)
  | [], m, n => ⟨Int.le_refl _, fun j h1 h2 => by simp at h2; omega, fun w h _ => h⟩
  | d :: l, m, n => by
    rw [List.foldl_cons]
    obtain ⟨h1, h2, h3⟩ := prs_spec l (max m (n + d)) (n + d)
    have e : prs (m, n) d = (max m (n + d), n + d) := rfl
    rw [e]
    refine ⟨by omega, fun j hj1 hj2 => ?_, fun w hw hj => h3 w ?_ fun j hj1 hj2 => ?_⟩
    · match j, hj1 with
      | 1, _ => simp; omega
      | j + 2, _ =>
        have := h2 (j + 1) (by omega) (by rw [List.length_cons] at hj2; omega)
        rw [List.take_succ_cons, List.sum_cons]; omega
    · have := hj 1 (Nat.le_refl _) (by simp)
      simp at this
      omega
    · have := hj (j + 1) (by omega) (by rw [List.length_cons]; omega)
      rw [List.take_succ_cons, List.sum_cons] at this
      omega
theorem pres_eq {ls : List Pr} {L : Nat} {u o : List Int} (h : Fin_ ls L u o) : pres ls L = u.length := by
  have hrl : ∀ (l : List Pr) (c : List Int), (l.foldl chg c).length = c.length := fun l => by
    induction l with
    | nil => intro c; rfl
    | cons q l ih => intro c; rw [List.foldl_cons, ih, chg_len]
  have hsum : ∀ j, 1 ≤ j → ((ls.foldl chg (List.replicate (L + 2) 0)).take j).sum = (cntF ls ((j : Int) - 2) : Nat) := fun j hj => by
    rw [chs_sum (L := L) hj ls _ (by simp) h.ok.2.2]
    have : ((List.replicate (L + 2) (0 : Int)).take j).sum = 0 := by rw [List.take_replicate]; induction (min j (L + 2)) with | zero => rfl | succ n ih => rw [List.replicate_succ, List.sum_cons, ih]; rfl
    rw [this]; omega
  obtain ⟨h1, h2, h3⟩ := prs_spec (ls.foldl chg (List.replicate (L + 2) 0)) 0 0
  rw [hrl, List.length_replicate] at h2 h3
  have hle : pres ls L ≤ u.length := h3 _ (by omega) (fun j hj1 hj2 => by
    rw [hsum j hj1]
    have := cnt_le h (s := (j : Int) - 2) (by omega)
    omega)
  rcases Nat.eq_zero_or_pos u.length with h0 | h0
  · have : (0 : Int) ≤ pres ls L := h1
    omega
  · obtain ⟨r, hr, hc⟩ := cnt_ge h h0
    obtain ⟨hr0, hr1, hr2⟩ := mem_ord.1 hr
    have hri := iv_at h.ok hr0 hr1
    have := h2 (kx ls r + 2).toNat (by omega) (by omega)
    rw [hsum _ (by omega), show (((kx ls r + 2).toNat : Nat) : Int) - 2 = kx ls r by omega] at this
    have : (0 : Int) + (cntF ls (kx ls r) : Nat) ≤ pres ls L := this
    omega
theorem ivF_okL {p : Prg} (h : p.code.length ≤ 16384) : IvOk (ivF p) p.code.length := by
  by_cases hv : validF p = 0
  · rw [ivF, if_pos hv]; exact ivs_ok hv
  · rw [ivF, if_neg hv]
    exact ⟨by simp, h, fun q hq => by cases hq⟩
theorem fin_of {ls : List Pr} {L : Nat} (hok : IvOk ls L) : Fin_ ls L (greedy ls (ordF ls)).1 (asg ls) := ⟨hok, (asg_main hok).2⟩
end Go.Proofs.Ytnhljpbpfaablaa.VS
