/- Counting different numbers: sorted and compacted, or by the first places. Conditions: none. -/
import Derived.Test.YtlmecogidnbpjaaV22
namespace Go.Proofs.Ytlmecogidnbpjaa.VS
open Go

/-- The different ones among the first. -/
def nub : List Int → List Int
  | [] => []
  | z :: zs => if z ∈ zs then nub zs else z :: nub zs
theorem nub_mem : ∀ {zs : List Int} {x : Int}, x ∈ nub zs ↔ x ∈ zs
  | [], x => by simp [nub]
  | z :: zs, x => by
    rw [nub]
    split
    · rename_i h
      rw [nub_mem, List.mem_cons]
      exact ⟨.inr, fun h' => by
        rcases h' with rfl | h'
        · exact h
        · exact h'⟩
    · rw [List.mem_cons, List.mem_cons, nub_mem]
theorem nub_nodup : ∀ zs : List Int, (nub zs).Nodup
  | [] => by simp [nub]
  | z :: zs => by
    rw [nub]
    split
    · exact nub_nodup zs
    · rename_i h
      exact List.nodup_cons.2 ⟨fun h' => h (nub_mem.1 h'), nub_nodup zs⟩
/-- How many there are among the first k. -/
def difs (zs : List Int) (k : Nat) : Nat := (nub (zs.take k).reverse).length
theorem difs_succ {zs : List Int} {k : Nat} {z : Int} (h : zs[k]? = some z) : difs zs (k + 1) = if z ∈ zs.take k then difs zs k else difs zs k + 1 := by
  have hk : k < zs.length := (List.getElem?_eq_some_iff.1 h).1
  have e : zs.take (k + 1) = zs.take k ++ [z] := by
    rw [List.take_add_one, h]; rfl
  unfold difs
  rw [e, List.reverse_append]
  show (nub (z :: (zs.take k).reverse)).length = _
  rw [nub]
  simp only [List.mem_reverse]
  split <;> simp
theorem difs_le (zs : List Int) : ∀ k, difs zs k ≤ k
  | 0 => by simp [difs, nub]
  | k + 1 => by
    have ih := difs_le zs k
    cases h : zs[k]? with
    | some z => rw [difs_succ h]; split <;> omega
    | none =>
      have hk : zs.length ≤ k := List.getElem?_eq_none_iff.1 h
      have : difs zs (k + 1) = difs zs k := by unfold difs; rw [List.take_of_length_le hk, List.take_of_length_le (by omega)]
      omega
theorem comp_good (d : Array Int) (hs : ∀ i j, i ≤ j → j < d.size → d[i]! ≤ d[j]!) : ∀ m, m ≤ d.size → (Lib.compactUpTo d m).Pairwise (· < ·) ∧ (∀ x, x ∈ Lib.compactUpTo d m ↔ ∃ i, i < m ∧ d[i]! = x)
  | 0, _ => by simp [Lib.compactUpTo]
  | m + 1, hm => by
    obtain ⟨ih1, ih2⟩ := comp_good d hs m (by omega)
    rw [Lib.compactUpTo_succ]
    by_cases hk : Lib.keeps d m = true
    · rw [if_pos hk]
      have hk' : m = 0 ∨ d[m]! ≠ d[m - 1]! := of_decide_eq_true hk
      refine ⟨?_, fun x => ?_⟩
      · rw [List.pairwise_append]
        refine ⟨ih1, by simp, fun a ha b hb => ?_⟩
        rw [List.mem_singleton] at hb
        subst hb
        obtain ⟨i, hi, rfl⟩ := (ih2 a).1 ha
        have h1 := hs i (m - 1) (by omega) (by omega)
        have h2 := hs (m - 1) m (by omega) (by omega)
        have h3 : d[m]! ≠ d[m - 1]! := by
          rcases hk' with h | h
          · omega
          · exact h
        omega
      · rw [List.mem_append, ih2, List.mem_singleton]
        constructor
        · rintro (⟨i, hi, rfl⟩ | rfl)
          · exact ⟨i, by omega, rfl⟩
          · exact ⟨m, by omega, rfl⟩
        · rintro ⟨i, hi, rfl⟩
          by_cases e : i = m
          · subst e; exact .inr rfl
          · exact .inl ⟨i, by omega, rfl⟩
    · have hk' : ¬ (m = 0 ∨ d[m]! ≠ d[m - 1]!) := fun h => hk (decide_eq_true h)
      rw [if_neg hk, List.append_nil]
      refine ⟨ih1, fun x => ?_⟩
      rw [ih2]
      constructor
      · rintro ⟨i, hi, rfl⟩; exact ⟨i, by omega, rfl⟩
      · rintro ⟨i, hi, rfl⟩
        by_cases e : i = m
        · subst e
          refine ⟨i - 1, by omega, ?_⟩
          have : d[i]! = d[i - 1]! := Decidable.not_not.1 (fun h => hk' (.inr h))
          exact this.symm
        · exact ⟨i, by omega, rfl⟩
theorem nodup_len {a b : List Int} (ha : a.Nodup) (hb : b.Nodup) (h : ∀ x, x ∈ a ↔ x ∈ b) : a.length = b.length :=
  ((List.perm_ext_iff_of_nodup ha hb).2 h).length_eq
theorem prims_len (zs : List Int) : (Lib.compact (srt zs)).length = difs zs zs.length := by
  have hp : (srt zs).Perm zs := List.mergeSort_perm zs _
  have hs : (srt zs).Pairwise (fun x y => decide (x ≤ y) = true) := List.pairwise_mergeSort (le := fun (x y : Int) => decide (x ≤ y)) (by intro a b c h1 h2; simp at *; omega) (by intro a b; simp; omega) zs
  have hs' : ∀ i j, i ≤ j → j < (srt zs).toArray.size → (srt zs).toArray[i]! ≤ (srt zs).toArray[j]! := by
    intro i j hij hj
    have hj' : j < (srt zs).length := by simpa using hj
    have e1 : (srt zs).toArray[i]! = (srt zs)[i]'(by omega) := by rw [getElem!_pos (srt zs).toArray i (show i < (srt zs).toArray.size by simpa using (show i < (srt zs).length by omega))]; rfl
    have e2 : (srt zs).toArray[j]! = (srt zs)[j]'hj' := by rw [getElem!_pos (srt zs).toArray j hj]; rfl
    rw [e1, e2]
    by_cases e : i = j
    · subst e; exact Int.le_refl _
    · exact of_decide_eq_true (List.pairwise_iff_getElem.1 hs i j (by omega) hj' (by omega))
  obtain ⟨g1, g2⟩ := comp_good _ hs' (srt zs).length (by simp)
  unfold difs
  rw [List.take_of_length_le (Nat.le_refl _)]
  refine nodup_len (g1.imp (fun h e => by omega)) (nub_nodup _) fun x => ?_
  rw [nub_mem, List.mem_reverse, ← hp.mem_iff]
  show x ∈ Lib.compactUpTo (srt zs).toArray (srt zs).length ↔ _
  rw [g2, List.mem_iff_getElem]
  constructor
  · rintro ⟨i, hi, rfl⟩
    exact ⟨i, hi, by rw [getElem!_pos (srt zs).toArray i (by simpa using hi)]; rfl⟩
  · rintro ⟨i, hi, rfl⟩
    exact ⟨i, hi, by rw [getElem!_pos (srt zs).toArray i (by simpa using hi)]; rfl⟩
end Go.Proofs.Ytlmecogidnbpjaa.VS
