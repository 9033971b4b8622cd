/- The row layer, part 2: a law's statement from its walk, in both forms. Conditions: none. -/
import Derived.Test.YtnhljpbpfaablaaR1
import Derived.Test.YtnhljpbpfaablaaRows
import Derived.JoinedCond
set_option linter.unusedSimpArgs false
set_option linter.unusedVariables false
namespace Go.Proofs.Ytnhljpbpfaablaa.VS
open Go Go.RowKit Go.ChangeShapes Go.WideShapes Go.ChangeAt

section
variable {H : Type} {enc : TypeId × Value → H} {P : Program} {W : World}
/-- What a law's walk is to give. -/
theorem law_contract {f : FuncId} {fn : Func} {s : ChangeSpec} {bd : Nat → Nat → Prop} {G : TypeId → DataW H → Prop} {cts : List (Bool × List CT)} {tb n : Nat} {apart fresh handsOn again : Bool} {base : Nat} {args : Array Value} {ds gs : List (DataW H)} {before : List MemPlace}
    (hG : Closed P bd G) (hl : laidOutB P = true) (hvars : s.vars = []) (hts : fn.params.toList.all (fun t => P.readableRec t && decide (t < P.types.size)) = true) (hres : fn.resultTypes = #[tb]) (htb : P.underlying tb = some .bool)
    (hfn : ∀ ds : List (DataW H), ds.length = fn.params.toList.length → (s.fn H ds).results = [.lit (.bool true)] ∧ (s.fn H ds).args = ds ∧ (s.fn H ds).vars = [])
    (hc : fn.params.toList.map (shape P n) = cts.map some) (hF : ∀ xs, All2 (Top bd) cts xs → Fn P f xs (.one (.v (.b true))))
    (hval : ∀ (j : Nat) t v, fn.params[j]? = some t → args[j]? = some v → Value.okWide P W .any base t v) (hW : DataW.Whole enc P fn.params.toList s.vars apart W args.toList ds gs before)
    (hg : ∀ (j : Nat) t d, fn.params.toList[j]? = some t → ds[j]? = some d → G t d) : Calls P f args W fun e W' => ∃ v, e = .returned v ∧ s.post enc P fn apart fresh handsOn again W args v W' := by
  have hW' := hW
  obtain ⟨p, q, hA, hV, _⟩ := hW
  obtain ⟨xs, h1, h2⟩ := top_all hG fn.params.toList args.toList ds p cts hA (fun j t v hj hk => hval j t v (by simpa using hj) (by simpa using hk)) hg hc
  have := hF xs h2 W All args.toList h1
  rw [Array.toArray_toList] at this
  refine this.mono fun e W' ⟨v, he, hb, hv⟩ => ⟨v, he, ?_⟩
  have hv : FRep _ _ (.b true) v := hv
  cases hv
  exact post_law hl hvars (fun t ht => List.all_eq_true.1 hts t ht) hres htb hfn hW' hb
/-- The first form: each slice has its room. -/
def bdF (b n : Nat) : Prop := n * b ≤ 140737488351232
def gFw (P : Program) (t : TypeId) (d : DataW H) : Prop := ∀ n ∈ d.weights P t, n ≤ 140737488351232
theorem reach_num : reachBytes = 140737488351232 := by decide
theorem weightsAll_mem {P : Program} {e : TypeId} {n : Nat} : ∀ {l : List (DataW H)} {d : DataW H}, d ∈ l → n ∈ d.weights P e → n ∈ DataW.weightsAll P e l
  | x :: l, d, h, hn => by
    simp only [DataW.weightsAll, List.mem_append]
    cases List.mem_cons.1 h with
    | inl h => subst h; exact .inl hn
    | inr h => exact .inr (weightsAll_mem h hn)
theorem closedF : Closed (H := H) P bdF (gFw P) where
  nil := fun t e hu => by simp [bdF]
  slice := fun t e elems spare hu hg => by
    refine ⟨?_, fun x hx n hn => hg n ?_⟩
    · have := hg ((elems.length + spare.length) * P.bytesOf e) (by simp [DataW.weights, hu])
      exact Nat.le_trans (Nat.mul_le_mul_right _ (Nat.le_add_right _ _)) this
    · simp only [DataW.weights, hu, List.mem_cons, List.mem_append]
      exact .inr (.inl (weightsAll_mem hx hn))
  struct := fun t fs parts hu hg i f d hf hd n hn => by
    refine hg n ?_
    simp only [DataW.weights, hu]
    exact DataW.weights_mem_each (j := i) (by simp [hf]) hd n hn
  array := fun t k e parts hu hg d hd n hn => by
    refine hg n ?_
    simp only [DataW.weights, hu]
    exact weightsAll_mem hd hn
/-- The second form: each slice has few elements. -/
def bdU (b n : Nat) : Prop := n ≤ 1048576
def gU (t : TypeId) (d : DataW H) : Prop := Rows.uptoBulk d ≤ 1048576
theorem bulk_one (d : DataW H) : 1 ≤ Rows.uptoBulk d := by
  cases d with
  | lit l => cases l <;> simp [Rows.uptoBulk]
  | _ => simp [Rows.uptoBulk]
theorem bulk_part {d : DataW H} {l : List (DataW H)} (h : d ∈ l) : Rows.uptoBulk d ≤ Rows.uptoBulkAll l := by
  induction l with
  | nil => cases h
  | cons x r ih =>
    simp only [Rows.uptoBulkAll]
    cases List.mem_cons.1 h with
    | inl e => subst e; omega
    | inr e => have := ih e; omega
theorem bulk_len (l : List (DataW H)) : l.length ≤ Rows.uptoBulkAll l := by
  induction l with
  | nil => simp [Rows.uptoBulkAll]
  | cons x r ih => have := bulk_one x; simp only [Rows.uptoBulkAll, List.length_cons]; omega
theorem closedU : Closed (H := H) P bdU gU where
  nil := fun t e hu => by simp [bdU]
  slice := fun t e elems spare hu hg => by
    simp only [gU, Rows.uptoBulk] at hg
    have := bulk_len elems
    exact ⟨by simp only [bdU]; omega, fun x hx => by have := bulk_part hx; simp only [gU]; omega⟩
  struct := fun t fs parts hu hg i f d hf hd => by
    simp only [gU, Rows.uptoBulk] at hg ⊢
    have := bulk_part (List.mem_of_getElem? hd)
    omega
  array := fun t k e parts hu hg d hd => by
    simp only [gU, Rows.uptoBulk] at hg ⊢
    have := bulk_part hd
    omega
end
end Go.Proofs.Ytnhljpbpfaablaa.VS
