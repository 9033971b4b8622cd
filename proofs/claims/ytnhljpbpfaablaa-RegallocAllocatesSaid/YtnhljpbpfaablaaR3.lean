/- The row layer, part 3: what cells of a type say, as Lean's own data. Conditions: none. -/
import Derived.Test.YtnhljpbpfaablaaR2
set_option linter.unusedSimpArgs false
set_option linter.unusedVariables false
namespace Go.Proofs.Ytnhljpbpfaablaa.VS
open Go Go.RowKit Go.ChangeShapes Go.WideShapes Go.ChangeAt

section
variable {bd : Nat → Nat → Prop}
def Dec (bd : Nat → Nat → Prop) (l : List CT) (α : Type) [Enc α] (p : α → Prop) : Prop := ∀ x, All2 (Has bd) l x → ∃ a : α, x = Enc.c a ∧ p a
def in64 (n : Int) : Prop := -9223372036854775808 ≤ n ∧ n ≤ 9223372036854775807
theorem wf64 {n : Int} (h : (Lit.int .i64 n).wf = true) : in64 n := by
  simpa [in64, Lit.wf, IntKind.min, IntKind.max, IntKind.signed, IntKind.bits] using h
theorem has_int {y : FV} (h : Has bd (.i .i64) y) : ∃ n, y = .i .i64 n ∧ in64 n := by
  cases h with
  | i k n h => exact ⟨n, rfl, wf64 h⟩
theorem has_bool {y : FV} (h : Has bd .b y) : ∃ n, y = .b n := by
  cases h with
  | b x => exact ⟨x, rfl⟩
theorem dec_int : Dec bd [.i .i64] Int in64 := by
  intro x h
  cases h with
  | cons h t =>
    cases t
    obtain ⟨n, rfl, h1⟩ := has_int h
    exact ⟨n, rfl, h1⟩
theorem dec_all {α : Type} [Enc α] {l : List CT} {p : α → Prop} (hd : Dec bd l α p) : ∀ xs : List (List FV), (∀ x ∈ xs, All2 (Has bd) l x) → ∃ ls : List α, xs = ls.map Enc.c ∧ ∀ a ∈ ls, p a
  | [], _ => ⟨[], rfl, fun a h => by cases h⟩
  | x :: xs, h => by
    obtain ⟨a, rfl, ha⟩ := hd x (h _ (.head _))
    obtain ⟨ls, rfl, has⟩ := dec_all hd xs (fun y hy => h y (.tail _ hy))
    exact ⟨a :: ls, rfl, fun b hb => by
      cases List.mem_cons.1 hb with
      | inl e => subst e; exact ha
      | inr e => exact has b e⟩
theorem has_list {α : Type} [Enc α] {l : List CT} {p : α → Prop} {b : Nat} (hd : Dec bd l α p) {y : FV} (h : Has bd (.sl b l) y) : ∃ ls : List α, y = .sl (ls.map Enc.c) ∧ bd b ls.length ∧ ls.length ≤ maxLen ∧ ∀ a ∈ ls, p a := by
  cases h with
  | sl _ _ xs h0 h1 h2 h3 =>
    obtain ⟨ls, rfl, has⟩ := dec_all hd xs (fun x hx => by
      obtain ⟨j, hj⟩ := List.getElem?_of_mem hx
      refine .of_get (h2 x hx).symm (fun i c y hc hy => h3 j i x c y hj hc hy))
    exact ⟨ls, rfl, by simpa using h1, by simpa using h0, has⟩
theorem dec_list {α : Type} [Enc α] {l : List CT} {p : α → Prop} {b : Nat} (hd : Dec bd l α p) : Dec bd [.sl b l] (List α) (fun ls => bd b ls.length ∧ ls.length ≤ maxLen ∧ ∀ a ∈ ls, p a) := by
  intro x h
  cases h with
  | cons h t =>
    cases t
    obtain ⟨ls, rfl, h1⟩ := has_list hd h
    exact ⟨ls, rfl, h1⟩
end
section
variable {H : Type} {P : Program}
theorem weights_in {ts vt : List TypeId} {ds gs : List (DataW H)} (h : (DataW.weightsEach P (ts ++ vt) (ds ++ gs)).all (· ≤ reachBytes) = true) : ∀ (j : Nat) t d, ts[j]? = some t → ds[j]? = some d → gFw P t d := by
  intro j t d ht hd n hn
  have hj := (List.getElem?_eq_some_iff.1 ht).1
  have hj' := (List.getElem?_eq_some_iff.1 hd).1
  have := List.all_eq_true.1 h _ (DataW.weights_mem_each (j := j) (t := t) (d := d) (by rw [List.getElem?_append_left hj]; exact ht) (by rw [List.getElem?_append_left hj']; exact hd) n hn)
  rw [← reach_num]
  simpa using this
theorem bulk_in {ds gs : List (DataW H)} (h : Rows.uptoSmall H (ds ++ gs) = true) (ts : List TypeId) : ∀ (j : Nat) t d, ts[j]? = some t → ds[j]? = some d → gU t d := by
  intro j t d _ hd
  have h : Rows.uptoBulkAll (ds ++ gs) ≤ 1048576 := of_decide_eq_true h
  have := bulk_part (List.mem_append.2 (.inl (List.mem_of_getElem? hd)) : d ∈ ds ++ gs)
  simp only [gU]
  omega
end
end Go.Proofs.Ytnhljpbpfaablaa.VS
