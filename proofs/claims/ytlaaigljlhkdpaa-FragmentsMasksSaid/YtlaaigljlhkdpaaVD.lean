/- What this seat's rows share: closed facts, triangles and areas as data. Conditions: none. -/
import Derived.Test.YtlaaigljlhkdpaaR3
import Derived.Test.YtlaaigljlhkdpaaF11
namespace Go.Proofs.Ytlaaigljlhkdpaa.VS
open Go Go.RowKit Go.ChangeShapes Go.WideShapes Go.ChangeAt

theorem own : ownKnob Try.prog.godebug = none := by kernel_rfl
theorem laid : laidOutB Try.prog = true := by kernel_rfl
theorem All2.split {α β : Type} {R : α → β → Prop} : ∀ {a b : List α} {l : List β}, All2 R (a ++ b) l → ∃ l1 l2, l = l1 ++ l2 ∧ All2 R a l1 ∧ All2 R b l2
  | [], b, l, h => ⟨[], l, rfl, .nil, h⟩
  | x :: a, b, _ :: l, .cons h1 h2 => by
    obtain ⟨l1, l2, rfl, h3, h4⟩ := All2.split (a := a) h2
    exact ⟨_ :: l1, l2, rfl, .cons h1 h3, h4⟩
abbrev ctV : List CT := [.i .i64, .i .i64, .i .i64, .i .i64, .sl 8 [.i .i64]]
abbrev ctT : List CT := ctV ++ (ctV ++ (ctV ++ [.i .i64, .b]))
abbrev ctA : List CT := ctT ++ [.i .i64, .i .i64, .i .i64, .i .i64, .i .i64]
theorem dec_V {bd : Nat → Nat → Prop} : Dec bd ctV V (fun v => bd 8 v.vs.length) := by
  intro x h
  cases h with
  | cons h1 h =>
  cases h with
  | cons h2 h =>
  cases h with
  | cons h3 h =>
  cases h with
  | cons h4 h =>
  cases h with
  | cons h5 h =>
  cases h
  obtain ⟨a, rfl, _⟩ := has_int h1
  obtain ⟨b, rfl, _⟩ := has_int h2
  obtain ⟨c, rfl, _⟩ := has_int h3
  obtain ⟨d, rfl, _⟩ := has_int h4
  obtain ⟨l, rfl, hl, _⟩ := has_list dec_int h5
  exact ⟨⟨a, b, c, d, l⟩, rfl, hl⟩
theorem dec_T {bd : Nat → Nat → Prop} : Dec bd ctT Tri (fun _ => True) := by
  intro x h
  obtain ⟨l1, r1, rfl, h1, k1⟩ := All2.split h
  obtain ⟨l2, r2, rfl, h2, k2⟩ := All2.split k1
  obtain ⟨l3, r3, rfl, h3, k3⟩ := All2.split k2
  obtain ⟨a, rfl, _⟩ := dec_V _ h1
  obtain ⟨b, rfl, _⟩ := dec_V _ h2
  obtain ⟨c, rfl, _⟩ := dec_V _ h3
  cases k3 with
  | cons h4 k3 =>
  cases k3 with
  | cons h5 k3 =>
  cases k3
  obtain ⟨p, rfl, _⟩ := has_int h4
  obtain ⟨f, rfl⟩ := has_bool h5
  exact ⟨⟨⟨a, b, c⟩, p, f⟩, rfl, trivial⟩
theorem dec_A {bd : Nat → Nat → Prop} : Dec bd ctA Area (fun _ => True) := by
  intro x h
  obtain ⟨l1, r, rfl, h0, k⟩ := All2.split h
  obtain ⟨t, rfl, _⟩ := dec_T _ h0
  cases k with
  | cons h1 k =>
  cases k with
  | cons h2 k =>
  cases k with
  | cons h3 k =>
  cases k with
  | cons h4 k =>
  cases k with
  | cons h5 k =>
  cases k
  obtain ⟨a, rfl, _⟩ := has_int h1
  obtain ⟨b, rfl, _⟩ := has_int h2
  obtain ⟨c, rfl, _⟩ := has_int h3
  obtain ⟨d, rfl, _⟩ := has_int h4
  obtain ⟨e, rfl, _⟩ := has_int h5
  exact ⟨⟨t, a, b, c, d, e⟩, rfl, trivial⟩
end Go.Proofs.Ytlaaigljlhkdpaa.VS
