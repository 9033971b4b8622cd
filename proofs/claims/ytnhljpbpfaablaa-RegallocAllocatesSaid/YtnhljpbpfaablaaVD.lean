/- What this seat's rows share: closed facts, programs as data. Conditions: none. -/
import Derived.Test.YtnhljpbpfaablaaR3
import Derived.Test.YtnhljpbpfaablaaF18
namespace Go.Proofs.Ytnhljpbpfaablaa.VS
open Go Go.RowKit Go.ChangeShapes Go.WideShapes Go.ChangeAt

theorem own : ownKnob Try.prog.godebug = none := by kernel_rfl
theorem laid : laidOutB Try.prog = true := by kernel_rfl
abbrev ctI : List CT := [.i .i64, .i .i64, .i .i64, .i .i64, .i .i64, .i .i64]
abbrev ctP : List CT := [.i .i64, .i .i64, .i .i64, .i .i64, .i .i64, .i .i64, .i .i64, .sl 48 ctI]
theorem dec_I {bd : Nat → Nat → Prop} : Dec bd ctI Ins (fun _ => True) := by
  intro x h
  cases h with
  | cons h1 h =>
  cases h with
  | cons h2 h =>
  cases h with
  | cons h3 h =>
  cases h with
  | cons h4 h =>
  cases h with
  | cons h5 h =>
  cases h with
  | cons h6 h =>
  cases h
  obtain ⟨a, rfl, _⟩ := has_int h1
  obtain ⟨b, rfl, _⟩ := has_int h2
  obtain ⟨c, rfl, _⟩ := has_int h3
  obtain ⟨d, rfl, _⟩ := has_int h4
  obtain ⟨e, rfl, _⟩ := has_int h5
  obtain ⟨f, rfl, _⟩ := has_int h6
  exact ⟨⟨a, b, c, d, e, f⟩, rfl, trivial⟩
theorem dec_P {bd : Nat → Nat → Prop} : Dec bd ctP Prg (fun p => bd 48 p.code.length) := by
  intro x h
  cases h with
  | cons h1 h =>
  cases h with
  | cons h2 h =>
  cases h with
  | cons h3 h =>
  cases h with
  | cons h4 h =>
  cases h with
  | cons h5 h =>
  cases h with
  | cons h6 h =>
  cases h with
  | cons h7 h =>
  cases h with
  | cons h8 h =>
  cases h
  obtain ⟨a, rfl, _⟩ := has_int h1
  obtain ⟨b, rfl, _⟩ := has_int h2
  obtain ⟨c, rfl, _⟩ := has_int h3
  obtain ⟨d, rfl, _⟩ := has_int h4
  obtain ⟨e, rfl, _⟩ := has_int h5
  obtain ⟨f, rfl, _⟩ := has_int h6
  obtain ⟨g, rfl, _⟩ := has_int h7
  obtain ⟨l, rfl, hl, _⟩ := has_list dec_I h8
  exact ⟨⟨a, b, c, d, e, f, g, l⟩, rfl, hl⟩
theorem all_P {f : Nat} (h : ∀ p : Prg, p.code.length * 48 ≤ 140737488351232 → Fn Try.prog f [A p] (.one (.v (.b true)))) (xs : List RV) (hx : All2 (Top bdF) [(true, ctP)] xs) : Fn Try.prog f xs (.one (.v (.b true))) := by
  cases hx with
  | cons h1 hx =>
  cases hx
  cases h1 with
  | agg h1 =>
  obtain ⟨p, rfl, hp⟩ := dec_P _ h1
  exact h p hp
end Go.Proofs.Ytnhljpbpfaablaa.VS
