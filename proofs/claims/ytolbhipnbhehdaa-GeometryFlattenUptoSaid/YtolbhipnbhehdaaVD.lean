/- What this seat's rows share: closed facts, and vertices as data. Conditions: none. -/
import Derived.Test.YtolbhipnbhehdaaR3
import Derived.Test.YtolbhipnbhehdaaF1
namespace Go.Proofs.Ytolbhipnbhehdaa.VS
open Go Go.RowKit Go.ChangeShapes Go.WideShapes Go.ChangeAt

theorem own : ownKnob Try.prog.godebug = none := by kernel_rfl
theorem laid : laidOutB Try.prog = true := by kernel_rfl
theorem dec_V {bd : Nat → Nat → Prop} : Dec bd [.i .i64, .i .i64, .i .i64, .i .i64, .sl 8 [.i .i64]] V (fun v => bd 8 v.vs.length) := by
  intro x h
  cases h with
  | cons h1 h =>
  cases h with
  | cons h2 h =>
  cases h with
  | cons h3 h =>
  cases h with
  | cons h4 h =>
  cases h with
  | cons h5 h =>
  cases h
  obtain ⟨a, rfl, _⟩ := has_int h1
  obtain ⟨b, rfl, _⟩ := has_int h2
  obtain ⟨c, rfl, _⟩ := has_int h3
  obtain ⟨d, rfl, _⟩ := has_int h4
  obtain ⟨l, rfl, hl, _⟩ := has_list dec_int h5
  exact ⟨⟨a, b, c, d, l⟩, rfl, hl⟩
end Go.Proofs.Ytolbhipnbhehdaa.VS
