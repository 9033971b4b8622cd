/- Results of lanes as data. Conditions: none. -/
import Derived.Test.YtolbhipnbhehdaaVD
import Derived.Test.YtolbhipnbhehdaaF10
namespace Go.Proofs.Ytolbhipnbhehdaa.VS
open Go Go.RowKit Go.ChangeShapes Go.WideShapes Go.ChangeAt
theorem dec_LR {bd : Nat → Nat → Prop} : Dec bd [.sl 8 [.i .i64], .b, .sl 24 [.sl 8 [.i .i64]], .sl 8 [.i .i64]] LR (fun r => ∀ l ∈ r.em, bd 8 l.length) := by
  intro x h
  cases h with
  | cons h1 h =>
  cases h with
  | cons h2 h =>
  cases h with
  | cons h3 h =>
  cases h with
  | cons h4 h =>
  cases h
  obtain ⟨a, rfl, _⟩ := has_list dec_int h1
  obtain ⟨b, rfl⟩ := has_bool h2
  obtain ⟨c, rfl, _, _, hc⟩ := has_list (dec_list dec_int) h3
  obtain ⟨d, rfl, _⟩ := has_list dec_int h4
  exact ⟨⟨a, b, c, d⟩, rfl, fun l hl => (hc l hl).1⟩
end Go.Proofs.Ytolbhipnbhehdaa.VS
