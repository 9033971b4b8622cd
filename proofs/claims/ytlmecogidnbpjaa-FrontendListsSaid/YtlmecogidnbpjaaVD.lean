/- What this seat's rows share: closed facts, pipelines and triangles as data. Conditions: none. -/
import Derived.Test.YtlmecogidnbpjaaR3
import Derived.Test.YtlmecogidnbpjaaF10
namespace Go.Proofs.Ytlmecogidnbpjaa.VS
open Go Go.RowKit Go.ChangeShapes Go.WideShapes Go.ChangeAt

theorem own : ownKnob Try.prog.godebug = none := by kernel_rfl
theorem laid : laidOutB Try.prog = true := by kernel_rfl
theorem All2.split {α β : Type} {R : α → β → Prop} : ∀ {a b : List α} {l : List β}, All2 R (a ++ b) l → ∃ l1 l2, l = l1 ++ l2 ∧ All2 R a l1 ∧ All2 R b l2
  | [], b, l, h => ⟨[], l, rfl, .nil, h⟩
  | x :: a, b, _ :: l, .cons h1 h2 => by
    obtain ⟨l1, l2, rfl, h3, h4⟩ := All2.split (a := a) h2
    exact ⟨_ :: l1, l2, rfl, .cons h1 h3, h4⟩
abbrev ctV : List CT := [.i .i64, .i .i64, .i .i64, .i .i64, .sl 8 [.i .i64]]
abbrev ctT : List CT := ctV ++ (ctV ++ ctV)
theorem dec_V {bd : Nat → Nat → Prop} : Dec bd ctV V (fun v => bd 8 v.vs.length) := by
  intro x h
  cases h with
  | cons h1 h =>
  cases h with
  | cons h2 h =>
  cases h with
  | cons h3 h =>
  cases h with
  | cons h4 h =>
  cases h with
  | cons h5 h =>
  cases h
  obtain ⟨a, rfl, _⟩ := has_int h1
  obtain ⟨b, rfl, _⟩ := has_int h2
  obtain ⟨c, rfl, _⟩ := has_int h3
  obtain ⟨d, rfl, _⟩ := has_int h4
  obtain ⟨l, rfl, hl, _⟩ := has_list dec_int h5
  exact ⟨⟨a, b, c, d, l⟩, rfl, hl⟩
theorem dec_T {bd : Nat → Nat → Prop} : Dec bd ctT (T3 V) (fun t => bd 8 t.a.vs.length ∧ bd 8 t.b.vs.length ∧ bd 8 t.c.vs.length) := by
  intro x h
  obtain ⟨l1, r1, rfl, h1, k1⟩ := All2.split h
  obtain ⟨l2, r2, rfl, h2, k2⟩ := All2.split k1
  obtain ⟨a, rfl, ha⟩ := dec_V _ h1
  obtain ⟨b, rfl, hb⟩ := dec_V _ h2
  obtain ⟨c, rfl, hc⟩ := dec_V _ k2
  exact ⟨⟨a, b, c⟩, rfl, ha, hb, hc⟩
abbrev ctP : List CT := [.i .i64, .i .i64, .i .i64, .i .i64, .i .i64, .i .i64, .i .i64, .sl 48 [.i .i64, .i .i64, .i .i64, .i .i64, .i .i64, .i .i64], .i .i64, .i .i64, .i .i64, .i .i64, .i .i64, .i .i64, .i .i64, .sl 48 [.i .i64, .i .i64, .i .i64, .i .i64, .i .i64, .i .i64], .i .i64, .i .i64, .i .i64, .i .i64, .i .i64, .i .i64, .i .i64, .sl 48 [.i .i64, .i .i64, .i .i64, .i .i64, .i .i64, .i .i64], .b, .sl 32 [.i .i64, .i .i64, .i .i64, .i .i64], .i .i64, .i .i64, .b, .i .i64, .i .i64, .i .i64, .i .i64, .i .i64, .i .i64, .b, .b, .i .i64, .i .i64, .b, .i .i64, .i .i64, .i .i64, .i .i64, .i .i64, .i .i64, .i .i64, .i .i64, .i .i64, .i .i64, .i .i64, .b, .i .i64, .i .i64, .i .i64, .i .i64, .i .i64, .i .i64, .i .i64, .i .i64, .i .i64, .i .i64]
set_option maxRecDepth 100000 in
theorem dec_P {bd : Nat → Nat → Prop} {x : List FV} (h : All2 (Has bd) ctP x) : ∃ g m cw p, x = plC g m cw p := by
  cases h with
  | cons h0 h =>
  cases h with
  | cons h1 h =>
  cases h with
  | cons h2 h =>
  cases h with
  | cons h3 h =>
  cases h with
  | cons h4 h =>
  cases h with
  | cons h5 h =>
  cases h with
  | cons h6 h =>
  cases h with
  | cons h7 h =>
  cases h with
  | cons h8 h =>
  cases h with
  | cons h9 h =>
  cases h with
  | cons h10 h =>
  cases h with
  | cons h11 h =>
  cases h with
  | cons h12 h =>
  cases h with
  | cons h13 h =>
  cases h with
  | cons h14 h =>
  cases h with
  | cons h15 h =>
  cases h with
  | cons h16 h =>
  cases h with
  | cons h17 h =>
  cases h with
  | cons h18 h =>
  cases h with
  | cons h19 h =>
  cases h with
  | cons h20 h =>
  cases h with
  | cons h21 h =>
  cases h with
  | cons h22 h =>
  cases h with
  | cons h23 h =>
  cases h with
  | cons h24 h =>
  cases h with
  | cons h25 h =>
  cases h with
  | cons h26 h =>
  cases h with
  | cons h27 h =>
  cases h with
  | cons h28 h =>
  cases h with
  | cons h29 h =>
  cases h with
  | cons h30 h =>
  cases h with
  | cons h31 h =>
  cases h with
  | cons h32 h =>
  cases h with
  | cons h33 h =>
  cases h with
  | cons h34 h =>
  cases h with
  | cons h35 h =>
  cases h with
  | cons h36 h =>
  cases h with
  | cons h37 h =>
  cases h with
  | cons h38 h =>
  cases h with
  | cons h39 h =>
  cases h with
  | cons h40 h =>
  cases h with
  | cons h41 h =>
  cases h with
  | cons h42 h =>
  cases h with
  | cons h43 h =>
  cases h with
  | cons h44 h =>
  cases h with
  | cons h45 h =>
  cases h with
  | cons h46 h =>
  cases h with
  | cons h47 h =>
  cases h with
  | cons h48 h =>
  cases h with
  | cons h49 h =>
  cases h with
  | cons h50 h =>
  cases h with
  | cons h51 h =>
  cases h with
  | cons h52 h =>
  cases h with
  | cons h53 h =>
  cases h with
  | cons h54 h =>
  cases h with
  | cons h55 h =>
  cases h with
  | cons h56 h =>
  cases h with
  | cons h57 h =>
  cases h with
  | cons h58 h =>
  cases h with
  | cons h59 h =>
  cases h with
  | cons h60 h =>
  cases h with
  | cons h61 h =>
  cases h
  rename_i y0 y1 y2 y3 y4 y5 y6 y7 y8 y9 y10 y11 y12 y13 y14 y15 y16 y17 y18 y19 y20 y21 y22 y23 y24 y25 y26 y27 y28 y29 y30 y31 y32 y33 y34 y35 y36 y37 y38 y39 y40 y41 y42 y43 y44 y45 y46 y47 y48 y49 y50 y51 y52 y53 y54 y55 y56 y57 y58 y59 y60 y61
  obtain ⟨m, rfl, _⟩ := has_int h27
  obtain ⟨cw, rfl⟩ := has_bool h28
  obtain ⟨p1, rfl, _⟩ := has_int h29
  obtain ⟨p2, rfl, _⟩ := has_int h30
  obtain ⟨p3, rfl, _⟩ := has_int h31
  obtain ⟨p4, rfl, _⟩ := has_int h32
  obtain ⟨p5, rfl, _⟩ := has_int h33
  obtain ⟨p6, rfl, _⟩ := has_int h34
  exact ⟨fun k => [y0, y1, y2, y3, y4, y5, y6, y7, y8, y9, y10, y11, y12, y13, y14, y15, y16, y17, y18, y19, y20, y21, y22, y23, y24, y25, y26, .zz, .zz, .zz, .zz, .zz, .zz, .zz, .zz, y35, y36, y37, y38, y39, y40, y41, y42, y43, y44, y45, y46, y47, y48, y49, y50, y51, y52, y53, y54, y55, y56, y57, y58, y59, y60, y61].getD k .zz, m, cw, ⟨p1, p2, p3, p4, p5, p6⟩, rfl⟩
end Go.Proofs.Ytlmecogidnbpjaa.VS
