/- The library's sort and compaction over a row of the call's own, and over nothing. Conditions: none. -/
import Derived.Test.YtlmecogidnbpjaaV22
import Derived.Test.YtlmecogidnbpjaaT
import Derived.Test.YtlmecogidnbpjaaSP
namespace Go.Proofs.Ytlmecogidnbpjaa.VS
open Go Go.RowKit
theorem sortC : SortC Try.prog 30 := fun blk off cap zs w hH hb hl => Try.slices_Sort_int blk off cap zs w hH hb hl
theorem compC : CompC Try.prog 31 := fun blk off cap zs w hH hl hc => Try.slices_Compact_int blk off cap zs w hH hl hc
theorem nilv_rep {w : World} {ok : Nat → Prop} {v : Value} (h : (L ([] : List Int)).rep w ok v) : ∃ a c, v = .slice a 0 c := by
  have h : FRep w ok (.sl []) v := h
  cases h with
  | sl xs A n c sz vs hn hc hm hsz hA hv hz =>
    have : n = 0 := by simpa using hn
    subst this
    exact ⟨_, _, rfl⟩
theorem c30e : Fn Try.prog 30 [L ([] : List Int)] .none := by
  intro w ok vs h
  cases h with
  | cons h1 h =>
  cases h
  obtain ⟨a, c, rfl⟩ := nilv_rep h1
  refine (Try.slices_Sort_int_none a c w).mono fun e w' h => ?_
  obtain ⟨rfl, rfl⟩ := h
  exact ⟨_, rfl, Below.refl _ _, rfl⟩
theorem c31e : Fn Try.prog 31 [L ([] : List Int)] (.one (L ([] : List Int))) := by
  intro w ok vs h
  cases h with
  | cons h1 h =>
  cases h
  have h2 := h1
  obtain ⟨a, c, rfl⟩ := nilv_rep h1
  refine (Try.slices_Compact_int_empty a c w).mono fun e w' h => ?_
  obtain ⟨rfl, rfl⟩ := h
  exact ⟨_, rfl, Below.refl _ _, FRep.mono (fun k hk _ => ⟨rfl, fun _ => hk⟩) h2⟩
end Go.Proofs.Ytlmecogidnbpjaa.VS
