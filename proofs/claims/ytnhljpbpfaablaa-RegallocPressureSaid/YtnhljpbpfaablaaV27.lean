/- Value semantics, part 27: what is known of a state is made less in the midst of a region. Conditions: none. -/
import Derived.Test.YtnhljpbpfaablaaV26
set_option linter.unusedSimpArgs false
set_option linter.unusedVariables false
namespace Go.Proofs.Ytnhljpbpfaablaa.VS
open Go Go.RowKit

/-- Operations from a state on, in the text's order. -/
def AL (P : Program) (ops : Array Oper) (N : Nat) (Q : Exit → St → Prop) (l : List Oper) (S : St) : Prop :=
  ∀ (w0 : World) (ok0 : Nat → Prop) (a : Act) (w : World), Rel N w0 ok0 S.e S.o a w → wpList P ops (lift N w0 ok0 Q) l a w
section
variable {P : Program} {N : Nat} {Q : Exit → St → Prop} {S : St} {ops : Array Oper}
theorem rgA {id : Nat} (h : AL P ops N Q ops.toList S) : AWP P N (.region id ops false) Q S := fun w0 ok0 a w hr => wp_region_list (h w0 ok0 a w hr)
theorem sgA {id : Nat} {y : Code} (h : AL P ops N (thenA (AWP P N y Q) Q) ops.toList S) : AWP P N (.seq (.region id ops false) y) Q S := awp_seq (rgA h)
theorem al_runs {l : List Oper} (h : Runs P ops N (fun S' _ => Q .normal S') l S []) : AL P ops N Q l S := fun w0 ok0 a w hr => runs_wp l S [] a w h hr
theorem al_runsA {l : List Oper} {y : Code} (h : Runs P ops N (fun S' _ => AWP P N y Q S') l S []) : AL P ops N (thenA (AWP P N y Q) Q) l S := fun w0 ok0 a w hr => runs_wp l S [] a w h hr
theorem runs_join {w0 : World} {ok0 : Nat → Prop} {M : St → Prop} {l2 : List Oper} (h2 : ∀ S, M S → AL P ops N Q l2 S) : ∀ (l : List Oper) (S : St) (rs : List Rec) (a : Act) (w : World), Runs P ops N (fun S1 _ => Wk N S1 M) l S rs → Rel N w0 ok0 S.e S.o a w → wpList P ops (lift N w0 ok0 Q) (l ++ l2) a w
  | [], S, rs, a, w, h, hr => by
    have h : Wk N S M := h
    obtain ⟨S0, hw, hm⟩ := h
    exact h2 S0 hm w0 ok0 a w (hw w0 ok0 a w hr)
  | o' :: l, S, rs, a, w, h, hr => by
    obtain ⟨r, hop, hfit, hrest⟩ := h
    show if _ then _ ∨ _ else _
    have := hop w0 ok0 S.e S.o a w (fun _ _ => rfl) (fun _ _ => rfl) hr (wpList P ops (lift N w0 ok0 Q) (l ++ l2)) (lift N w0 ok0 Q) (fun a' w' hr' => runs_join h2 l _ (r :: rs) a' w' hrest (by rw [step_e, step_o _ _ _ hfit]; exact hr'))
    by_cases hw : Region.wanted o' (yielded ops a.tmps) = true
    · rw [if_pos hw] at this ⊢
      exact .inl this
    · rw [if_neg hw] at this ⊢
      exact this
theorem al_join {l : List Oper} (n : Nat) (M : St → Prop) (h1 : Runs P ops N (fun S1 _ => Wk N S1 M) (l.take n) S []) (h2 : ∀ S, M S → AL P ops N Q (l.drop n) S) : AL P ops N Q l S := by
  intro w0 ok0 a w hr
  have := runs_join (w0 := w0) (ok0 := ok0) h2 (l.take n) S [] a w h1 hr
  rwa [List.take_append_drop] at this
end
end Go.Proofs.Ytnhljpbpfaablaa.VS
