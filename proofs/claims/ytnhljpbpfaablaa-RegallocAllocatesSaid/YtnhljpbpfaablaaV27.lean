/- Value semantics, part 27: what is known of a state is made less in the midst of a region; the ends of functions that turn the caller's entries. Conditions: none. -/
import Derived.Test.YtnhljpbpfaablaaV26
set_option linter.unusedSimpArgs false
set_option linter.unusedVariables false
namespace Go.Proofs.Ytnhljpbpfaablaa.VS
open Go Go.RowKit

/-- Operations from a state on, in the text's order. -/
def AL (P : Program) (ops : Array Oper) (N : Nat) (Q : Exit → St → Prop) (l : List Oper) (S : St) : Prop :=
  ∀ (w0 : World) (ok0 : Nat → Prop) (a : Act) (w : World), Rel N w0 ok0 S.e S.o a w → wpList P ops (lift N w0 ok0 Q) l a w
section
variable {P : Program} {N : Nat} {Q : Exit → St → Prop} {S : St} {ops : Array Oper}
theorem rgA {id : Nat} (h : AL P ops N Q ops.toList S) : AWP P N (.region id ops false) Q S := fun w0 ok0 a w hr => wp_region_list (h w0 ok0 a w hr)
theorem sgA {id : Nat} {y : Code} (h : AL P ops N (thenA (AWP P N y Q) Q) ops.toList S) : AWP P N (.seq (.region id ops false) y) Q S := awp_seq (rgA h)
theorem al_runs {l : List Oper} (h : Runs P ops N (fun S' _ => Q .normal S') l S []) : AL P ops N Q l S := fun w0 ok0 a w hr => runs_wp l S [] a w h hr
theorem al_runsA {l : List Oper} {y : Code} (h : Runs P ops N (fun S' _ => AWP P N y Q S') l S []) : AL P ops N (thenA (AWP P N y Q) Q) l S := fun w0 ok0 a w hr => runs_wp l S [] a w h hr
theorem runs_join {w0 : World} {ok0 : Nat → Prop} {M : St → Prop} {l2 : List Oper} (h2 : ∀ S, M S → AL P ops N Q l2 S) : ∀ (l : List Oper) (S : St) (rs : List Rec) (a : Act) (w : World), Runs P ops N (fun S1 _ => Wk N S1 M) l S rs → Rel N w0 ok0 S.e S.o a w → wpList P ops (lift N w0 ok0 Q) (l ++ l2) a w
  | [], S, rs, a, w, h, hr => by
    have h : Wk N S M := h
    obtain ⟨S0, hw, hm⟩ := h
    exact h2 S0 hm w0 ok0 a w (hw w0 ok0 a w hr)
  | o' :: l, S, rs, a, w, h, hr => by
    obtain ⟨r, hop, hfit, hrest⟩ := h
    show if _ then _ ∨ _ else _
    have := hop w0 ok0 S.e S.o a w (fun _ _ => rfl) (fun _ _ => rfl) hr (wpList P ops (lift N w0 ok0 Q) (l ++ l2)) (lift N w0 ok0 Q) (fun a' w' hr' => runs_join h2 l _ (r :: rs) a' w' hrest (by rw [step_e, step_o _ _ _ hfit]; exact hr'))
    by_cases hw : Region.wanted o' (yielded ops a.tmps) = true
    · rw [if_pos hw] at this ⊢
      exact .inl this
    · rw [if_neg hw] at this ⊢
      exact this
theorem al_join {l : List Oper} (n : Nat) (M : St → Prop) (h1 : Runs P ops N (fun S1 _ => Wk N S1 M) (l.take n) S []) (h2 : ∀ S, M S → AL P ops N Q (l.drop n) S) : AL P ops N Q l S := by
  intro w0 ok0 a w hr
  have := runs_join (w0 := w0) (ok0 := ok0) h2 (l.take n) S [] a w h1 hr
  rwa [List.take_append_drop] at this
end
theorem Slot.under_mono {s : Slot} {n m : Nat} (h : s.under n = true) (hm : n ≤ m) : s.under m = true := by
  cases s with
  | box p o => simp [Slot.under] at h ⊢; omega
  | own p k => simp [Slot.under] at h ⊢; omega
  | op p k o => simp [Slot.under] at h ⊢; omega
  | opb p k o b => simp [Slot.under] at h ⊢; omega
  | clo f ps => simp [Slot.under] at h ⊢; exact fun p hp => Nat.lt_of_lt_of_le (h p hp) hm
  | bsl p o k => simp [Slot.under] at h ⊢; omega
  | _ => rfl
theorem savU {K : List (Slot × Value)} {n m : Nat} (h : (K.all fun x => x.1.under n) = true) (hm : n ≤ m) : (Ent.sav K).under m = true := by
  show (K.all fun x => x.1.under m) = true
  rw [List.all_eq_true] at h ⊢
  exact fun x hx => Slot.under_mono (h x hx) hm
/-- The end of such a function that hands back a truth value or a number. -/
theorem xl1 {N : Nat} {E : List (Nat × Slot)} {O O' : List Ent} {K : List (Slot × Value)} {rs : Array ResultVar} {t : Nat} {v x : FV} {e : Exit} (n : Nat) (he : e = .normal ∨ e = .ret) (hr : rs = #[.tmp t]) (hE : Look E t (.r (.v v))) (hv : v = x) (hO : O.take n = O' ++ [.sav K]) (hu : (O.take n).all (Ent.under n) = true) : (e = .normal ∨ e = .ret) ∧ Wk N ⟨E, O⟩ (fun S0 => S0.ents = O' ++ [.sav K] ∧ OutX rs S0.env (.one (.v x))) := by
  subst hv
  exact ⟨he, wkK n (E' := [(t, .r (.v v))]) ⟨hO, .one hr .here⟩ (.cons hE .nil) rfl hu⟩
theorem xl0 {N : Nat} {E : List (Nat × Slot)} {O O' : List Ent} {K : List (Slot × Value)} {rs : Array ResultVar} {e : Exit} (n : Nat) (he : e = .normal ∨ e = .ret) (hO : O.take n = O' ++ [.sav K]) (hu : (O.take n).all (Ent.under n) = true) (hr : rs = #[] := by exact rfl) : (e = .normal ∨ e = .ret) ∧ Wk N ⟨E, O⟩ (fun S0 => S0.ents = O' ++ [.sav K] ∧ OutX rs S0.env .none) :=
  ⟨he, wkK n (E' := []) ⟨hO, .none hr⟩ .nil rfl hu⟩
/-- Four entries of the caller's, and what else it holds. -/
theorem un5 {e0 e1 e2 e3 e4 : Ent} {O : List Ent} (h4 : e4.under 5 = true) (h : (e0.under 5 && (e1.under 5 && (e2.under 5 && e3.under 5))) = true := by exact rfl) : ((e0 :: e1 :: e2 :: e3 :: e4 :: O).take 5).all (Ent.under 5) = true := by
  simp only [Bool.and_eq_true] at h
  simp [h.1, h.2.1, h.2.2.1, h.2.2.2, h4]
theorem un6 {e0 e1 e2 e3 e4 e5 : Ent} (h4 : e4.under 6 = true) (h : (e0.under 6 && (e1.under 6 && (e2.under 6 && (e3.under 6 && e5.under 6)))) = true := by exact rfl) : [e0, e1, e2, e3, e4, e5].all (Ent.under 6) = true := by
  simp only [Bool.and_eq_true] at h
  simp [h.1, h.2.1, h.2.2.1, h.2.2.2.1, h.2.2.2.2, h4]
end Go.Proofs.Ytnhljpbpfaablaa.VS
