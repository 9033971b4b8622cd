/- Value semantics, part 2: code, regions (in the text's order and in any order), functions. Conditions: none. -/
import Derived.Test.YtnhljpbpfaablaaV1
namespace Go.Proofs.Ytnhljpbpfaablaa.VS
open Go Go.RowKit

/-! ### 1. Abstract states -/
def look : List (Nat × Slot) → Nat → Slot
  | [], _ => .undef
  | (k, s) :: l, t => bif Nat.beq k t then s else look l t
structure St where
  env : List (Nat × Slot)
  ents : List Ent
def St.e (S : St) : Nat → Slot := look S.env
def St.o (S : St) : Nat → Ent := fun p => S.ents.getD p .gone
/-- What one operation leaves: a value in its temporary, and at most one entry that is new or turned; 'touch': the entries that it looks at or turns. -/
structure Rec where
  out : Slot
  eff : Option (Nat × Ent)
  touch : List Nat
def updE (ents : Nat → Ent) : Option (Nat × Ent) → Nat → Ent
  | none => ents
  | some (p, e) => upd ents p e
def putE (l : List (Nat × Slot)) : Option Nat → Slot → List (Nat × Slot)
  | none, _ => l
  | some d, s => (d, s) :: l
def setE (l : List Ent) : Option (Nat × Ent) → List Ent
  | none => l
  | some (p, e) => if p < l.length then l.set p e else l ++ [e]
def St.step (S : St) (dst : Option Nat) (r : Rec) : St := ⟨putE S.env dst r.out, setE S.ents r.eff⟩
def St.fits (S : St) : Option (Nat × Ent) → Prop
  | none => True
  | some (p, _) => p ≤ S.ents.length

theorem look_putE (l : List (Nat × Slot)) (dst : Option Nat) (s : Slot) : look (putE l dst s) = updO (look l) dst s := by
  cases dst with
  | none => rfl
  | some d =>
    funext t
    show (bif Nat.beq d t then s else look l t) = if t = d then s else look l t
    by_cases h : t = d
    · subst h; simp
    · have : Nat.beq d t = false := by
        rw [← Bool.not_eq_true, Nat.beq_eq]; omega
      rw [this, if_neg h]; rfl
theorem step_e (S : St) (dst : Option Nat) (r : Rec) : (S.step dst r).e = updO S.e dst r.out := look_putE _ _ _
theorem step_o (S : St) (dst : Option Nat) (r : Rec) (h : S.fits r.eff) : (S.step dst r).o = updE S.o r.eff := by
  cases r with
  | mk out eff touch =>
    cases eff with
    | none => rfl
    | some pe =>
      obtain ⟨p, e⟩ := pe
      funext q
      have h : p ≤ S.ents.length := h
      show (if p < S.ents.length then S.ents.set p e else S.ents ++ [e]).getD q .gone = if q = p then e else S.ents.getD q .gone
      by_cases hp : p < S.ents.length
      · rw [if_pos hp]
        simp only [List.getD_eq_getElem?_getD]
        by_cases hq : q = p
        · subst hq; simp [hp]
        · rw [if_neg hq, List.getElem?_set_ne (by omega)]
      · have hp : p = S.ents.length := by omega
        subst hp
        rw [if_neg (Nat.lt_irrefl _)]
        simp only [List.getD_eq_getElem?_getD, List.getElem?_append]
        by_cases hq : q = S.ents.length
        · subst hq; simp
        · rw [if_neg hq]
          by_cases hlt : q < S.ents.length
          · simp [hlt]
          · have h1 : q - S.ents.length = (q - S.ents.length - 1) + 1 := by omega
            rw [if_neg hlt, h1, List.getElem?_eq_none (by omega : S.ents.length ≤ q)]
            simp

/-! ### 2. One operation -/
/-- The operation does what the record says, in whatever state agrees with this one on what it looks at. -/
def OpOK (P : Program) (ops : Array Oper) (N : Nat) (o : Oper) (env : Nat → Slot) (ents : Nat → Ent) (r : Rec) : Prop :=
  ∀ (w0 : World) (ok0 : Nat → Prop) (env' : Nat → Slot) (ents' : Nat → Ent) (a : Act) (w : World), (∀ t ∈ o.looksAt ops, env' t = env t) → (∀ p ∈ r.touch, ents' p = ents p) →
    Rel N w0 ok0 env' ents' a w → ∀ (K : Act → World → Prop) (Q : Exit → Act → World → Prop),
      (∀ a' w', Rel N w0 ok0 (updO env' o.dst r.out) (updE ents' r.eff) a' w' → K a' w') →
      if Region.wanted o (yielded ops a.tmps) then o.wp P a w K Q else K (a.put o.dst Go.undef) w

/-- The operations in the text's order. -/
def Runs (P : Program) (ops : Array Oper) (N : Nat) (fin : St → List Rec → Prop) : List Oper → St → List Rec → Prop
  | [], S, rs => fin S rs.reverse
  | o :: l, S, rs => ∃ r : Rec, OpOK P ops N o S.e S.o r ∧ S.fits r.eff ∧ Runs P ops N fin l (S.step o.dst r) (r :: rs)

/-! ### 3. Code -/
def lift (N : Nat) (w0 : World) (ok0 : Nat → Prop) (Q : Exit → St → Prop) : Exit → Act → World → Prop := fun e a w => ∃ S, Q e S ∧ Rel N w0 ok0 S.e S.o a w
def AWP (P : Program) (N : Nat) (c : Code) (Q : Exit → St → Prop) (S : St) : Prop :=
  ∀ (w0 : World) (ok0 : Nat → Prop) (a : Act) (w : World), Rel N w0 ok0 S.e S.o a w → c.wp P (lift N w0 ok0 Q) a w
def thenA (next : St → Prop) (Q : Exit → St → Prop) : Exit → St → Prop
  | .normal, S => next S
  | e, S => Q e S
def inBlockA (id : Nat) (Q : Exit → St → Prop) : Exit → St → Prop
  | .exit id', S => if id' = id then Q .normal S else Q (.exit id') S
  | e, S => Q e S
section
variable {P : Program} {N : Nat} {Q Q' : Exit → St → Prop} {S : St}
theorem AWP.mono {c : Code} (h : AWP P N c Q S) (hq : ∀ e S, Q e S → Q' e S) : AWP P N c Q' S := fun w0 ok0 a w hr =>
  wp_mono (h w0 ok0 a w hr) fun e _ _ ⟨S', h1, h2⟩ => ⟨S', hq e S' h1, h2⟩
theorem awp_skip (h : Q .normal S) : AWP P N .skip Q S := fun _ _ _ _ hr => wp_skip ⟨S, h, hr⟩
theorem awp_exit {id : Nat} (h : Q (.exit id) S) : AWP P N (.exit id) Q S := fun _ _ _ _ hr => wp_exit ⟨S, h, hr⟩
theorem awp_ret (h : Q .ret S) : AWP P N .ret Q S := fun _ _ _ _ hr => wp_ret ⟨S, h, hr⟩
theorem awp_seq {x y : Code} (h : AWP P N x (thenA (AWP P N y Q) Q) S) : AWP P N (.seq x y) Q S := fun w0 ok0 a w hr =>
  wp_seq (wp_mono (h w0 ok0 a w hr) fun e a' w' ⟨S', h1, h2⟩ => by
    cases e with
    | normal => exact h1 w0 ok0 a' w' h2
    | _ => exact ⟨S', h1, h2⟩)
theorem awp_block {id : Nat} {c : Code} (h : AWP P N c (inBlockA id Q) S) : AWP P N (.block id c) Q S := fun w0 ok0 a w hr =>
  wp_block (wp_mono (h w0 ok0 a w hr) fun e a' w' ⟨S', h1, h2⟩ => by
    cases e with
    | exit id' =>
      show if id' = id then _ else _
      by_cases hid : id' = id
      · rw [if_pos hid]
        exact ⟨S', by simpa [inBlockA, hid] using h1, h2⟩
      · rw [if_neg hid]
        exact ⟨S', by simpa [inBlockA, hid] using h1, h2⟩
    | _ => exact ⟨S', h1, h2⟩)
/-- A loop: an invariant of a state and a number; each round that comes to the head again comes with a smaller number. -/
theorem awp_loop {c : Code} (I : Nat → St → Prop) (n : Nat) (h0 : I n S) (round : ∀ n S, I n S → AWP P N c (thenA (fun S' => ∃ m, m < n ∧ I m S') Q) S) : AWP P N (.loop c) Q S := by
  intro w0 ok0 a w hr
  have key : ∀ n a w, (∃ S, I n S ∧ Rel N w0 ok0 S.e S.o a w) → ∀ (b : Frame) (k : List Item) (cs : List Frame),
      ∃ e a' w', lift N w0 ok0 Q e a' w' ∧ Arrives P (lone (b.at a (.code c :: .inLoop c :: k)) cs w) b k cs e a' w' := by
    intro n
    induction n using Nat.strongRecOn with
    | _ n ih =>
      rintro a w ⟨S, hI, hr⟩ b k cs
      obtain ⟨e, a₁, w₁, ⟨S₁, hq, hr₁⟩, harr⟩ := round n S hI w0 ok0 a w hr b (.inLoop c :: k) cs
      cases e with
      | normal =>
        obtain ⟨m, hm, hI₁⟩ := hq
        obtain ⟨e₂, a₂, w₂, hq₂, harr₂⟩ := ih m hm a₁ w₁ ⟨S₁, hI₁, hr₁⟩ b k cs
        exact ⟨e₂, a₂, w₂, hq₂, .of_steps (Steps.trans harr (.one step_inLoop)) harr₂⟩
      | exit id => exact ⟨_, a₁, w₁, ⟨S₁, hq, hr₁⟩, .pass (x := .inLoop c) rfl (fun _ _ => .inl (by simp)) harr⟩
      | goto l => exact ⟨_, a₁, w₁, ⟨S₁, hq, hr₁⟩, .pass (x := .inLoop c) rfl (fun _ _ => .inl (by simp)) harr⟩
      | ret => exact ⟨_, a₁, w₁, ⟨S₁, hq, hr₁⟩, .pass (x := .inLoop c) rfl (fun _ _ => .inl (by simp)) harr⟩
      | panic ch => exact ⟨_, a₁, w₁, ⟨S₁, hq, hr₁⟩, .pass (x := .inLoop c) rfl (fun _ _ => .inl (by simp)) harr⟩
      | outgrown => exact ⟨_, a₁, w₁, ⟨S₁, hq, hr₁⟩, .pass (x := .inLoop c) rfl (fun _ _ => .inl (by simp)) harr⟩
  intro b k cs
  obtain ⟨e, a', w', hq, harr⟩ := key n a w ⟨S, h0, hr⟩ b k cs
  exact ⟨e, a', w', hq, .of_steps (.one step_loop) harr⟩
theorem eval_tmp (a : Act) (t : Nat) : a.eval (.tmp t) = a.tmps.getD t Go.undef := rfl
theorem awp_cond {t : Nat} {x y : Code} (c : Bool) (hc : S.e t = .r (.v (.b c))) (h1 : c = true → AWP P N x Q S) (h2 : c = false → AWP P N y Q S) : AWP P N (.cond (.tmp t) x y) Q S := by
  intro w0 ok0 a w hr
  obtain ⟨ρ, hR⟩ := hr
  have hs := hR.slot t
  rw [hc] at hs
  have hv : a.eval (.tmp t) = .bool c := by
    rw [eval_tmp]
    generalize a.tmps.getD t Go.undef = v at hs
    have hs : FRep _ _ (.b c) v := hs
    cases hs
    rfl
  exact wp_cond_split hv (fun h => h1 h w0 ok0 a w ⟨ρ, hR⟩) (fun h => h2 h w0 ok0 a w ⟨ρ, hR⟩)

/-- What is known of a state may be less. -/
def Weak (N : Nat) (S S' : St) : Prop := ∀ (w0 : World) (ok0 : Nat → Prop) (a : Act) (w : World), Rel N w0 ok0 S.e S.o a w → Rel N w0 ok0 S'.e S'.o a w
theorem awp_weak {c : Code} {S' : St} (hw : Weak N S S') (h : AWP P N c Q S') : AWP P N c Q S := fun w0 ok0 a w hr => h w0 ok0 a w (hw w0 ok0 a w hr)
theorem Weak.trans {S S' S'' : St} (h : Weak N S S') (h' : Weak N S' S'') : Weak N S S'' := fun w0 ok0 a w hr => h' w0 ok0 a w (h w0 ok0 a w hr)

/-! ### 4. A region in the text's order -/
theorem awp_region_text {id : Nat} {ops : Array Oper} (h : Runs P ops N (fun S' _ => Q .normal S') ops.toList S []) : AWP P N (.region id ops false) Q S := by
  intro w0 ok0 a w hr
  refine wp_region_list ?_
  revert h hr
  generalize ops.toList = l
  generalize ([] : List Rec) = rs
  intro h hr
  induction l generalizing S a w rs with
  | nil => exact ⟨S, h, hr⟩
  | cons o l ih =>
    obtain ⟨r, hop, hfit, hrest⟩ := h
    show if _ then _ ∨ _ else _
    have := hop w0 ok0 S.e S.o a w (fun _ _ => rfl) (fun _ _ => rfl) hr (wpList P ops (lift N w0 ok0 Q) l) (lift N w0 ok0 Q) (fun a' w' hr' => ih a' w' (r :: rs) hrest (by rw [step_e, step_o _ _ _ hfit]; exact hr'))
    by_cases hw : Region.wanted o (yielded ops a.tmps) = true
    · rw [if_pos hw] at this ⊢
      exact .inl this
    · rw [if_neg hw] at this ⊢
      exact this
end
end Go.Proofs.Ytnhljpbpfaablaa.VS
