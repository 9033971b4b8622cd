/- Value semantics, part 26: the last element of a row that a variable leads to is taken off. Conditions: none. -/
import Derived.Test.YtnhljpbpfaablaaV25
set_option linter.unusedSimpArgs false
set_option linter.unusedVariables false
namespace Go.Proofs.Ytnhljpbpfaablaa.VS
open Go Go.RowKit

theorem flat_take {α : Type} {l : List (List α)} {sz : Nat} (h : ∀ x ∈ l, x.length = sz) (m : Nat) : (l.take m).flatten = l.flatten.take (m * sz) := by
  induction l generalizing m with
  | nil => simp
  | cons x l ih =>
    cases m with
    | zero => simp
    | succ m =>
      have hx := h x (.head _)
      have e : (m + 1) * sz = x.length + m * sz := by rw [hx, Nat.add_mul]; omega
      rw [List.take_succ_cons, List.flatten_cons, List.flatten_cons, ih (fun y hy => h y (.tail _ hy)), e, List.take_length_add_append]
theorem SlotRep.stepF {w w' : World} {ok ok' : Nat → Prop} {ents ents' : Nat → Ent} {ρ ρ' : Nat → Value} {q : Nat} (hc : ∀ p, p ≠ q → Compat ents ents' ρ ρ' p) (hnb : ∀ ty cs, ents q ≠ .box ty cs) (hk : Keeps w w' ok ok')
    {s : Slot} {v : Value} (hf : s.free [q] = true) (h : SlotRep w ok ents ρ s v) : SlotRep w' ok' ents' ρ' s v := by
  have key : ∀ p, p ≠ q → Compat ents ents' ρ ρ' p := hc
  cases s with
  | undef => trivial
  | nil => exact h
  | r x => exact RV.rep.mono hk h
  | tup xs => obtain ⟨vs, e, h⟩ := h; exact ⟨vs, e, h.imp fun _ _ => RV.rep.mono hk⟩
  | fp cs =>
    obtain ⟨ad, vs, e, h, hcell⟩ := h
    refine ⟨ad, vs, e, h.imp fun _ _ => FRep.mono hk, fun i u hu => ?_⟩
    obtain ⟨hok, hc⟩ := hcell i u hu
    have hlt := World.block_lt_of_cell? w _ hc
    rw [add_block] at hlt
    obtain ⟨hh, hok'⟩ := hk _ hok hlt
    exact ⟨hok', cell_of_heap (by rw [add_block]; exact hh) hc⟩
  | box p off =>
    obtain ⟨ty, cs, g, he, hr, hv⟩ := h
    have hp : p ≠ q := fun e => hnb ty cs (e ▸ he)
    obtain ⟨⟨cs', he'⟩, hr'⟩ := (hc p hp).1 ty cs he
    exact ⟨ty, cs', g, he', hr'.trans hr, hv⟩
  | own p n =>
    have hp : p ≠ q := fun e => by subst e; simp [Slot.free] at hf
    obtain ⟨l, hl, hn, hv⟩ := h
    obtain ⟨l', hl', hle, hr⟩ := (hc p hp).2 l hl
    refine ⟨l', hl', Nat.le_trans hn hle, fun e => ?_⟩
    rw [hr (by omega)]
    exact hv (by omega)
  | op p n off =>
    have hp : p ≠ q := fun e => by subst e; simp [Slot.free] at hf
    obtain ⟨l, hl, hn, hv⟩ := h
    obtain ⟨l', hl', hle, hr⟩ := (hc p hp).2 l hl
    refine ⟨l', hl', Nat.le_trans hn hle, fun e => ?_⟩
    rw [hr (by omega)]
    exact hv (by omega)
  | opb p n off b =>
    have hp : p ≠ q := fun e => by subst e; simp [Slot.free] at hf
    obtain ⟨l, hl, hn, hv⟩ := h
    obtain ⟨l', hl', hle, hr⟩ := (hc p hp).2 l hl
    refine ⟨l', hl', Nat.le_trans hn hle, fun e => ?_⟩
    rw [hr (by omega)]
    exact hv (by omega)
  | clo f ps =>
    obtain ⟨us, e, h⟩ := h
    refine ⟨us, e, h.imp fun p u hp => ?_⟩
    obtain ⟨ty, cs, g, he, hr, hv⟩ := hp
    have hp : p ≠ q := fun e => hnb ty cs (e ▸ he)
    obtain ⟨⟨cs', he'⟩, hr'⟩ := (hc p hp).1 ty cs he
    exact ⟨ty, cs', g, he', hr'.trans hr, hv⟩
  | bsl p off n =>
    obtain ⟨ty, cs, g, c, he, hr, hv⟩ := h
    have hp : p ≠ q := fun e => hnb ty cs (e ▸ he)
    obtain ⟨⟨cs', he'⟩, hr'⟩ := (hc p hp).1 ty cs he
    exact ⟨ty, cs', g, c, he', hr'.trans hr, hv⟩

/-- A row that is led to by the first cell of a variable: what is known of both in memory. -/
theorem EntsR.top {w0 : World} {ok0 : Nat → Prop} {ρ : Nat → Value} {ents : Nat → Ent} {w : World} (h : EntsR w0 ok0 ρ ents w) {p q m e sz : Nat} {ty : TypeId} {cs : List Slot} {xs : List (List FV)} (hp : ents p = .box ty (.own q (m + 1) :: cs)) (hq : ents q = .row e sz xs) (hl : xs.length = m + 1) :
    ∃ g b cap, ρ p = .pointer (some ⟨g, 0, none⟩) ∧ ρ q = .slice (some ⟨b, 0, none⟩) (m + 1) cap ∧ m + 1 ≤ cap ∧ cap ≤ maxLen ∧ w.cell? ⟨g, 0, none⟩ = some (.slice (some ⟨b, 0, none⟩) (m + 1) cap) ∧ w.frozen? ⟨g, 0, none⟩ = false ∧ w0.heap.size ≤ g := by
  have h1 := h.ent p
  rw [hp] at h1
  obtain ⟨g, vs, hr, hbg, hh, hA, h1c⟩ := h1
  have h2 := h.ent q
  rw [hq] at h2
  obtain ⟨us, ho, _⟩ := h2
  rw [hl] at ho
  rcases ho.2 with ⟨_, h5⟩ | ⟨b, cap, cur, hρ, hbb, hhb, hnc, hcm, hcs, htake⟩
  · omega
  · cases hA with
    | cons h3 hA =>
      rename_i v vs
      obtain ⟨l, hll, _, hv⟩ := h3
      rw [hq] at hll
      have hll : some xs.length = some l := hll
      cases hll
      have hv := hv hl.symm
      refine ⟨g, b, cap, hr, hρ, hnc, hcm, ?_, ?_, hbg⟩
      · rw [cell_of_row w g 0 _ _ _ hh, hv, hρ]; rfl
      · simp [World.frozen?, hh]
theorem EntsR.pop {w0 : World} {ok0 : Nat → Prop} {ρ : Nat → Value} {ents : Nat → Ent} {w : World} (h : EntsR w0 ok0 ρ ents w) {p q m e sz : Nat} {ty : TypeId} {cs : List Slot} {xs : List (List FV)} (hp : ents p = .box ty (.own q (m + 1) :: cs)) (hq : ents q = .row e sz xs) (hl : xs.length = m + 1)
    (hcs : cs.all (Slot.free [q]) = true) (hfree : ∀ r, r ≠ p → r ≠ q → (ents r).free [q] = true) {g b cap : Nat} (hg : ρ p = .pointer (some ⟨g, 0, none⟩)) (hb : ρ q = .slice (some ⟨b, 0, none⟩) (m + 1) cap) (k : Nat) :
    EntsR w0 ok0 (upd ρ q (.slice (some ⟨b, 0, none⟩) m cap)) (upd (upd ents p (.box ty (.own q m :: cs))) q (.row e sz (xs.take m))) ((w.setCell ⟨g, 0, none⟩ (.slice (some ⟨b, 0, none⟩) m cap)).drewN k) := by
  have hpq : p ≠ q := fun e' => by subst e'; rw [hp] at hq; cases hq
  have hlp : (ents p).live := by rw [hp]; trivial
  have hlq : (ents q).live := by rw [hq]; trivial
  have hgb : g ≠ b := fun e' => hpq (h.inj p q g hlp hlq (by rw [hg]; rfl) (by rw [hb, e']; rfl))
  have h1 := h.ent p
  rw [hp] at h1
  obtain ⟨g', vs, hr, hbg, hh, hA, h1c⟩ := h1
  rw [hg] at hr
  cases hr
  have hheap : ∀ j : Nat, ((w.setCell ⟨g, 0, none⟩ (.slice (some ⟨b, 0, none⟩) m cap)).drewN k).heap[j]? = (w.setCell ⟨g, 0, none⟩ (.slice (some ⟨b, 0, none⟩) m cap)).heap[j]? := fun j => rfl
  have hne : ∀ j : Nat, j ≠ g → ((w.setCell ⟨g, 0, none⟩ (.slice (some ⟨b, 0, none⟩) m cap)).drewN k).heap[j]? = w.heap[j]? := fun j hj => by rw [hheap, heap_setCell_other _ _ _ _ hj]
  generalize hw' : (w.setCell ⟨g, 0, none⟩ (.slice (some ⟨b, 0, none⟩) m cap)).drewN k = w' at *
  have hbel : Below w0.heap.size w0 w' := by
    rw [← hw']
    have := h.below.setCell (p := ⟨g, 0, none⟩) hbg (.slice (some ⟨b, 0, none⟩) m cap)
    exact ⟨this.1, this.2, this.3, this.4, this.5⟩
  have hρ : ∀ r, blk (upd ρ q (.slice (some ⟨b, 0, none⟩) m cap) r) = blk (ρ r) := fun r => by
    by_cases e' : r = q
    · subst e'; rw [upd_same, hb]; rfl
    · rw [upd_ne _ _ _ _ e']
  have hent : ∀ r, r ≠ p → r ≠ q → upd (upd ents p (.box ty (.own q m :: cs))) q (.row e sz (xs.take m)) r = ents r := fun r h3 h4 => by rw [upd_ne _ _ _ _ h4, upd_ne _ _ _ _ h3]
  have hep : upd (upd ents p (.box ty (.own q m :: cs))) q (.row e sz (xs.take m)) p = .box ty (.own q m :: cs) := by rw [upd_ne _ _ _ _ hpq, upd_same]
  have heq : upd (upd ents p (.box ty (.own q m :: cs))) q (.row e sz (xs.take m)) q = .row e sz (xs.take m) := upd_same _ _ _
  generalize hE' : upd (upd ents p (.box ty (.own q m :: cs))) q (.row e sz (xs.take m)) = ents' at *
  generalize hρ' : upd ρ q (.slice (some ⟨b, 0, none⟩) m cap) = ρ' at *
  have hρne : ∀ r, r ≠ q → ρ' r = ρ r := fun r hr => by rw [← hρ', upd_ne _ _ _ _ hr]
  have hρq : ρ' q = .slice (some ⟨b, 0, none⟩) m cap := by rw [← hρ', upd_same]
  have hlive : ∀ r, (ents' r).live → (ents r).live := fun r hr => by
    by_cases e1 : r = p
    · subst e1; exact hlp
    · by_cases e2 : r = q
      · subst e2; exact hlq
      · rw [hent r e1 e2] at hr; exact hr
  have hkeep : Keeps w w' (okS w0 ok0 ents ρ) (okS w0 ok0 ents' ρ') := fun j hj _ => ⟨hne j (fun e' => hj.2 p hlp (by rw [hg, e']; rfl)), hj.1, fun r hr hgr => hj.2 r (hlive r hr) (by rw [← hρ r]; exact hgr)⟩
  have hcompat : ∀ r, r ≠ q → Compat ents ents' ρ ρ' r := fun r hr => by
    by_cases e1 : r = p
    · subst e1
      refine ⟨fun ty' cs' hx => ⟨?_, hρne r hr⟩, fun l hx => (by rw [hp] at hx; cases hx)⟩
      rw [hp] at hx
      cases hx
      exact ⟨_, hep⟩
    · exact .same (hent r e1 hr) (hρne r hr)
  have hnb : ∀ ty cs, ents q ≠ .box ty cs := fun ty cs hx => by rw [hq] at hx; cases hx
  have hstep : ∀ {s : Slot} {v : Value}, s.free [q] = true → SlotRep w (okS w0 ok0 ents ρ) ents ρ s v → SlotRep w' (okS w0 ok0 ents' ρ') ents' ρ' s v := fun hf hs => hs.stepF hcompat hnb hkeep hf
  refine ⟨hbel, fun r r' gg h3 h4 h5 h6 => h.inj r r' gg (hlive r h3) (hlive r' h4) (by rw [← hρ r]; exact h5) (by rw [← hρ r']; exact h6), fun r => ?_⟩
  by_cases e1 : r = p
  · subst e1
    rw [hep]
    refine ⟨g, vs.set 0 (.slice (some ⟨b, 0, none⟩) m cap), by rw [hρne r hpq]; exact hg, hbg, ?_, ?_, ?_⟩
    · rw [hheap, heap_setCell_same _ _ _ _ _ _ hh]
      simp
    · cases hA with
      | cons h3 hA =>
        refine .cons ⟨m, by rw [heq]; show some (xs.take m).length = some m; rw [List.length_take, hl]; congr 1; omega, Nat.le_refl _, fun _ => by rw [hρq]⟩ ?_
        refine .of_get hA.length (fun i s v hs hv => ?_)
        obtain ⟨v', hv', hsr⟩ := hA.get i s hs
        rw [hv] at hv'
        cases hv'
        exact hstep (List.all_eq_true.1 hcs s (List.mem_of_getElem? hs)) hsr
    · intro u hu
      rcases List.mem_or_eq_of_mem_set hu with h3 | rfl
      · exact h1c u h3
      · rfl
  · by_cases e2 : r = q
    · subst e2
      rw [heq]
      have h2 := h.ent r
      rw [hq] at h2
      obtain ⟨us, ho, hA2, hs2, h0⟩ := h2
      have hul : us.length = m + 1 := by rw [← hA2.length, hl]
      refine ⟨us.take m, ?_, (hA2.take m).imp fun _ _ h => h.imp fun _ _ => FRep.mono hkeep, fun x hx => hs2 x (List.mem_of_mem_take hx), h0⟩
      have hvl := hA2.lens hs2
      have hfl : (us.take m).flatten = us.flatten.take (m * sz) := flat_take hvl m
      rw [hl] at ho
      rcases ho.2 with ⟨h5, _⟩ | ⟨b', cap', cur, hρb, hbb, hhb, hnc, hcm, hcsz, htake⟩
      · rw [hb] at h5; cases h5
      · rw [hb] at hρb
        cases hρb
        refine ⟨?_, .inr ⟨b, cap, cur, ?_, hbb, ?_, ?_, hcm, hcsz, ?_⟩⟩
        · rw [hfl, List.length_take, ho.1, List.length_take, hl, show min m (m + 1) = m by omega]
          have : m * sz ≤ (m + 1) * sz := Nat.mul_le_mul_right _ (by omega)
          omega
        · rw [hρq, List.length_take, hl, show min m (m + 1) = m by omega]
        · rw [hne b (fun e' => hgb e'.symm)]; exact hhb
        · rw [List.length_take]; omega
        · rw [hfl, ← htake, List.length_take, hl, show min m (m + 1) = m by omega, List.take_take, Nat.min_eq_left (Nat.mul_le_mul_right _ (by omega))]
    · rw [hent r e1 e2]
      have hq' := h.ent r
      have hfr := hfree r e1 e2
      cases hx : ents r with
      | gone => trivial
      | fro ys =>
        rw [hx] at hq'
        show FRep _ _ _ _
        rw [hρne r e2]
        exact FRep.mono hkeep hq'
      | sav K => rw [hx] at hq' hfr; exact fun x hxK => hstep (List.all_eq_true.1 hfr x hxK) (hq' x hxK)
      | box ty' cs' =>
        rw [hx] at hq' hfr
        obtain ⟨g2, vs2, hr2, hbg2, hh2, ha2, h12⟩ := hq'
        have hg2 : g2 ≠ g := fun e' => e1 (h.inj r p g (by rw [hx]; trivial) hlp (by rw [hr2, e']; rfl) (by rw [hg]; rfl))
        refine ⟨g2, vs2, by rw [hρne r e2]; exact hr2, hbg2, by rw [hne g2 hg2]; exact hh2, .of_get ha2.length (fun i s v hs hv => ?_), h12⟩
        obtain ⟨v', hv', hsr⟩ := ha2.get i s hs
        rw [hv] at hv'
        cases hv'
        exact hstep (List.all_eq_true.1 hfr s (List.mem_of_getElem? hs)) hsr
      | row ty' sz' ys =>
        rw [hx] at hq'
        obtain ⟨vs2, ho2, ha2, h12⟩ := hq'
        refine ⟨vs2, ?_, ha2.imp fun _ _ h => h.imp fun _ _ => FRep.mono hkeep, h12⟩
        rw [hρne r e2]
        exact ownsRow_of_block ho2 (fun j hj => hne j (fun e' => e1 (h.inj r p j (by rw [hx]; trivial) hlp hj (by rw [hg, e']; rfl))))
end Go.Proofs.Ytnhljpbpfaablaa.VS
