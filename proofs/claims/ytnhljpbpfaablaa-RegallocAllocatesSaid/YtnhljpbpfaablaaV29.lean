/- Value semantics, part 29: a struct or an array is stored into a row of the call's own; a variable that holds a slice: nil or not. Conditions: none. -/
import Derived.Test.YtnhljpbpfaablaaV27
set_option linter.unusedSimpArgs false
set_option linter.unusedVariables false
namespace Go.Proofs.Ytnhljpbpfaablaa.VS
open Go Go.RowKit

theorem flatten_splice {α : Type} {sz : Nat} {us : List α} (hu : us.length = sz) : ∀ {l : List (List α)} {i : Nat}, (∀ x ∈ l, x.length = sz) → i < l.length → (l.set i us).flatten = splice l.flatten (i * sz) us
  | [], i, _, hi => by simp at hi
  | y :: l, 0, hs, _ => by
    have hy := hs y (.head _)
    simp only [List.set_cons_zero, List.flatten_cons, Nat.zero_mul, splice, List.take_zero, List.nil_append, Nat.zero_add]
    rw [hu, ← hy, List.drop_left]
  | y :: l, i + 1, hs, hi => by
    have hy := hs y (.head _)
    have ih := flatten_splice hu (l := l) (i := i) (fun x hx => hs x (.tail _ hx)) (by simpa using hi)
    have e1 : (i + 1) * sz = y.length + i * sz := by rw [hy, Nat.succ_mul]; omega
    simp only [List.set_cons_succ, List.flatten_cons, ih, splice]
    rw [e1, List.take_length_add_append, show y.length + i * sz + us.length = y.length + (i * sz + us.length) by omega, List.drop_length_add_append]
    simp
theorem take_splice {α : Type} {cur us : List α} {o m : Nat} (hc : o + us.length ≤ cur.length) (h : o + us.length ≤ m) : (splice cur o us).take m = splice (cur.take m) o us := by
  unfold splice
  have e1 : (cur.take m).take o = cur.take o := by rw [List.take_take, Nat.min_eq_left (by omega)]
  rw [e1, List.append_assoc, List.append_assoc, List.take_append, List.take_of_length_le (show (cur.take o).length ≤ m by rw [List.length_take]; omega), List.length_take, Nat.min_eq_left (by omega), List.take_append, List.take_of_length_le (show us.length ≤ m - o by omega), List.drop_take, show m - o - us.length = m - (o + us.length) by omega]
section
variable {P : Program} {ops : Array Oper} {N : Nat} {fin : St → List Rec → Prop} {l : List Oper} {E : List (Nat × Slot)} {O O' : List Ent} {rs : List Rec} {ty : TypeId} {pos : String} {after : Array Edge} {g : Option (Nat × Bool)}
/-- An element of a row of the call's own is written whole. -/
theorem rSoA {t : TypeId} {sz : Nat} [Agg P t sz] {x y : Operand} {p n o e i : Nat} {xs : List (List FV)} {fs : List FV} (hx : Opd E x (.op p n o)) (hy : Opd E y (.r (.agg fs))) (hp : O.getD p .gone = .row e sz xs) (hn : n = xs.length) (ho : o = i * sz) (hi : i < xs.length) (hj : fs.length = sz)
    (hO : SetAt O p (.row e sz (xs.set i fs)) O') (hw : W ops E g)
    (k : Runs P ops N fin l ⟨E, O'⟩ (⟨.undef, some (p, .row e sz (xs.set i fs)), [p]⟩ :: rs)) : Runs P ops N fin (⟨none, .store t x y, ty, pos, after, g⟩ :: l) ⟨E, O⟩ rs := by
  refine rEff (s := .undef) (touch := []) hO (fun d' h => by cases h) hw (fun w0 ok0 ρ env' ents' a w hr ht hR => ?_) k
  have he := (ht p (by simp)).trans hp
  have h1 := hr x (by simp [Op.operands]); rw [hx.eq] at h1
  have h2 := hr y (by simp [Op.operands]); rw [hy.eq] at h2
  obtain ⟨us, hyv, hU⟩ := h2
  have hul := hU.length
  have hE := hR.ent p
  obtain ⟨gg, cap, _, hv, hρ, _, _, _, _, _⟩ := op_cell h1 he hn hE
  rw [he] at hE
  obtain ⟨vs, hown, hA, hs, h0⟩ := hE
  have hown' := hown
  rw [hρ] at hown'
  rcases hown'.2 with ⟨h5, _⟩ | ⟨g', cap', cur, h5, hbg, hh, hnc, hcm, hcsz, htake⟩
  · cases h5
  cases h5
  have holt : o + us.length ≤ xs.length * sz := by
    have : (i + 1) * sz ≤ xs.length * sz := Nat.mul_le_mul_right _ hi
    rw [Nat.succ_mul] at this; omega
  have hocur : o + us.length ≤ cur.size := by
    have : xs.length * sz ≤ cap * sz := Nat.mul_le_mul_right _ hnc
    rw [hcsz]; omega
  have hus' : upd ρ p (ρ p) = ρ := by funext q; by_cases hq : q = p <;> simp [upd, hq]
  refine ⟨.skip, Go.undef, w.setRow gg (splice cur.toList o us).toArray, ρ p, ?_, .inr ⟨rfl, rfl⟩, ?_, trivial⟩
  · have := run_storeA (P := P) (t := t) (n := sz) (o := o) hh (us := us) hocur (by omega) (all_oneCell hU)
    simp only [execOp, hv, hyv, Sem.run_bind, this, Result.andThen_ok, Sem.run_pure]
  · rw [hus']
    have hh' : w.heap[gg]? = some (.cells cur.toList.toArray e (0, 0)) := by simpa using hh
    have hheap : (w.setRow gg (splice cur.toList o us).toArray).heap[gg]? = some (.cells (splice cur.toList o us).toArray e (0, 0)) := setRow_heap w gg _ _ e _ hh'
    have hother : ∀ k, k ≠ gg → (w.setRow gg (splice cur.toList o us).toArray).heap[k]? = w.heap[k]? := fun k hk => setRow_other w gg k _ hk
    refine hR.move (ρ' := ρ) p ?_ (fun k hk hne => hother k (fun e' => ?_)) (fun q hq => ⟨upd_ne _ _ _ _ hq, rfl⟩) ⟨fun ty cs0 hx => (by rw [he] at hx; cases hx), fun l hl => ?_⟩ (fun g' _ h2 => .inl ⟨by rw [he]; trivial, h2⟩) (fun hcc hk => ?_)
    · exact hR.below.trans ⟨rfl, rfl, rfl, by simp [World.setRow], fun k hk => hother k (by omega)⟩
    · exact hne (by rw [he]; trivial) (by rw [hρ, e']; rfl)
    · rw [he] at hl
      have hl : some xs.length = some l := hl
      cases hl
      exact ⟨xs.length, by rw [upd_same]; simp [Ent.len?], Nat.le_refl _, fun _ => rfl⟩
    · rw [upd_same]
      refine ⟨vs.set i us, ?_, ?_, fun z hz => ?_, h0⟩
      · have hvl : ∀ z ∈ vs, z.length = sz := hA.lens hs
        rw [flatten_splice (by omega) hvl (by rw [← hA.length]; exact hi), hρ, List.length_set, ← ho]
        have hsl : (splice cur.toList o us).length = cur.size := by
          unfold splice
          simp only [List.length_append, List.length_take, List.length_drop, Array.length_toList]
          omega
        refine ⟨?_, .inr ⟨gg, cap, _, rfl, hbg, hheap, hnc, hcm, by simp [hsl, hcsz], ?_⟩⟩
        · have := hown.1
          unfold splice
          simp only [List.length_append, List.length_take, List.length_drop]
          omega
        · show ((splice cur.toList o us).toArray.toList.take _) = _
          rw [← htake, ← take_splice (by simpa using hocur) (by omega)]
      · exact (hA.imp fun _ _ h => h.imp fun _ _ => FRep.mono hk).set (hU.imp fun _ _ => FRep.mono hk) i
      · rcases List.mem_or_eq_of_mem_set hz with h | h
        · exact hs z h
        · rw [h]; exact hj
theorem soA (i : Nat) {t : TypeId} {sz : Nat} [Agg P t sz] {x y : Operand} {p n o e : Nat} {xs : List (List FV)} {fs : List FV} (k : Runs P ops N fin l ⟨E, O'⟩ (⟨.undef, some (p, .row e sz (xs.set i fs)), [p]⟩ :: rs))
    (hx : Opd E x (.op p n o) := by (apply Opd.tmp; ((repeat apply Look.there rfl); exact Look.here))) (hy : Opd E y (.r (.agg fs)) := by (apply Opd.tmp; ((repeat apply Look.there rfl); exact Look.here))) (hp : O.getD p .gone = .row e sz xs := by exact rfl) (hn : n = xs.length := by first | assumption | exact rfl | (simp; done) | (simp; omega) | omega) (hi : i < xs.length := by first | assumption | (simp; done) | (simp; omega)) (ho : o = i * sz := by exact rfl) (hj : fs.length = sz := by exact rfl)
    (hO : SetAt O p (.row e sz (xs.set i fs)) O' := by ((repeat apply SetAt.there); first | exact SetAt.here | exact SetAt.new)) (hw : W ops E g := by first | exact W.none | (apply wof rfl; ((repeat apply Look.there rfl); exact Look.here); first | assumption | exact rfl)) : Runs P ops N fin (⟨none, .store t x y, ty, pos, after, g⟩ :: l) ⟨E, O⟩ rs := rSoA hx hy hp hn ho hi hj hO hw k
end
/-- The cell of a variable turns into another that says as much or less. -/
theorem weak_cell {N : Nat} {S : St} {q ty : Nat} {cs cs' : List Slot} {O' : List Ent} (hb : S.o q = .box ty cs) (hO : SetAt S.ents q (.box ty cs') O')
    (hc : ∀ (w : World) (ok ok' : Nat → Prop) (ents ents' : Nat → Ent) (ρ : Nat → Value) (vs : List Value), (∀ {s : Slot} {v : Value}, SlotRep w ok ents ρ s v → SlotRep w ok' ents' ρ s v) → All2 (SlotRep w ok ents ρ) cs vs → All2 (SlotRep w ok' ents' ρ) cs' vs) : Weak N S ⟨S.env, O'⟩ := by
  intro w0 ok0 a w hr
  obtain ⟨ρ, hR⟩ := hr
  have e2 : (⟨S.env, O'⟩ : St).o = upd S.o q (.box ty cs') := st_set (S := S) hO
  refine ⟨ρ, ?_⟩
  show RelR N w0 ok0 _ S.e (⟨S.env, O'⟩ : St).o a w
  rw [e2]
  refine hR.move (ρ' := ρ) q hR.below (fun _ _ _ => rfl) (fun r hr => ⟨upd_ne _ _ _ _ hr, rfl⟩) ⟨fun ty' cs0 hx => ?_, fun l hl => ?_⟩ (fun g h2 h3 => .inl ⟨by rw [hb]; trivial, h3⟩) (fun hcc hk => ?_)
  · rw [hb] at hx; cases hx
    exact ⟨⟨cs', upd_same _ _ _⟩, rfl⟩
  · rw [hb] at hl; cases hl
  · rw [upd_same]
    have hE := hR.ent q
    rw [hb] at hE
    obtain ⟨g, vs, h3, h4, h5, h6, h7⟩ := hE
    exact ⟨g, vs, h3, h4, h5, hc w _ _ _ _ ρ vs (fun h => h.step hcc hk) h6, h7⟩
/-- A variable of one cell that holds a slice: nil or not. -/
theorem nilB {P : Program} {N : Nat} {c : Code} {Q : Exit → St → Prop} {E : List (Nat × Slot)} {O : List Ent} (q : Nat) {ty : Nat} {xs : List (List FV)} {O1 O2 : List Ent} (hb : O.getD q .gone = .box ty [.r (.v (.sl xs))]) (h1 : SetAt O q (.box ty [.nil]) O1) (h2 : SetAt O q (.box ty [.r (.v (.nn xs))]) O2)
    (k1 : xs = [] → AWP P N c Q ⟨E, O1⟩) (k2 : AWP P N c Q ⟨E, O2⟩) : AWP P N c Q ⟨E, O⟩ := by
  intro w0 ok0 a w hr
  obtain ⟨ρ, hR⟩ := hr
  have hbo : (⟨E, O⟩ : St).o q = .box ty [.r (.v (.sl xs))] := hb
  have hE := hR.ent q
  rw [hbo] at hE
  obtain ⟨g, vs, h3, h4, h5, h6, h7⟩ := hE
  have key : ∀ (s : Slot) (O' : List Ent), SetAt O q (.box ty [s]) O' → (∀ (ok' : Nat → Prop) (ents' : Nat → Ent), (∀ {s : Slot} {v : Value}, SlotRep w (okS w0 ok0 (⟨E, O⟩ : St).o ρ) (⟨E, O⟩ : St).o ρ s v → SlotRep w ok' ents' ρ s v) → All2 (SlotRep w ok' ents' ρ) [s] vs) → Rel N w0 ok0 (⟨E, O'⟩ : St).e (⟨E, O'⟩ : St).o a w := by
    intro s O' hO hs
    have e2 : (⟨E, O'⟩ : St).o = upd (⟨E, O⟩ : St).o q (.box ty [s]) := st_set (S := ⟨E, O⟩) hO
    refine ⟨ρ, ?_⟩
    rw [e2]
    refine hR.move (ρ' := ρ) q hR.below (fun _ _ _ => rfl) (fun r hr => ⟨upd_ne _ _ _ _ hr, rfl⟩) ⟨fun ty' cs0 hx => ?_, fun l hl => ?_⟩ (fun g h2 h3 => .inl ⟨by rw [hbo]; trivial, h3⟩) (fun hcc hk => ?_)
    · rw [hbo] at hx; cases hx
      exact ⟨⟨_, upd_same _ _ _⟩, rfl⟩
    · rw [hbo] at hl; cases hl
    · rw [upd_same]
      exact ⟨g, vs, h3, h4, h5, hs _ _ (fun h => h.step hcc hk), h7⟩
  cases h6 with
  | cons hv hn =>
    cases hn
    rename_i v
    have hv : FRep w (okS w0 ok0 (⟨E, O⟩ : St).o ρ) (.sl xs) v := hv
    have hv2 := hv
    cases hv with
    | sl _ A n cc sz vv hn hc hm hsz hA hv' hz =>
      cases A with
      | none =>
        have hc0 := hz rfl
        subst hc0
        have hn0 : n = 0 := by omega
        subst hn0
        exact k1 (List.eq_nil_of_length_eq_zero hn.symm) w0 ok0 a w (key .nil O1 h1 fun ok' ents' hst => .cons (rfl : Value.slice none 0 0 = _) .nil)
      | some ad =>
        refine k2 w0 ok0 a w (key (.r (.v (.nn xs))) O2 h2 fun ok' ents' hst => .cons ?_ .nil)
        have : SlotRep w ok' ents' ρ (.r (.v (.sl xs))) (.slice (some ad) n cc) := hst hv2
        exact FRep.nn xs ad n cc this
/-- That it is not nil is forgotten. -/
theorem unB {P : Program} {N : Nat} {c : Code} {Q : Exit → St → Prop} {E : List (Nat × Slot)} {O O1 : List Ent} (q : Nat) {ty : Nat} {xs : List (List FV)} (k : AWP P N c Q ⟨E, O1⟩) (hb : O.getD q .gone = .box ty [.r (.v (.nn xs))] := by exact rfl) (h1 : SetAt O q (.box ty [.r (.v (.sl xs))]) O1 := by ((repeat apply SetAt.there); exact SetAt.here)) : AWP P N c Q ⟨E, O⟩ := by
  refine awp_weak (weak_cell (S := ⟨E, O⟩) hb h1 fun w ok ok' ents ents' ρ vs hst hA => ?_) k
  cases hA with
  | cons hv hn =>
    cases hn
    refine .cons ?_ .nil
    have hv := hst hv
    have hv : FRep w ok' (.nn xs) _ := hv
    cases hv with
    | nn _ ad n cc h => exact h
end Go.Proofs.Ytnhljpbpfaablaa.VS
