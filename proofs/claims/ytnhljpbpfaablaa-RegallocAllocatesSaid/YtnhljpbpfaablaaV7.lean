/- Value semantics, part 7: the rules of a region's operations: loads, lengths, built values, cuts. Conditions: none. -/
import Derived.Test.YtnhljpbpfaablaaV6
set_option linter.unusedSimpArgs false
set_option linter.unusedVariables false
namespace Go.Proofs.Ytnhljpbpfaablaa.VS
open Go Go.RowKit

/-! ### 1. Lists of lists -/
theorem flat_len {α : Type} {l : List (List α)} {sz : Nat} (h : ∀ x ∈ l, x.length = sz) : l.flatten.length = l.length * sz := by
  induction l with
  | nil => simp
  | cons x l ih =>
    rw [List.flatten_cons, List.length_append, ih (fun y hy => h y (.tail _ hy)), h x (.head _), List.length_cons, Nat.succ_mul]
    omega
theorem flat_get {α : Type} {l : List (List α)} {sz : Nat} (h : ∀ x ∈ l, x.length = sz) {i j : Nat} {x : List α} (hi : l[i]? = some x) (hj : j < sz) : l.flatten[i * sz + j]? = x[j]? := by
  induction l generalizing i with
  | nil => simp at hi
  | cons y l ih =>
    have hy := h y (.head _)
    rw [List.flatten_cons]
    cases i with
    | zero =>
      simp at hi
      subst hi
      rw [Nat.zero_mul, Nat.zero_add, List.getElem?_append_left (by omega)]
    | succ i =>
      have : (i + 1) * sz + j = y.length + (i * sz + j) := by rw [hy, Nat.succ_mul]; omega
      rw [this, List.getElem?_append_right (by omega), Nat.add_sub_cancel_left]
      exact ih (fun z hz => h z (.tail _ hz)) (by simpa using hi)
theorem flat_at {α : Type} {l : List (List α)} {sz : Nat} (h : ∀ x ∈ l, x.length = sz) (hs : 0 < sz) {m : Nat} {u : α} (hu : l.flatten[m]? = some u) : ∃ x, l[m / sz]? = some x ∧ x[m % sz]? = some u := by
  have hlt : m < l.flatten.length := by
    rcases Nat.lt_or_ge m l.flatten.length with h | h
    · exact h
    · rw [List.getElem?_eq_none h] at hu; cases hu
  rw [flat_len h] at hlt
  have hq : m / sz < l.length := (Nat.div_lt_iff_lt_mul hs).2 hlt
  refine ⟨l[m / sz], List.getElem?_eq_getElem hq, ?_⟩
  rw [← flat_get h (List.getElem?_eq_getElem hq) (Nat.mod_lt m hs), Nat.mul_comm, Nat.div_add_mod]
  exact hu
theorem All2.flatten {α β : Type} {R : α → β → Prop} {xs : List (List α)} {ys : List (List β)} (h : All2 (All2 R) xs ys) : All2 R xs.flatten ys.flatten := by
  induction h with
  | nil => exact .nil
  | cons a _ ih => simp only [List.flatten_cons]; exact a.append ih
theorem All2.lens {α β : Type} {R : α → β → Prop} {xs : List (List α)} {ys : List (List β)} (h : All2 (All2 R) xs ys) {sz : Nat} (hs : ∀ x ∈ xs, x.length = sz) : ∀ y ∈ ys, y.length = sz := by
  induction h with
  | nil => intro y hy; cases hy
  | cons a _ ih =>
    intro y hy
    cases hy with
    | head => rw [← a.length]; exact hs _ (.head _)
    | tail _ hy => exact ih (fun x hx => hs x (.tail _ hx)) y hy

section
variable {P : Program} {ops : Array Oper} {N : Nat} {fin : St → List Rec → Prop} {l : List Oper} {E : List (Nat × Slot)} {O : List Ent} {rs : List Rec} {d : Nat} {ty : TypeId} {pos : String} {after : Array Edge} {g : Option (Nat × Bool)}

/-! ### 2. Loads -/
theorem rL1f {x : Operand} {t : TypeId} [Plain P t] {c : FV} {cs : List FV} (hx : Opd E x (.fp (c :: cs))) (hd : d < N) (hw : W ops E g)
    (k : Runs P ops N fin l ⟨(d, .r (.v c)) :: E, O⟩ (⟨.r (.v c), none, []⟩ :: rs)) : Runs P ops N fin (⟨some d, .load t x, ty, pos, after, g⟩ :: l) ⟨E, O⟩ rs :=
  rPure hd hw (fun w ok ρ ents' a hr _ _ => by
    have h1 := hr x (by simp [Op.operands]); rw [hx.eq] at h1
    obtain ⟨ad, u, hv, hc, hf⟩ := fp_one h1
    exact ⟨u, by simp [execOp, hv, run_load1 w t ad u hc], hf⟩) k
theorem rLAf {x : Operand} {t n : Nat} [Agg P t n] {cs : List FV} (hx : Opd E x (.fp cs)) (hn : n ≤ cs.length) (hd : d < N) (hw : W ops E g)
    (k : Runs P ops N fin l ⟨(d, .r (.agg (cs.take n))) :: E, O⟩ (⟨.r (.agg (cs.take n)), none, []⟩ :: rs)) : Runs P ops N fin (⟨some d, .load t x, ty, pos, after, g⟩ :: l) ⟨E, O⟩ rs :=
  rPure hd hw (fun w ok ρ ents' a hr _ _ => by
    have h1 := hr x (by simp [Op.operands]); rw [hx.eq] at h1
    obtain ⟨ad, vs, hv, hl, hc, hf⟩ := fp_many h1 n hn
    exact ⟨.agg vs.toArray, by simp [execOp, hv, run_loadA w t n ad vs hl hc], vs, rfl, hf⟩) k
theorem rL1b {x : Operand} {t : TypeId} [Plain P t] {p o ty' : Nat} {cs : List Slot} {s : Slot} (hx : Opd E x (.box p o)) (hp : O.getD p .gone = .box ty' cs) (hs : cs[o]? = some s) (hd : d < N) (hw : W ops E g)
    (k : Runs P ops N fin l ⟨(d, s) :: E, O⟩ (⟨s, none, [p]⟩ :: rs)) : Runs P ops N fin (⟨some d, .load t x, ty, pos, after, g⟩ :: l) ⟨E, O⟩ rs :=
  rPure hd hw (fun w ok ρ ents' a hr ht hE => by
    have h1 := hr x (by simp [Op.operands]); rw [hx.eq] at h1
    obtain ⟨gg, vs, hv, _, _, hA, _, hc⟩ := box_at h1 ((ht p (by simp)).trans hp) (hE p)
    obtain ⟨u, hu, hf⟩ := hA.get o s hs
    exact ⟨u, by simp [execOp, hv, run_load1 w t _ u ((hc o).trans hu)], hf⟩) k
theorem rLAb {x : Operand} {t n : Nat} [Agg P t n] {p o ty' : Nat} {cs : List Slot} {fs : List FV} {touch : List Nat} (hx : Opd E x (.box p o)) (hp : O.getD p .gone = .box ty' cs) (hn : n ≤ (cs.drop o).length) (hpt : p ∈ touch)
    (hf : ∀ ents', (∀ p ∈ touch, ents' p = O.getD p .gone) → All2 (IsF ents') ((cs.drop o).take n) fs) (hd : d < N) (hw : W ops E g)
    (k : Runs P ops N fin l ⟨(d, .r (.agg fs)) :: E, O⟩ (⟨.r (.agg fs), none, touch⟩ :: rs)) : Runs P ops N fin (⟨some d, .load t x, ty, pos, after, g⟩ :: l) ⟨E, O⟩ rs :=
  rPure hd hw (fun w ok ρ ents' a hr ht hE => by
    have h1 := hr x (by simp [Op.operands]); rw [hx.eq] at h1
    obtain ⟨gg, vs, hv, _, _, hA, _, hc⟩ := box_at h1 ((ht p hpt).trans hp) (hE p)
    have hA' := (hA.drop o).take n
    refine ⟨.agg ((vs.drop o).take n).toArray, ?_, (vs.drop o).take n, rfl, ?_⟩
    · simp only [execOp, hv, Sem.run_bind, run_loadA w t n ⟨gg, o, none⟩ ((vs.drop o).take n) (by rw [← hA'.length, List.length_take]; omega) (fun j u hu => by
        rw [List.getElem?_take] at hu
        split at hu
        · rw [List.getElem?_drop] at hu
          rw [add_off, hc]; exact hu
        · cases hu), Result.andThen_ok, Sem.run_pure]
    · refine .of_get (by rw [← hA'.length, (hf ents' ht).length]) (fun i y u hy hu => ?_)
      obtain ⟨s, h2, h3⟩ := (hf ents' ht).get' i y hy
      obtain ⟨u', h4, h5⟩ := hA'.get i s h2
      rw [hu] at h4
      cases h4
      exact h3.rep h5 hE) k
/-- A cell of a row of the call's own. -/
theorem op_cell {w : World} {ok : Nat → Prop} {ents : Nat → Ent} {ρ : Nat → Value} {p n o e sz base : Nat} {xs : List (List FV)} {v : Value} (h : SlotRep w ok ents ρ (.op p n o) v) (he : ents p = .row e sz xs) (hn : n = xs.length) (hr : EntRep w ok ents ρ base p (ents p)) :
    ∃ g c vs, v = .pointer (some ⟨g, o, none⟩) ∧ ρ p = .slice (some ⟨g, 0, none⟩) xs.length c ∧ w.ownsRow base e sz (ρ p) xs.length vs ∧ All2 (FRep w ok) xs.flatten vs ∧ (∀ j, j < xs.length * sz → w.cell? ⟨g, j, none⟩ = vs[j]?) ∧ (∀ x ∈ xs, x.length = sz) ∧ 0 < sz := by
  obtain ⟨ll, hl, hle, hv⟩ := h
  rw [he] at hl hr
  have : some xs.length = some ll := hl
  cases this
  obtain ⟨g, m, c, h3, h4⟩ := hv hn
  obtain ⟨vs, ho, hA, hs, h0⟩ := hr
  rw [h3] at ho ⊢
  have hm : m = xs.length ∨ False := by
    rcases ho.2 with ⟨h5, _⟩ | ⟨g', cap, cur, h5, _⟩
    · cases h5
    · cases h5; exact .inl rfl
  rcases hm with rfl | hm
  · exact ⟨g, c, vs.flatten, h4, rfl, ho, hA.flatten, fun j hj => ho.cellAt j hj, hs, h0⟩
  · exact hm.elim
theorem rL1o {x : Operand} {t : TypeId} [Plain P t] {p n o e sz i j : Nat} {xs : List (List FV)} {cs : List FV} {c : FV} (hx : Opd E x (.op p n o)) (hp : O.getD p .gone = .row e sz xs) (hn : n = xs.length) (ho : o = i * sz + j) (hi : xs[i]? = some cs) (hc : cs[j]? = some c) (hd : d < N) (hw : W ops E g)
    (k : Runs P ops N fin l ⟨(d, .r (.v c)) :: E, O⟩ (⟨.r (.v c), none, [p]⟩ :: rs)) : Runs P ops N fin (⟨some d, .load t x, ty, pos, after, g⟩ :: l) ⟨E, O⟩ rs :=
  rPure hd hw (fun w ok ρ ents' a hr ht hE => by
    have h1 := hr x (by simp [Op.operands]); rw [hx.eq] at h1
    obtain ⟨gg, cc, vs, hv, _, _, hA, hcell, hs, h0⟩ := op_cell h1 ((ht p (by simp)).trans hp) hn (hE p)
    have hlen := hs cs (List.mem_of_getElem? hi)
    have hj : j < sz := by
      rcases Nat.lt_or_ge j cs.length with h | h
      · omega
      · rw [List.getElem?_eq_none h] at hc; cases hc
    have hfl : xs.flatten[o]? = some c := by rw [ho, flat_get hs hi hj]; exact hc
    obtain ⟨u, hu, hf⟩ := hA.get o c hfl
    have hlt : o < xs.length * sz := by
      rw [← flat_len hs]
      rcases Nat.lt_or_ge o xs.flatten.length with h | h
      · exact h
      · rw [List.getElem?_eq_none h] at hfl; cases hfl
    exact ⟨u, by simp [execOp, hv, run_load1 w t _ u ((hcell o hlt).trans hu)], hf⟩) k
theorem rLAo {x : Operand} {t m : Nat} [Agg P t m] {p n o e sz i j : Nat} {xs : List (List FV)} {cs : List FV} (hx : Opd E x (.op p n o)) (hp : O.getD p .gone = .row e sz xs) (hn : n = xs.length) (ho : o = i * sz + j) (hi : xs[i]? = some cs) (hc : j + m ≤ cs.length) (hm : 0 < m) (hd : d < N) (hw : W ops E g)
    (k : Runs P ops N fin l ⟨(d, .r (.agg ((cs.drop j).take m))) :: E, O⟩ (⟨.r (.agg ((cs.drop j).take m)), none, [p]⟩ :: rs)) : Runs P ops N fin (⟨some d, .load t x, ty, pos, after, g⟩ :: l) ⟨E, O⟩ rs :=
  rPure hd hw (fun w ok ρ ents' a hr ht hE => by
    have h1 := hr x (by simp [Op.operands]); rw [hx.eq] at h1
    obtain ⟨gg, cc, vs, hv, _, _, hA, hcell, hs, h0⟩ := op_cell h1 ((ht p (by simp)).trans hp) hn (hE p)
    have hlen := hs cs (List.mem_of_getElem? hi)
    have hget : ∀ r, r < m → xs.flatten[o + r]? = cs[j + r]? := fun r hr => by
      rw [ho, Nat.add_assoc, flat_get hs hi (by omega)]
    have hvs : ∀ r, r < m → ∃ u, vs[o + r]? = some u ∧ ∀ c, cs[j + r]? = some c → FRep w ok c u := fun r hr => by
      have h2 : cs[j + r]? = some cs[j + r] := List.getElem?_eq_getElem (by omega)
      obtain ⟨u, hu, hf⟩ := hA.get (o + r) _ ((hget r hr).trans h2)
      exact ⟨u, hu, fun c hc => by rw [h2] at hc; cases hc; exact hf⟩
    have hlt : ∀ r, r < m → o + r < xs.length * sz := fun r hr => by
      rw [← flat_len hs]
      rcases Nat.lt_or_ge (o + r) xs.flatten.length with h | h
      · exact h
      · have h2 : cs[j + r]? = some cs[j + r] := List.getElem?_eq_getElem (by omega)
        rw [← hget r hr, List.getElem?_eq_none h] at h2; cases h2
    have hlv : o + m ≤ vs.length := by
      obtain ⟨u, hu, _⟩ := hvs (m - 1) (by omega)
      rcases Nat.lt_or_ge (o + (m - 1)) vs.length with h | h
      · omega
      · rw [List.getElem?_eq_none h] at hu; cases hu
    refine ⟨.agg ((vs.drop o).take m).toArray, ?_, (vs.drop o).take m, rfl, ?_⟩
    · simp only [execOp, hv, Sem.run_bind, run_loadA w t m ⟨gg, o, none⟩ ((vs.drop o).take m) (by rw [List.length_take, List.length_drop]; omega) (fun r u hu => by
        rw [List.getElem?_take] at hu
        split at hu
        · rename_i hr'
          rw [List.getElem?_drop] at hu
          rw [add_off, hcell _ (hlt r hr')]; exact hu
        · cases hu), Result.andThen_ok, Sem.run_pure]
    · refine .of_get (by simp [List.length_take, List.length_drop]; omega) (fun r y u hy hu => ?_)
      rw [List.getElem?_take] at hy hu
      split at hy
      · rename_i hr'
        rw [if_pos hr'] at hu
        rw [List.getElem?_drop] at hy hu
        obtain ⟨u', h4, h5⟩ := hvs r hr'
        rw [hu] at h4
        cases h4
        exact h5 y hy
      · cases hy) k

/-! ### 3. Lengths, tests against nil -/
theorem rep_len {w : World} {ok : Nat → Prop} {xs : List (List FV)} {v : Value} (h : FRep w ok (.sl xs) v) : ∃ A c, v = .slice A xs.length c ∧ (A = none → xs = []) := by
  cases h with
  | sl _ A n c sz vs hn hc hm hs hA hv =>
    subst hn
    refine ⟨A, c, rfl, fun e => ?_⟩
    rcases Nat.eq_zero_or_pos xs.length with h | h
    · exact List.eq_nil_of_length_eq_zero h
    · obtain ⟨ad, e', _⟩ := hA h; rw [e] at e'; cases e'
theorem own_len {w : World} {ok : Nat → Prop} {ents : Nat → Ent} {ρ : Nat → Value} {p n e sz base : Nat} {xs : List (List FV)} {v : Value} (h : SlotRep w ok ents ρ (.own p n) v) (he : ents p = .row e sz xs) (hn : n = xs.length) (hr : EntRep w ok ents ρ base p (ents p)) :
    ∃ A c, v = .slice A n c ∧ (A = none → xs = []) := by
  obtain ⟨ll, hl, hle, hv⟩ := h
  rw [he] at hl hr
  have : some xs.length = some ll := hl
  cases this
  rw [hv hn, hn]
  obtain ⟨vs, ho, _⟩ := hr
  rcases ho.2 with ⟨h1, h2⟩ | ⟨g', cap, cur, h1, _⟩
  · exact ⟨none, 0, by rw [h1, h2], fun _ => List.eq_nil_of_length_eq_zero h2⟩
  · exact ⟨_, cap, h1, fun e => by cases e⟩
theorem run_len {w : World} {t e sz b : Nat} [Sli P t e sz b] (ty : TypeId) (A : Option Addr) (n c : Nat) : (Builtin.len_ #[t] ty #[.slice A n c]).run P w = .ok (.int .i64 n) w := by
  obtain ⟨i, h1, _⟩ := Sli.spec (P := P) t e sz b
  simp [Builtin.len_, run_underlying h1, goInt]
theorem rLn {x : Operand} {t e sz b : Nat} [Sli P t e sz b] {s : Slot} {xs : List (List FV)} {touch : List Nat} (hx : Opd E x s) (hs : ∀ ents', (∀ p ∈ touch, ents' p = O.getD p .gone) → IsF ents' s (.sl xs)) (hd : d < N) (hw : W ops E g)
    (k : Runs P ops N fin l ⟨(d, .r (.v (.i .i64 xs.length))) :: E, O⟩ (⟨.r (.v (.i .i64 xs.length)), none, touch⟩ :: rs)) : Runs P ops N fin (⟨some d, .call { callee := .builtin .len, args := #[x], argTypes := #[t] }, ty, pos, after, g⟩ :: l) ⟨E, O⟩ rs :=
  rPure hd hw (fun w ok ρ ents' a hr ht hE => by
    have h1 := hr x (by simp [Op.operands, Call.operands]); rw [hx.eq] at h1
    obtain ⟨A, c, hv, _⟩ := rep_len ((hs ents' ht).rep h1 hE)
    exact ⟨.int .i64 xs.length, by simp [execOp, resolve, invoke, builtin, hv, run_len], FRep.i _ _⟩) k
theorem rLnO {x : Operand} {t e sz b e' sz' : Nat} [Sli P t e sz b] {p n : Nat} {xs : List (List FV)} (hx : Opd E x (.own p n)) (hp : O.getD p .gone = .row e' sz' xs) (hn : n = xs.length) (hd : d < N) (hw : W ops E g)
    (k : Runs P ops N fin l ⟨(d, .r (.v (.i .i64 n))) :: E, O⟩ (⟨.r (.v (.i .i64 n)), none, [p]⟩ :: rs)) : Runs P ops N fin (⟨some d, .call { callee := .builtin .len, args := #[x], argTypes := #[t] }, ty, pos, after, g⟩ :: l) ⟨E, O⟩ rs :=
  rPure hd hw (fun w ok ρ ents' a hr ht hE => by
    have h1 := hr x (by simp [Op.operands, Call.operands]); rw [hx.eq] at h1
    obtain ⟨A, c, hv, _⟩ := own_len h1 ((ht p (by simp)).trans hp) hn (hE p)
    exact ⟨.int .i64 n, by simp [execOp, resolve, invoke, builtin, hv, run_len], FRep.i _ _⟩) k

/-! ### 4. Structs and arrays that are built -/
def splice {α : Type} (cells : List α) (off : Nat) (new : List α) : List α := cells.take off ++ new ++ cells.drop (off + new.length)
def fillF (places : Nat → Option (Nat × Nat)) : List FV → List (Nat × RV) → Option (List FV)
  | cells, [] => some cells
  | cells, (i, y) :: rest => match places i with
    | none => none
    | some (off, size) => if y.flat.length = size ∧ off + size ≤ cells.length then fillF places (splice cells off y.flat) rest else none
theorem foldl_set {α : Type} (new : List α) : ∀ (off k : Nat) (cells : Array α), off + k + new.length ≤ cells.size →
    ((new.zipIdx k).foldl (fun cs (p : α × Nat) => cs.setIfInBounds (off + p.2) p.1) cells).toList = splice cells.toList (off + k) new := by
  induction new with
  | nil => intro off k cells _; simp [splice]
  | cons c new ih =>
    intro off k cells h
    simp only [List.zipIdx_cons, List.foldl_cons]
    rw [ih off (k + 1) _ (by rw [List.length_cons] at h; simp only [Array.size_setIfInBounds]; omega)]
    simp only [splice, Array.toList_setIfInBounds]
    have hlt : off + k < cells.toList.length := by
      rw [List.length_cons] at h
      rw [Array.length_toList]; omega
    have hn : (off + (k + 1)) = off + k + 1 := by omega
    rw [hn, List.take_succ_eq_append_getElem (by simpa using hlt)]
    simp only [List.getElem_set_self, List.append_assoc, List.cons_append, List.nil_append, List.length_cons]
    rw [List.take_set_of_le (by omega), List.drop_set_of_lt (by omega), show off + k + 1 + new.length = off + k + (new.length + 1) by omega]
theorem fill_ok {w : World} {ok : Nat → Prop} (places : Nat → Option (Nat × Nat)) : ∀ (parts : List (Nat × Value)) (pd : List (Nat × RV)) (cells : Array Value) (cf cs : List FV),
    All2 (fun p q => p.1 = q.1 ∧ q.2.rep w ok p.2) parts pd → All2 (FRep w ok) cf cells.toList → fillF places cf pd = some cs → ∃ out, Instr.fill places cells parts = some out ∧ All2 (FRep w ok) cs out.toList := by
  intro parts
  induction parts with
  | nil =>
    intro pd cells cf cs h hc hf
    cases h
    simp [fillF] at hf
    subst hf
    exact ⟨cells, rfl, hc⟩
  | cons p parts ih =>
    intro pd cells cf cs h hc hf
    cases h with
    | cons h1 h2 =>
      rename_i q qs
      obtain ⟨i, y⟩ := q
      obtain ⟨i', v⟩ := p
      obtain ⟨rfl, hrep⟩ := h1
      simp only [fillF] at hf
      simp only [Instr.fill]
      cases hp : places i' with
      | none => rw [hp] at hf; cases hf
      | some os =>
        obtain ⟨off, size⟩ := os
        rw [hp] at hf
        simp only at hf ⊢
        split at hf
        · rename_i hcond
          have hfl := hrep.flat
          have hl1 := hfl.length
          have hl2 := hc.length
          have hsz : v.cells.size = size := by simp only [Array.length_toList] at hl1; omega
          have hle : ¬ (v.cells.size ≠ size || decide (off + v.cells.size > cells.size)) = true := by
            simp only [Array.length_toList] at hl2
            simp [hsz]; omega
          rw [if_neg hle]
          refine ih qs _ _ cs h2 ?_ hf
          rw [← Array.foldl_toList, Array.toList_zipIdx, foldl_set v.cells.toList off 0 cells (by simp only [Array.length_toList] at hl2 ⊢; omega)]
          unfold splice
          rw [Nat.add_zero, ← hl1]
          exact ((hc.take off).append hfl).append (hc.drop _)
        · cases hf
theorem zero_cells {w : World} {ok : Nat → Prop} {zs : List Slot} {vs : List Value} (h : All2 ZCell zs vs) : All2 (FRep w ok) (zs.map Slot.fz) vs := by
  induction h with
  | nil => exact .nil
  | cons a _ ih => exact .cons (a.rep w ok (fun _ => .gone) (fun _ => .bool true)).2.1 ih
theorem zero_cellsz {w : World} {ok : Nat → Prop} {zs : List Slot} {vs : List Value} (h : All2 ZCell zs vs) : All2 (FRep w ok) (zs.map Slot.fzz) vs := by
  induction h with
  | nil => exact .nil
  | cons a _ ih => exact .cons (a.repz w ok) ih
/-- The parts of a literal. -/
inductive Parts (E : List (Nat × Slot)) (O : List Ent) (touch : List Nat) : List (Nat × Operand) → List (Nat × RV) → Prop
  | nil : Parts E O touch [] []
  | cons {i : Nat} {x : Operand} {s : Slot} {y : RV} {l : List (Nat × Operand)} {r : List (Nat × RV)} (hx : Opd E x s) (hs : ∀ ents', (∀ p ∈ touch, ents' p = O.getD p .gone) → IsD ents' s y) (h : Parts E O touch l r) : Parts E O touch ((i, x) :: l) ((i, y) :: r)
theorem Parts.rep {E : List (Nat × Slot)} {O : List Ent} {touch : List Nat} {l : List (Nat × Operand)} {r : List (Nat × RV)} (h : Parts E O touch l r) {w : World} {ok : Nat → Prop} {ents' : Nat → Ent} {ρ : Nat → Value} {a : Act} {base : Nat}
    (hr : ∀ p ∈ l, SlotRep w ok ents' ρ (ev (look E) p.2) (a.eval p.2)) (ht : ∀ p ∈ touch, ents' p = O.getD p .gone) (hE : ∀ p, EntRep w ok ents' ρ base p (ents' p)) :
    All2 (fun p q => p.1 = q.1 ∧ q.2.rep w ok p.2) (l.map fun p => (p.1, a.eval p.2)) r := by
  induction h with
  | nil => exact .nil
  | cons hx hs _ ih =>
    refine .cons ⟨rfl, ?_⟩ (ih (fun p hp => hr p (.tail _ hp)))
    have h1 := hr _ (.head _)
    rw [hx.eq] at h1
    exact (hs ents' ht).rep h1 hE
theorem rBuS {t : TypeId} {offs : List (Nat × Nat)} {zs : List Slot} [Str P t offs] [Zero P t zs] {parts : Array (Nat × Operand)} {pd : List (Nat × RV)} {cs : List FV} {touch : List Nat} (hp : Parts E O touch parts.toList pd) (hf : fillF (offs[·]?) (zs.map Slot.fz) pd = some cs) (hd : d < N) (hw : W ops E g)
    (k : Runs P ops N fin l ⟨(d, .r (.agg cs)) :: E, O⟩ (⟨.r (.agg cs), none, touch⟩ :: rs)) : Runs P ops N fin (⟨some d, .build t parts, ty, pos, after, g⟩ :: l) ⟨E, O⟩ rs :=
  rPure hd hw (fun w ok ρ ents' a hr ht hE => by
    obtain ⟨fs, h1, h2, _⟩ := Str.spec (P := P) t offs
    obtain ⟨i, z, vs, h3, h4, h5, h6⟩ := Zero.h (P := P) (t := t) (zs := zs)
    have hrep := hp.rep (a := a) (fun p hp => hr p.2 (by simp only [Op.operands]; simpa using ⟨p.1, by simpa using hp⟩)) ht hE
    obtain ⟨out, ho, hA⟩ := fill_ok (offs[·]?) _ pd z.cells (zs.map Slot.fz) cs hrep (by rw [h5]; exact zero_cells h6) hf
    have hb : P.built t (parts.map fun (i, x) => (i, a.eval x)).toList = some out := by
      unfold Program.built
      simp only [h3, h1, h4, h2, Array.toList_map]
      simpa using ho
    refine ⟨.agg out, ?_, out.toList, by simp, hA⟩
    simp only [execOp, Sem.run_bind, run_build w t _ out hb, Result.andThen_ok, Sem.run_pure]) k
theorem rBuSz {t : TypeId} {offs : List (Nat × Nat)} {zs : List Slot} [Str P t offs] [Zero P t zs] {parts : Array (Nat × Operand)} {pd : List (Nat × RV)} {cs : List FV} {touch : List Nat} (hp : Parts E O touch parts.toList pd) (hf : fillF (offs[·]?) (zs.map Slot.fzz) pd = some cs) (hd : d < N) (hw : W ops E g)
    (k : Runs P ops N fin l ⟨(d, .r (.agg cs)) :: E, O⟩ (⟨.r (.agg cs), none, touch⟩ :: rs)) : Runs P ops N fin (⟨some d, .build t parts, ty, pos, after, g⟩ :: l) ⟨E, O⟩ rs :=
  rPure hd hw (fun w ok ρ ents' a hr ht hE => by
    obtain ⟨fs, h1, h2, _⟩ := Str.spec (P := P) t offs
    obtain ⟨i, z, vs, h3, h4, h5, h6⟩ := Zero.h (P := P) (t := t) (zs := zs)
    have hrep := hp.rep (a := a) (fun p hp => hr p.2 (by simp only [Op.operands]; simpa using ⟨p.1, by simpa using hp⟩)) ht hE
    obtain ⟨out, ho, hA⟩ := fill_ok (offs[·]?) _ pd z.cells (zs.map Slot.fzz) cs hrep (by rw [h5]; exact zero_cellsz h6) hf
    have hb : P.built t (parts.map fun (i, x) => (i, a.eval x)).toList = some out := by
      unfold Program.built
      simp only [h3, h1, h4, h2, Array.toList_map]
      simpa using ho
    refine ⟨.agg out, ?_, out.toList, by simp, hA⟩
    simp only [execOp, Sem.run_bind, run_build w t _ out hb, Result.andThen_ok, Sem.run_pure]) k
theorem rBuA {t n sz : Nat} {zs : List Slot} [Arr P t n sz] [Zero P t zs] {parts : Array (Nat × Operand)} {pd : List (Nat × RV)} {cs : List FV} {touch : List Nat} (hp : Parts E O touch parts.toList pd) (hf : fillF (fun i => some (i * sz, sz)) (zs.map Slot.fz) pd = some cs) (hd : d < N) (hw : W ops E g)
    (k : Runs P ops N fin l ⟨(d, .r (.agg cs)) :: E, O⟩ (⟨.r (.agg cs), none, touch⟩ :: rs)) : Runs P ops N fin (⟨some d, .build t parts, ty, pos, after, g⟩ :: l) ⟨E, O⟩ rs :=
  rPure hd hw (fun w ok ρ ents' a hr ht hE => by
    obtain ⟨e, ie, h1, h2, h2', _, _⟩ := Arr.spec (P := P) t n sz
    obtain ⟨i, z, vs, h3, h4, h5, h6⟩ := Zero.h (P := P) (t := t) (zs := zs)
    have hrep := hp.rep (a := a) (fun p hp => hr p.2 (by simp only [Op.operands]; simpa using ⟨p.1, by simpa using hp⟩)) ht hE
    obtain ⟨out, ho, hA⟩ := fill_ok (fun i => some (i * sz, sz)) _ pd z.cells (zs.map Slot.fz) cs hrep (by rw [h5]; exact zero_cells h6) hf
    have hb : P.built t (parts.map fun (i, x) => (i, a.eval x)).toList = some out := by
      unfold Program.built
      simp only [h3, h1, h4, h2, h2', Array.toList_map]
      simpa using ho
    refine ⟨.agg out, ?_, out.toList, by simp, hA⟩
    simp only [execOp, Sem.run_bind, run_build w t _ out hb, Result.andThen_ok, Sem.run_pure]) k
end
end Go.Proofs.Ytnhljpbpfaablaa.VS
