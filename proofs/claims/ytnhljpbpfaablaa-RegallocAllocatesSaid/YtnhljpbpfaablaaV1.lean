/- Value semantics, part 1: what an abstract value says of a machine value; the relation between an abstract state and a machine's frame and memory. Conditions: none. -/
import Derived.Below
import Derived.Deep.Draws
import Derived.OwnWalk
import Derived.Laws.MakeOwn
import Derived.Laws.OwnMore
import Derived.Tactics
import Derived.Laws.Slices
import Derived.WalkKit
import Derived.KernelRfl
import Derived.RowKit3
import Derived.Laws.Rows
import Derived.Laws.Tables
import Derived.Orders
namespace Go.Proofs.Ytnhljpbpfaablaa.VS
open Go Go.RowKit

/-! ### 1. Lists that agree place by place -/
inductive All2 {α β : Type} (R : α → β → Prop) : List α → List β → Prop
  | nil : All2 R [] []
  | cons {x y xs ys} : R x y → All2 R xs ys → All2 R (x :: xs) (y :: ys)
namespace All2
variable {α β : Type} {R R' : α → β → Prop}
theorem length {xs : List α} {ys : List β} (h : All2 R xs ys) : xs.length = ys.length := by
  induction h with
  | nil => rfl
  | cons _ _ ih => simp [ih]
theorem imp (hr : ∀ x y, R x y → R' x y) {xs : List α} {ys : List β} (h : All2 R xs ys) : All2 R' xs ys := by
  induction h with
  | nil => exact .nil
  | cons a _ ih => exact .cons (hr _ _ a) ih
theorem get {xs : List α} {ys : List β} (h : All2 R xs ys) : ∀ (i : Nat) (x : α), xs[i]? = some x → ∃ y, ys[i]? = some y ∧ R x y := by
  induction h with
  | nil => intro i x hx; simp at hx
  | cons a _ ih =>
    intro i x hx
    cases i with
    | zero => simp at hx; subst hx; exact ⟨_, rfl, a⟩
    | succ i => simpa using ih i x (by simpa using hx)
theorem get' {xs : List α} {ys : List β} (h : All2 R xs ys) : ∀ (i : Nat) (y : β), ys[i]? = some y → ∃ x, xs[i]? = some x ∧ R x y := by
  induction h with
  | nil => intro i x hx; simp at hx
  | cons a _ ih =>
    intro i x hx
    cases i with
    | zero => simp at hx; subst hx; exact ⟨_, rfl, a⟩
    | succ i => simpa using ih i x (by simpa using hx)
theorem append {xs xs' : List α} {ys ys' : List β} (h : All2 R xs ys) (h' : All2 R xs' ys') : All2 R (xs ++ xs') (ys ++ ys') := by
  induction h with
  | nil => exact h'
  | cons a _ ih => exact .cons a ih
theorem take {xs : List α} {ys : List β} (h : All2 R xs ys) : ∀ n, All2 R (xs.take n) (ys.take n) := by
  induction h with
  | nil => intro n; simp; exact .nil
  | cons a _ ih =>
    intro n
    cases n with
    | zero => simp; exact .nil
    | succ n => simp; exact .cons a (ih n)
theorem drop {xs : List α} {ys : List β} (h : All2 R xs ys) : ∀ n, All2 R (xs.drop n) (ys.drop n) := by
  induction h with
  | nil => intro n; simp; exact .nil
  | cons a h ih =>
    intro n
    cases n with
    | zero => simp; exact .cons a h
    | succ n => simpa using ih n
theorem set {xs : List α} {ys : List β} (h : All2 R xs ys) {x : α} {y : β} (hr : R x y) : ∀ n, All2 R (xs.set n x) (ys.set n y) := by
  induction h with
  | nil => intro n; simp; exact .nil
  | cons a h ih =>
    intro n
    cases n with
    | zero => simp; exact .cons hr h
    | succ n => simp; exact .cons a (ih n)
theorem of_get {xs : List α} {ys : List β} (hl : xs.length = ys.length) (h : ∀ (i : Nat) (x : α) (y : β), xs[i]? = some x → ys[i]? = some y → R x y) : All2 R xs ys := by
  induction xs generalizing ys with
  | nil => cases ys with
    | nil => exact .nil
    | cons => simp at hl
  | cons x xs ih => cases ys with
    | nil => simp at hl
    | cons y ys => exact .cons (h 0 x y rfl rfl) (ih (by simpa using hl) (fun i x y hx hy => h (i + 1) x y (by simpa using hx) (by simpa using hy)))
theorem replicate {x : α} {y : β} (h : R x y) : ∀ n, All2 R (List.replicate n x) (List.replicate n y)
  | 0 => .nil
  | n + 1 => by simp only [List.replicate_succ]; exact .cons h (replicate h n)
end All2

/-! ### 2. Values that nothing turns any more -/
/-- A value of one cell: a number, a bool, a string, a slice (as the list of its elements, each element the list of its cells), a function that captured nothing. -/
inductive FV where
  | i (k : IntKind) (n : Int)
  | b (x : Bool)
  | s (x : ByteArray)
  | sl (xs : List (List FV))
  | fn (f : FuncId)
  | zz
  | nn (xs : List (List FV))
  | fl (xs : List (List FV))

/-- What such a value says of a machine value; 'ok': the blocks that it may lead to. -/
inductive FRep (w : World) (ok : Nat → Prop) : FV → Value → Prop
  | i (k : IntKind) (n : Int) : FRep w ok (.i k n) (.int k n)
  | b (x : Bool) : FRep w ok (.b x) (.bool x)
  | s (x : ByteArray) : FRep w ok (.s x) (.string x)
  | fn (f : FuncId) : FRep w ok (.fn f) (.func (.func f) #[] #[])
  | zz : FRep w ok .zz (.slice none 0 0)
  | nn (xs : List (List FV)) (a : Addr) (n c : Nat) (h : FRep w ok (.sl xs) (.slice (some a) n c)) : FRep w ok (.nn xs) (.slice (some a) n c)
  | fl (xs : List (List FV)) (A : Option Addr) (n : Nat) (h : FRep w ok (.sl xs) (.slice A n n)) : FRep w ok (.fl xs) (.slice A n n)
  | sl (xs : List (List FV)) (A : Option Addr) (n c sz : Nat) (vs : Nat → Nat → Value) (hn : n = xs.length) (hc : n ≤ c) (hm : n ≤ maxLen) (hsz : ∀ x ∈ xs, x.length = sz)
      (hA : 0 < n → ∃ ad, A = some ad ∧ ∀ j i, j < n → i < sz → ok ad.block ∧ w.cell? (ad.add (j * sz + i)) = some (vs j i))
      (hv : ∀ (j i : Nat) (x : List FV) (y : FV), xs[j]? = some x → x[i]? = some y → FRep w ok y (vs j i)) (hz : A = none → c = 0) : FRep w ok (.sl xs) (.slice A n c)

section
variable {w w' : World} {ok ok' : Nat → Prop}
theorem FRep.oneCell {x : FV} {v : Value} (h : FRep w ok x v) : v.oneCell' = true := by cases h <;> rfl
theorem FRep.cells {x : FV} {v : Value} (h : FRep w ok x v) : v.cells = #[v] := by cases h <;> rfl
theorem cell_of_heap {a : Addr} {v : Value} (hh : w'.heap[a.block]? = w.heap[a.block]?) (h : w.cell? a = some v) : w'.cell? a = some v := by
  rw [World.cell?_of_block (w := w) hh]; exact h
theorem add_block (a : Addr) (n : Nat) : (a.add n).block = a.block := by unfold Addr.add; split <;> rfl
theorem add_lit (g j : Nat) : (⟨g, 0, none⟩ : Addr).add j = ⟨g, j, none⟩ := by unfold Addr.add; split <;> simp_all
theorem add_off (g o j : Nat) : (⟨g, o, none⟩ : Addr).add j = ⟨g, o + j, none⟩ := by unfold Addr.add; split <;> simp_all
theorem add_add (a : Addr) (m n : Nat) : (a.add m).add n = a.add (m + n) := by
  unfold Addr.add
  by_cases hm : m = 0 <;> by_cases hn : n = 0 <;> simp [hm, hn]
  omega

/-- What is handed on from a world to a later one: the blocks that may be led to are as they were, and may still be led to. -/
def Keeps (w w' : World) (ok ok' : Nat → Prop) : Prop := ∀ k, ok k → k < w.heap.size → w'.heap[k]? = w.heap[k]? ∧ ok' k

theorem FRep.mono (hk : Keeps w w' ok ok') {x : FV} {v : Value} (h : FRep w ok x v) : FRep w' ok' x v := by
  induction h with
  | i => exact .i _ _
  | b => exact .b _
  | s => exact .s _
  | fn => exact .fn _
  | zz => exact .zz
  | nn xs a n c h ih => exact .nn xs a n c ih
  | fl xs A n h ih => exact .fl xs A n ih
  | sl xs A n c sz vs hn hc hm hsz hA hv hz ih =>
    refine .sl xs A n c sz vs hn hc hm hsz (fun hp => ?_) ih hz
    obtain ⟨ad, e, hcell⟩ := hA hp
    refine ⟨ad, e, fun j i hj hi => ?_⟩
    obtain ⟨hok, hc⟩ := hcell j i hj hi
    have hlt := World.block_lt_of_cell? w _ hc
    rw [add_block] at hlt
    obtain ⟨hh, hok'⟩ := hk _ hok hlt
    exact ⟨hok', cell_of_heap (by rw [add_block]; exact hh) hc⟩

/-- Data: a value of one cell, or the cells of a struct or an array. -/
inductive RV where
  | v (x : FV)
  | agg (cs : List FV)
def RV.rep (w : World) (ok : Nat → Prop) : RV → Value → Prop
  | .v x, u => FRep w ok x u
  | .agg cs, u => ∃ vs, u = .agg vs.toArray ∧ All2 (FRep w ok) cs vs
def RV.flat : RV → List FV
  | .v x => [x]
  | .agg cs => cs
theorem RV.rep.mono (hk : Keeps w w' ok ok') {x : RV} {v : Value} (h : x.rep w ok v) : x.rep w' ok' v := by
  cases x with
  | v x => exact FRep.mono hk h
  | agg cs => obtain ⟨vs, e, h⟩ := h; exact ⟨vs, e, h.imp fun _ _ => FRep.mono hk⟩
theorem RV.rep.flat {x : RV} {v : Value} (h : x.rep w ok v) : All2 (FRep w ok) x.flat v.cells.toList := by
  cases x with
  | v x => rw [FRep.cells h]; exact .cons h .nil
  | agg cs => obtain ⟨vs, rfl, h⟩ := h; exact h
theorem all_oneCell {cs : List FV} {vs : List Value} (h : All2 (FRep w ok) cs vs) : ∀ v ∈ vs, v.oneCell' = true := by
  induction h with
  | nil => intro v hv; cases hv
  | cons a _ ih =>
    intro v hv
    cases hv with
    | head => exact a.oneCell
    | tail _ hv => exact ih v hv
end

/-! ### 3. What a temporary may hold -/
inductive Slot where
  | undef
  | nil
  | r (x : RV)
  | tup (xs : List RV)
  | fp (cs : List FV)
  | box (p off : Nat)
  | own (p n : Nat)
  | op (p n off : Nat)
  | opb (p n off : Nat) (b : Bool)
  | clo (f : FuncId) (ps : List Nat)
  | bsl (p off n : Nat)
/-- What the call owns: a variable in memory (its cells), a row that it made and may still append to or write, a row that it made and turns no more. -/
inductive Ent where
  | gone
  | box (ty : TypeId) (cs : List Slot)
  | row (e : TypeId) (sz : Nat) (xs : List (List FV))
  | fro (xs : List (List FV))
  | sav (K : List (Slot × Value))
def Ent.live : Ent → Prop
  | .box .. | .row .. => True
  | _ => False
def Ent.len? : Ent → Option Nat
  | .row _ _ xs => some xs.length
  | .fro xs => some xs.length
  | _ => none
def blk : Value → Option Nat
  | .pointer (some a) => some a.block
  | .slice (some a) _ _ => some a.block
  | _ => none

/-- A pointer to a variable of the call's own. -/
def BoxRep (ents : Nat → Ent) (ρ : Nat → Value) (p : Nat) (v : Value) : Prop := ∃ ty cs g, ents p = .box ty cs ∧ ρ p = .pointer (some ⟨g, 0, none⟩) ∧ v = .pointer (some ⟨g, 0, none⟩)
def SlotRep (w : World) (ok : Nat → Prop) (ents : Nat → Ent) (ρ : Nat → Value) : Slot → Value → Prop
  | .undef, _ => True
  | .nil, v => v = .slice none 0 0
  | .r x, v => x.rep w ok v
  | .tup xs, v => ∃ vs, v = .tuple vs.toArray ∧ All2 (RV.rep w ok) xs vs
  | .fp cs, v => ∃ ad vs, v = .pointer (some ad) ∧ All2 (FRep w ok) cs vs ∧ ∀ i u, vs[i]? = some u → ok ad.block ∧ w.cell? (ad.add i) = some u
  | .box p off, v => ∃ ty cs g, ents p = .box ty cs ∧ ρ p = .pointer (some ⟨g, 0, none⟩) ∧ v = .pointer (some ⟨g, off, none⟩)
  | .own p n, v => ∃ l, (ents p).len? = some l ∧ n ≤ l ∧ (n = l → v = ρ p)
  | .op p n off, v => ∃ l, (ents p).len? = some l ∧ n ≤ l ∧ (n = l → ∃ g m c, ρ p = .slice (some ⟨g, 0, none⟩) m c ∧ v = .pointer (some ⟨g, off, none⟩))
  | .opb p n off b, v => ∃ l, (ents p).len? = some l ∧ n ≤ l ∧ (n = l → ∃ g m c, ρ p = .slice (some ⟨g, 0, none⟩) m c ∧ v = .agg #[.pointer (some ⟨g, off, none⟩), .bool b])
  | .clo f ps, v => ∃ us : List Value, v = .func (.func f) #[] us.toArray ∧ All2 (BoxRep ents ρ) ps us
  | .bsl p off n, v => ∃ ty cs g c, ents p = .box ty cs ∧ ρ p = .pointer (some ⟨g, 0, none⟩) ∧ v = .slice (some ⟨g, off, none⟩) n c ∧ n ≤ c

def EntRep (w : World) (ok : Nat → Prop) (ents : Nat → Ent) (ρ : Nat → Value) (base : Nat) (p : Nat) : Ent → Prop
  | .gone => True
  | .box ty cs => ∃ g vs, ρ p = .pointer (some ⟨g, 0, none⟩) ∧ base ≤ g ∧ w.heap[g]? = some (.cells vs.toArray ty (0, 0)) ∧ All2 (SlotRep w ok ents ρ) cs vs ∧ ∀ u ∈ vs, u.oneCell' = true
  | .row e sz xs => ∃ vs : List (List Value), w.ownsRow base e sz (ρ p) xs.length vs.flatten ∧ All2 (All2 (FRep w ok)) xs vs ∧ (∀ x ∈ xs, x.length = sz) ∧ 0 < sz
  | .fro xs => FRep w ok (.sl xs) (ρ p)
  | .sav K => ∀ x ∈ K, SlotRep w ok ents ρ x.1 x.2

def okS (w0 : World) (ok0 : Nat → Prop) (ents : Nat → Ent) (ρ : Nat → Value) (k : Nat) : Prop :=
  (k < w0.heap.size → ok0 k) ∧ ∀ p, (ents p).live → blk (ρ p) ≠ some k

structure RelR (N : Nat) (w0 : World) (ok0 : Nat → Prop) (ρ : Nat → Value) (env : Nat → Slot) (ents : Nat → Ent) (a : Act) (w : World) : Prop where
  size : a.tmps.size = N
  defers : a.defers = []
  below : Below w0.heap.size w0 w
  inj : ∀ p q g, (ents p).live → (ents q).live → blk (ρ p) = some g → blk (ρ q) = some g → p = q
  ent : ∀ p, EntRep w (okS w0 ok0 ents ρ) ents ρ w0.heap.size p (ents p)
  slot : ∀ t, SlotRep w (okS w0 ok0 ents ρ) ents ρ (env t) (a.tmps.getD t Go.undef)
def Rel (N : Nat) (w0 : World) (ok0 : Nat → Prop) (env : Nat → Slot) (ents : Nat → Ent) (a : Act) (w : World) : Prop := ∃ ρ, RelR N w0 ok0 ρ env ents a w

/-- What is owned turns in a way that what leads to it bears. -/
def Compat (ents ents' : Nat → Ent) (ρ ρ' : Nat → Value) (p : Nat) : Prop :=
  (∀ ty cs, ents p = .box ty cs → (∃ cs', ents' p = .box ty cs') ∧ ρ' p = ρ p) ∧
  (∀ l, (ents p).len? = some l → ∃ l', (ents' p).len? = some l' ∧ l ≤ l' ∧ (l = l' → ρ' p = ρ p))
theorem Compat.same {ents ents' : Nat → Ent} {ρ ρ' : Nat → Value} {p : Nat} (he : ents' p = ents p) (hr : ρ' p = ρ p) : Compat ents ents' ρ ρ' p :=
  ⟨fun ty cs h => ⟨⟨cs, he.trans h⟩, hr⟩, fun l h => ⟨l, by rw [he]; exact h, Nat.le_refl _, fun _ => hr⟩⟩

theorem SlotRep.step {w w' : World} {ok ok' : Nat → Prop} {ents ents' : Nat → Ent} {ρ ρ' : Nat → Value} (hc : ∀ p, Compat ents ents' ρ ρ' p) (hk : Keeps w w' ok ok')
    {s : Slot} {v : Value} (h : SlotRep w ok ents ρ s v) : SlotRep w' ok' ents' ρ' s v := by
  cases s with
  | undef => trivial
  | nil => exact h
  | r x => exact RV.rep.mono hk h
  | tup xs => obtain ⟨vs, e, h⟩ := h; exact ⟨vs, e, h.imp fun _ _ => RV.rep.mono hk⟩
  | fp cs =>
    obtain ⟨ad, vs, e, h, hcell⟩ := h
    refine ⟨ad, vs, e, h.imp fun _ _ => FRep.mono hk, fun i u hu => ?_⟩
    obtain ⟨hok, hc⟩ := hcell i u hu
    have hlt := World.block_lt_of_cell? w _ hc
    rw [add_block] at hlt
    obtain ⟨hh, hok'⟩ := hk _ hok hlt
    exact ⟨hok', cell_of_heap (by rw [add_block]; exact hh) hc⟩
  | box p off =>
    obtain ⟨ty, cs, g, he, hr, hv⟩ := h
    obtain ⟨⟨cs', he'⟩, hr'⟩ := (hc p).1 ty cs he
    exact ⟨ty, cs', g, he', hr'.trans hr, hv⟩
  | own p n =>
    obtain ⟨l, hl, hn, hv⟩ := h
    obtain ⟨l', hl', hle, hr⟩ := (hc p).2 l hl
    refine ⟨l', hl', Nat.le_trans hn hle, fun e => ?_⟩
    rw [hr (by omega)]
    exact hv (by omega)
  | op p n off =>
    obtain ⟨l, hl, hn, hv⟩ := h
    obtain ⟨l', hl', hle, hr⟩ := (hc p).2 l hl
    refine ⟨l', hl', Nat.le_trans hn hle, fun e => ?_⟩
    rw [hr (by omega)]
    exact hv (by omega)
  | opb p n off b =>
    obtain ⟨l, hl, hn, hv⟩ := h
    obtain ⟨l', hl', hle, hr⟩ := (hc p).2 l hl
    refine ⟨l', hl', Nat.le_trans hn hle, fun e => ?_⟩
    rw [hr (by omega)]
    exact hv (by omega)
  | clo f ps =>
    obtain ⟨us, e, h⟩ := h
    refine ⟨us, e, h.imp fun p u hp => ?_⟩
    obtain ⟨ty, cs, g, he, hr, hv⟩ := hp
    obtain ⟨⟨cs', he'⟩, hr'⟩ := (hc p).1 ty cs he
    exact ⟨ty, cs', g, he', hr'.trans hr, hv⟩
  | bsl p off n =>
    obtain ⟨ty, cs, g, c, he, hr, hv⟩ := h
    obtain ⟨⟨cs', he'⟩, hr'⟩ := (hc p).1 ty cs he
    exact ⟨ty, cs', g, c, he', hr'.trans hr, hv⟩

theorem ownsRow_of_block {w w' : World} {base : Nat} {e : TypeId} {size n : Nat} {v : Value} {xs : List Value} (h : w.ownsRow base e size v n xs)
    (hb : ∀ k, blk v = some k → w'.heap[k]? = w.heap[k]?) : w'.ownsRow base e size v n xs := by
  refine ⟨h.1, ?_⟩
  rcases h.2 with hn | ⟨g, cap, cur, rfl, hg, hh, rest⟩
  · exact .inl hn
  · exact .inr ⟨g, cap, cur, rfl, hg, by rw [hb g rfl]; exact hh, rest⟩
theorem ownsRow_blk {w : World} {base : Nat} {e : TypeId} {size n : Nat} {v : Value} {xs : List Value} (h : w.ownsRow base e size v n xs) : ∀ k, blk v = some k → base ≤ k ∧ k < w.heap.size := by
  intro k hk
  refine h.lt k ?_
  rcases h.2 with ⟨rfl, _⟩ | ⟨g, cap, cur, rfl, _⟩
  · cases hk
  · exact hk
theorem RelR.blk_lt {N : Nat} {w0 : World} {ok0 : Nat → Prop} {ρ : Nat → Value} {env : Nat → Slot} {ents : Nat → Ent} {a : Act} {w : World} (h : RelR N w0 ok0 ρ env ents a w) {p g : Nat}
    (hl : (ents p).live) (hg : blk (ρ p) = some g) : w0.heap.size ≤ g ∧ g < w.heap.size := by
  have he := h.ent p
  cases hp : ents p with
  | gone => rw [hp] at hl; exact hl.elim
  | fro xs => rw [hp] at hl; exact hl.elim
  | sav K => rw [hp] at hl; exact hl.elim
  | box ty cs =>
    rw [hp] at he
    obtain ⟨g', vs, hr, hb, hh, _⟩ := he
    rw [hr] at hg
    cases hg
    exact ⟨hb, (Array.getElem?_eq_some_iff.1 hh).1⟩
  | row e sz xs =>
    rw [hp] at he
    obtain ⟨vs, ho, _⟩ := he
    exact ownsRow_blk ho g hg

/-- THE STEP: at most what entry p owns turns, and what is new. -/
theorem RelR.move {N : Nat} {w0 : World} {ok0 : Nat → Prop} {ρ ρ' : Nat → Value} {env : Nat → Slot} {ents ents' : Nat → Ent} {a : Act} {w w' : World} (p : Nat) (h : RelR N w0 ok0 ρ env ents a w)
    (hb : Below w0.heap.size w0 w') (hs : ∀ k, k < w.heap.size → ((ents p).live → blk (ρ p) ≠ some k) → w'.heap[k]? = w.heap[k]?)
    (he : ∀ q, q ≠ p → ents' q = ents q ∧ ρ' q = ρ q) (hc : Compat ents ents' ρ ρ' p)
    (hl : ∀ g, (ents' p).live → blk (ρ' p) = some g → ((ents p).live ∧ blk (ρ p) = some g) ∨ w.heap.size ≤ g)
    (hp : (∀ q, Compat ents ents' ρ ρ' q) → Keeps w w' (okS w0 ok0 ents ρ) (okS w0 ok0 ents' ρ') → EntRep w' (okS w0 ok0 ents' ρ') ents' ρ' w0.heap.size p (ents' p)) :
    RelR N w0 ok0 ρ' env ents' a w' := by
  have hcc : ∀ q, Compat ents ents' ρ ρ' q := fun q => by
    by_cases hq : q = p
    · subst hq; exact hc
    · exact .same (he q hq).1 (he q hq).2
  have hkeep : Keeps w w' (okS w0 ok0 ents ρ) (okS w0 ok0 ents' ρ') := by
    intro k hk hlt
    refine ⟨hs k hlt (hk.2 p), hk.1, fun q hq hg => ?_⟩
    by_cases e : q = p
    · subst e
      rcases hl k hq hg with ⟨h1, h2⟩ | h2
      · exact hk.2 q h1 h2
      · omega
    · rw [(he q e).1] at hq
      rw [(he q e).2] at hg
      exact hk.2 q hq hg
  have hblk : ∀ q, q ≠ p → (ents q).live → ∀ g, blk (ρ q) = some g → w'.heap[g]? = w.heap[g]? := fun q hq hlq g hg =>
    hs g (h.blk_lt hlq hg).2 (fun hlp hgp => hq (h.inj q p g hlq hlp hg hgp))
  refine ⟨h.size, h.defers, hb, ?_, ?_, fun t => (h.slot t).step hcc hkeep⟩
  · intro q r g hq hr hgq hgr
    have key : ∀ s, s ≠ p → (ents' s).live → blk (ρ' s) = some g → (ents' p).live → blk (ρ' p) = some g → False := by
      intro s hsp hls hgs hlp hgp
      rw [(he s hsp).1] at hls
      rw [(he s hsp).2] at hgs
      rcases hl g hlp hgp with ⟨h1, h2⟩ | h2
      · exact hsp (h.inj s p g hls h1 hgs h2)
      · have := (h.blk_lt hls hgs).2; omega
    by_cases e1 : q = p <;> by_cases e2 : r = p
    · omega
    · subst e1; exact (key r e2 hr hgr hq hgq).elim
    · subst e2; exact (key q e1 hq hgq hr hgr).elim
    · rw [(he q e1).1] at hq
      rw [(he q e1).2] at hgq
      rw [(he r e2).1] at hr
      rw [(he r e2).2] at hgr
      exact h.inj q r g hq hr hgq hgr
  · intro q
    by_cases e : q = p
    · subst e; exact hp hcc hkeep
    · have hq := h.ent q
      rw [(he q e).1]
      cases hx : ents q with
      | gone => trivial
      | fro xs =>
        rw [hx] at hq
        show FRep _ _ _ _
        rw [(he q e).2]
        exact FRep.mono hkeep hq
      | sav K => rw [hx] at hq; exact fun x hx => (hq x hx).step hcc hkeep
      | box ty cs =>
        rw [hx] at hq
        obtain ⟨g, vs, hr, hbg, hh, ha, h1⟩ := hq
        exact ⟨g, vs, by rw [(he q e).2]; exact hr, hbg, by rw [hblk q e (by rw [hx]; trivial) g (by rw [hr]; rfl)]; exact hh, ha.imp fun _ _ => SlotRep.step hcc hkeep, h1⟩
      | row ty sz xs =>
        rw [hx] at hq
        obtain ⟨vs, ho, ha, h1⟩ := hq
        refine ⟨vs, ?_, ha.imp fun _ _ h => h.imp fun _ _ => FRep.mono hkeep, h1⟩
        rw [(he q e).2]
        exact ownsRow_of_block ho (hblk q e (by rw [hx]; trivial))

/-- Nothing turned but what is new. -/
theorem RelR.later {N : Nat} {w0 : World} {ok0 : Nat → Prop} {ρ : Nat → Value} {env : Nat → Slot} {ents : Nat → Ent} {a : Act} {w w' : World} (h : RelR N w0 ok0 ρ env ents a w)
    (hb : Below w.heap.size w w') : RelR N w0 ok0 ρ env ents a w' := by
  refine h.move 0 (h.below.trans (hb.mono h.below.size)) (fun k hk _ => hb.block k hk) (fun _ _ => ⟨rfl, rfl⟩) (.same rfl rfl) (fun g h1 h2 => .inl ⟨h1, h2⟩) (fun hcc hkeep => ?_)
  have hq := h.ent 0
  cases hx : ents 0 with
  | gone => trivial
  | fro xs => rw [hx] at hq; exact FRep.mono hkeep hq
  | sav K => rw [hx] at hq; exact fun x hx => (hq x hx).step hcc hkeep
  | box ty cs =>
    rw [hx] at hq
    obtain ⟨g, vs, hr, hbg, hh, ha, h1⟩ := hq
    exact ⟨g, vs, hr, hbg, by rw [hb.block g (Array.getElem?_eq_some_iff.1 hh).1]; exact hh, ha.imp fun _ _ => SlotRep.step hcc hkeep, h1⟩
  | row ty sz xs =>
    rw [hx] at hq
    obtain ⟨vs, ho, ha, h1⟩ := hq
    exact ⟨vs, ownsRow_of_block ho (fun k hk => hb.block k (ownsRow_blk ho k hk).2), ha.imp fun _ _ h => h.imp fun _ _ => FRep.mono hkeep, h1⟩

/-! ### 4. A temporary is written -/
def upd {α : Type} (f : Nat → α) (d : Nat) (x : α) : Nat → α := fun t => if t = d then x else f t
def updO {α : Type} (f : Nat → α) (d : Option Nat) (x : α) : Nat → α := match d with | some d => upd f d x | none => f
theorem getD_put (a : Act) (d t : Nat) (v : Value) (hd : d < a.tmps.size) : (a.put (some d) v).tmps.getD t Go.undef = if t = d then v else a.tmps.getD t Go.undef := by
  simp only [Act.put, Array.getD_eq_getD_getElem?]
  by_cases h : t = d
  · subst h; simp [hd]
  · rw [if_neg h, Array.getElem?_setIfInBounds_ne (by omega)]
theorem RelR.put {N : Nat} {w0 : World} {ok0 : Nat → Prop} {ρ : Nat → Value} {env : Nat → Slot} {ents : Nat → Ent} {a : Act} {w : World} (h : RelR N w0 ok0 ρ env ents a w)
    (dst : Option Nat) (hd : ∀ d, dst = some d → d < N) {s : Slot} {v : Value} (hs : SlotRep w (okS w0 ok0 ents ρ) ents ρ s v) : RelR N w0 ok0 ρ (updO env dst s) ents (a.put dst v) w := by
  cases dst with
  | none => exact h
  | some d =>
    have hlt : d < a.tmps.size := by rw [h.size]; exact hd d rfl
    refine ⟨by simp [Act.put, h.size], h.defers, h.below, h.inj, h.ent, fun t => ?_⟩
    rw [getD_put a d t v hlt]
    show SlotRep _ _ _ _ (if t = d then s else env t) _
    by_cases e : t = d
    · rw [if_pos e, if_pos e]; exact hs
    · rw [if_neg e, if_neg e]; exact h.slot t
end Go.Proofs.Ytnhljpbpfaablaa.VS
