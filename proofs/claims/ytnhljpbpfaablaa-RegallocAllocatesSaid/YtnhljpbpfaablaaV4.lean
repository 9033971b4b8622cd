/- Value semantics, part 4: operations that only compute. Conditions: none. -/
import Derived.Test.YtnhljpbpfaablaaV3
namespace Go.Proofs.Ytnhljpbpfaablaa.VS
open Go Go.RowKit

/-! ### 1. Operands -/
def constSlot : Value → Slot
  | .int k n => .r (.v (.i k n))
  | .bool x => .r (.v (.b x))
  | .string x => .r (.v (.s x))
  | .slice none 0 0 => .nil
  | _ => .undef
def ev (env : Nat → Slot) : Operand → Slot
  | .tmp t => env t
  | .const c => constSlot c
  | .func f => .r (.v (.fn f))
  | .global _ => .undef
theorem constSlot_rep {w : World} {ok : Nat → Prop} {ents : Nat → Ent} {ρ : Nat → Value} (c : Value) : SlotRep w ok ents ρ (constSlot c) c := by
  unfold constSlot
  split
  · exact FRep.i _ _
  · exact FRep.b _
  · exact FRep.s _
  · rfl
  · trivial
theorem RelR.ev {N : Nat} {w0 : World} {ok0 : Nat → Prop} {ρ : Nat → Value} {env : Nat → Slot} {ents : Nat → Ent} {a : Act} {w : World} (h : RelR N w0 ok0 ρ env ents a w) (x : Operand) :
    SlotRep w (okS w0 ok0 ents ρ) ents ρ (VS.ev env x) (a.eval x) := by
  cases x with
  | tmp t => exact h.slot t
  | const c => exact constSlot_rep c
  | func f => exact FRep.fn f
  | global g => trivial
theorem ev_congr {env env' : Nat → Slot} {x : Operand} (h : ∀ t, x = .tmp t → env' t = env t) : ev env' x = ev env x := by
  cases x with
  | tmp t => exact h t rfl
  | _ => rfl
theorem mem_looksAt {ops : Array Oper} {o : Oper} {t : Nat} (h : Operand.tmp t ∈ o.op.operands) : t ∈ o.looksAt ops := by
  unfold Oper.looksAt
  exact List.mem_append_left _ (List.mem_filterMap.2 ⟨.tmp t, by simpa using h, rfl⟩)

/-! ### 2. An operation that is carried out -/
def OpDo (P : Program) (N : Nat) (o : Oper) (env : Nat → Slot) (ents : Nat → Ent) (r : Rec) : Prop :=
  ∀ (w0 : World) (ok0 : Nat → Prop) (ρ : Nat → Value) (env' : Nat → Slot) (ents' : Nat → Ent) (a : Act) (w : World), (∀ x ∈ o.op.operands, VS.ev env' x = VS.ev env x) → (∀ p ∈ r.touch, ents' p = ents p) →
    RelR N w0 ok0 ρ env' ents' a w → ∀ (K : Act → World → Prop) (Q : Exit → Act → World → Prop),
      (∀ a' w', Rel N w0 ok0 (updO env' o.dst r.out) (updE ents' r.eff) a' w' → K a' w') → o.wp P a w K Q
/-- Is it carried out? -/
def Wants (ops : Array Oper) (env : Nat → Slot) (g : Option (Nat × Bool)) : Prop :=
  g = none ∨ ∃ (j : Nat) (c : Bool) (t : Nat), g = some (j, c) ∧ (ops[j]?).bind (·.dst) = some t ∧ env t = .r (.v (.b c))
theorem yields_of {N : Nat} {w0 : World} {ok0 : Nat → Prop} {ρ : Nat → Value} {env : Nat → Slot} {ents : Nat → Ent} {a : Act} {w : World} (h : RelR N w0 ok0 ρ env ents a w) {ops : Array Oper} {j t : Nat} {c : Bool}
    (ht : (ops[j]?).bind (·.dst) = some t) (he : env t = .r (.v (.b c))) : yielded ops a.tmps j = some c := by
  have hs := h.slot t
  rw [he] at hs
  have hv : a.tmps.getD t Go.undef = .bool c := by
    generalize a.tmps.getD t Go.undef = v at hs
    have hs : FRep _ _ (.b c) v := hs
    cases hs
    rfl
  have hx : a.tmps[t]? = some (.bool c) := by
    rw [Array.getD_eq_getD_getElem?] at hv
    cases hq : a.tmps[t]? with
    | none => rw [hq] at hv; simp [Go.undef] at hv
    | some u => rw [hq] at hv; simp at hv; rw [hv]
  unfold yielded
  rw [ht]
  simp [hx]
theorem looks_guard {ops : Array Oper} {o : Oper} {j t : Nat} {c : Bool} (hg : o.guard = some (j, c)) (ht : (ops[j]?).bind (·.dst) = some t) : t ∈ o.looksAt ops := by
  unfold Oper.looksAt
  refine List.mem_append_right _ ?_
  rw [hg]
  simp [ht]
theorem OpDo.ok {P : Program} {ops : Array Oper} {N : Nat} {o : Oper} {env : Nat → Slot} {ents : Nat → Ent} {r : Rec} (h : OpDo P N o env ents r) (hw : Wants ops env o.guard) : OpOK P ops N o env ents r := by
  intro w0 ok0 env' ents' a w hr ht hR K Q hK
  obtain ⟨ρ, hR⟩ := hR
  have hwant : Region.wanted o (yielded ops a.tmps) = true := by
    rcases hw with hg | ⟨j, c, t, hg, ht, he⟩
    · simp [Region.wanted, hg]
    · simp [Region.wanted, hg, yields_of hR ht ((hr t (looks_guard hg ht)).trans he)]
  rw [if_pos hwant]
  exact h w0 ok0 ρ env' ents' a w (fun x hx => ev_congr fun t e => hr t (mem_looksAt (by rw [← e]; exact hx))) ht hR K Q hK
/-- It is not carried out. -/
theorem OpOK.skip {P : Program} {ops : Array Oper} {N : Nat} {o : Oper} {env : Nat → Slot} {ents : Nat → Ent} {j t : Nat} {c : Bool} (hd : ∀ d, o.dst = some d → d < N) (hg : o.guard = some (j, c)) (ht : (ops[j]?).bind (·.dst) = some t) (he : env t = .r (.v (.b (!c)))) :
    OpOK P ops N o env ents ⟨.tup [], none, []⟩ := by
  intro w0 ok0 env' ents' a w hr _ hR K Q hK
  obtain ⟨ρ, hR⟩ := hR
  have hwant : ¬ Region.wanted o (yielded ops a.tmps) = true := by
    simp [Region.wanted, hg, yields_of hR ht ((hr t (looks_guard hg ht)).trans he)]
  rw [if_neg hwant]
  exact hK _ _ ⟨ρ, hR.put o.dst hd ⟨[], rfl, .nil⟩⟩

theorem yields_none {N : Nat} {w0 : World} {ok0 : Nat → Prop} {ρ : Nat → Value} {env : Nat → Slot} {ents : Nat → Ent} {a : Act} {w : World} (h : RelR N w0 ok0 ρ env ents a w) {ops : Array Oper} {j t : Nat}
    (ht : (ops[j]?).bind (·.dst) = some t) (he : env t = .tup []) : yielded ops a.tmps j = none := by
  have hs := h.slot t
  rw [he] at hs
  obtain ⟨vs, hv, hA⟩ := hs
  cases hA
  unfold yielded
  rw [ht]
  cases hq : a.tmps[t]? with
  | none => simp [hq]
  | some u =>
    rw [Array.getD_eq_getD_getElem?, hq] at hv
    have hv : u = .tuple #[] := hv
    simp [hq, hv]
/-- Nor is what hangs on one that is not. -/
theorem OpOK.skipU {P : Program} {ops : Array Oper} {N : Nat} {o : Oper} {env : Nat → Slot} {ents : Nat → Ent} {j t : Nat} {c : Bool} (hd : ∀ d, o.dst = some d → d < N) (hg : o.guard = some (j, c)) (ht : (ops[j]?).bind (·.dst) = some t) (he : env t = .tup []) :
    OpOK P ops N o env ents ⟨.tup [], none, []⟩ := by
  intro w0 ok0 env' ents' a w hr _ hR K Q hK
  obtain ⟨ρ, hR⟩ := hR
  have hwant : ¬ Region.wanted o (yielded ops a.tmps) = true := by
    simp [Region.wanted, hg, yields_none hR ht ((hr t (looks_guard hg ht)).trans he)]
  rw [if_neg hwant]
  exact hK _ _ ⟨ρ, hR.put o.dst hd ⟨[], rfl, .nil⟩⟩

section
variable {P : Program} {ops : Array Oper} {N : Nat} {o : Oper} {env : Nat → Slot} {ents : Nat → Ent} {s : Slot}
/-- It only computes. -/
theorem OpDo.pure (touch : List Nat) (hd : ∀ d, o.dst = some d → d < N)
    (h : ∀ (w : World) (ok : Nat → Prop) (ρ : Nat → Value) (ents' : Nat → Ent) (a : Act), (∀ x ∈ o.op.operands, SlotRep w ok ents' ρ (VS.ev env x) (a.eval x)) → (∀ p ∈ touch, ents' p = ents p) →
      (∀ p, EntRep w ok ents' ρ 0 p (ents' p)) →
      ∃ v, (execOp a.eval o).run P w = .ok (.value v) w ∧ SlotRep w ok ents' ρ s v) : OpDo P N o env ents ⟨s, none, touch⟩ := by
  intro w0 ok0 ρ env' ents' a w hev ht hR K Q hK
  obtain ⟨v, hrun, hs⟩ := h w _ ρ ents' a (fun x hx => by rw [← hev x hx]; exact hR.ev x) ht (fun p => by
    have := hR.ent p
    cases hx : ents' p with
    | gone => trivial
    | fro xs => rw [hx] at this; exact this
    | sav K => rw [hx] at this; exact this
    | box ty cs => rw [hx] at this; obtain ⟨g, vs, h1, _, h3⟩ := this; exact ⟨g, vs, h1, Nat.zero_le _, h3⟩
    | row e sz xs =>
      rw [hx] at this
      obtain ⟨vs, ho, h3⟩ := this
      refine ⟨vs, ⟨ho.1, ?_⟩, h3⟩
      rcases ho.2 with hn | ⟨g, cap, cur, h4, _, h5⟩
      · exact .inl hn
      · exact .inr ⟨g, cap, cur, h4, Nat.zero_le _, h5⟩)
  unfold Oper.wp
  rw [hrun]
  exact hK _ _ ⟨ρ, hR.put o.dst hd hs⟩
end

/-! ### 3. What is read off a slot -/
theorem rep_int {w : World} {ok : Nat → Prop} {ents : Nat → Ent} {ρ : Nat → Value} {k : IntKind} {n : Int} {v : Value} (h : SlotRep w ok ents ρ (.r (.v (.i k n))) v) : v = .int k n := by
  have h : FRep _ _ (.i k n) v := h
  cases h; rfl
theorem rep_bool {w : World} {ok : Nat → Prop} {ents : Nat → Ent} {ρ : Nat → Value} {x : Bool} {v : Value} (h : SlotRep w ok ents ρ (.r (.v (.b x))) v) : v = .bool x := by
  have h : FRep _ _ (.b x) v := h
  cases h; rfl
theorem rep_str {w : World} {ok : Nat → Prop} {ents : Nat → Ent} {ρ : Nat → Value} {x : ByteArray} {v : Value} (h : SlotRep w ok ents ρ (.r (.v (.s x))) v) : v = .string x := by
  have h : FRep _ _ (.s x) v := h
  cases h; rfl

/-! ### 4. Numbers and bools -/
/-- An operator on two whole numbers of one kind (shifts: their own). -/
def bop : BinOp → IntKind → Int → Int → Option FV
  | .add, k, x, y => some (.i k (k.wrap (x + y)))
  | .sub, k, x, y => some (.i k (k.wrap (x - y)))
  | .mul, k, x, y => some (.i k (k.wrap (x * y)))
  | .quo, k, x, y => if y = 0 then none else some (.i k (k.wrap (x.tdiv y)))
  | .rem, k, x, y => if y = 0 then none else some (.i k (x.tmod y))
  | .and, k, x, y => some (.i k (k.wrap (BitVec.ofInt k.bits x &&& BitVec.ofInt k.bits y).toNat))
  | .or, k, x, y => some (.i k (k.wrap (BitVec.ofInt k.bits x ||| BitVec.ofInt k.bits y).toNat))
  | .xor, k, x, y => some (.i k (k.wrap (BitVec.ofInt k.bits x ^^^ BitVec.ofInt k.bits y).toNat))
  | .andNot, k, x, y => some (.i k (k.wrap (BitVec.ofInt k.bits x &&& ~~~ BitVec.ofInt k.bits y).toNat))
  | .eql, _, x, y => some (.b (x == y))
  | .neq, _, x, y => some (.b (x != y))
  | .lss, _, x, y => some (.b (decide (x < y)))
  | .leq, _, x, y => some (.b (decide (x ≤ y)))
  | .gtr, _, x, y => some (.b (decide (x > y)))
  | .geq, _, x, y => some (.b (decide (x ≥ y)))
  | _, _, _, _ => none
def shop : BinOp → IntKind → Int → Int → Option FV
  | .shl, k, x, y => if y < 0 then none else some (.i k (k.wrap (x * 2 ^ (min y.toNat k.bits))))
  | .shr, k, x, y => if y < 0 then none else some (.i k (x.fdiv (2 ^ (min y.toNat k.bits))))
  | _, _, _, _ => none
theorem eqGuard_int (P : Program) (w : World) (op : BinOp) (t : TypeId) (x y : Operand) (k k' : IntKind) (a b : Int) : (eqGuard op t x y (.int k a) (.int k' b)).run P w = .ok () w := by
  cases op <;> simp [eqGuard]
theorem run_bop {P : Program} {w : World} {op : BinOp} {t : TypeId} {k : IntKind} {a b : Int} {z : FV} (h : bop op k a b = some z) : ∃ v, (binOp op t (.int k a) (.int k b)).run P w = .ok v w ∧ ∀ ok, FRep w ok z v := by
  cases op <;> simp only [bop] at h
  case quo =>
    by_cases hb : b = 0
    · simp [hb] at h
    · rw [if_neg hb] at h
      cases h
      exact ⟨_, by simp [binOp, Op.intDiv, hb], fun _ => .i _ _⟩
  case rem =>
    by_cases hb : b = 0
    · simp [hb] at h
    · rw [if_neg hb] at h
      cases h
      exact ⟨_, by simp [binOp, Op.intDiv, hb], fun _ => .i _ _⟩
  all_goals first
    | (cases h; done)
    | (cases h; exact ⟨_, by simp [binOp, Op.intArith, Op.intBits, Op.intCmp], fun _ => .i _ _⟩)
    | (cases h; exact ⟨_, by simp [binOp, Op.intArith, Op.intBits, Op.intCmp], fun _ => .b _⟩)
theorem run_shop {P : Program} {w : World} {op : BinOp} {t : TypeId} {k k' : IntKind} {a b : Int} {z : FV} (h : shop op k a b = some z) : ∃ v, (binOp op t (.int k a) (.int k' b)).run P w = .ok v w ∧ ∀ ok, FRep w ok z v := by
  cases op <;> simp only [shop] at h
  case shl =>
    by_cases hb : b < 0
    · simp [hb] at h
    · rw [if_neg hb] at h
      cases h
      exact ⟨_, by simp [binOp, Op.shift, hb], fun _ => .i _ _⟩
  case shr =>
    by_cases hb : b < 0
    · simp [hb] at h
    · rw [if_neg hb] at h
      cases h
      exact ⟨_, by simp [binOp, Op.shift, hb], fun _ => .i _ _⟩
  all_goals cases h
end Go.Proofs.Ytnhljpbpfaablaa.VS
