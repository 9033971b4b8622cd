/- Value semantics, part 6: the rules by which a region's operations are walked: what only computes, and what reads. Conditions: none. -/
import Derived.Test.YtnhljpbpfaablaaV5
set_option linter.unusedSimpArgs false
set_option linter.unusedVariables false
namespace Go.Proofs.Ytnhljpbpfaablaa.VS
open Go Go.RowKit

/-! ### 1. Operands -/
inductive Look : List (Nat × Slot) → Nat → Slot → Prop
  | here {t : Nat} {s : Slot} {l : List (Nat × Slot)} : Look ((t, s) :: l) t s
  | there {t k : Nat} {s s' : Slot} {l : List (Nat × Slot)} (h : Nat.beq k t = false) : Look l t s → Look ((k, s') :: l) t s
theorem Look.eq {l : List (Nat × Slot)} {t : Nat} {s : Slot} (h : Look l t s) : look l t = s := by
  induction h with
  | here => simp [look]
  | there h _ ih => simp only [look, h, cond_false]; exact ih
inductive Opd (E : List (Nat × Slot)) : Operand → Slot → Prop
  | tmp {t : Nat} {s : Slot} (h : Look E t s) : Opd E (.tmp t) s
  | int (k : IntKind) (n : Int) : Opd E (.const (.int k n)) (.r (.v (.i k n)))
  | bool (x : Bool) : Opd E (.const (.bool x)) (.r (.v (.b x)))
  | str (x : ByteArray) : Opd E (.const (.string x)) (.r (.v (.s x)))
  | nil : Opd E (.const (.slice none 0 0)) .nil
  | fn (f : FuncId) : Opd E (.func f) (.r (.v (.fn f)))
theorem Opd.eq {E : List (Nat × Slot)} {x : Operand} {s : Slot} (h : Opd E x s) : ev (look E) x = s := by
  cases h with
  | tmp h => exact h.eq
  | _ => rfl
inductive W (ops : Array Oper) (E : List (Nat × Slot)) : Option (Nat × Bool) → Prop
  | none : W ops E none
  | some {j t : Nat} {c : Bool} (ht : (ops[j]?).bind (·.dst) = some t) (h : Look E t (.r (.v (.b c)))) : W ops E (some (j, c))
theorem wof {ops : Array Oper} {E : List (Nat × Slot)} {j t : Nat} {c x : Bool} (ht : (ops[j]?).bind (·.dst) = some t) (h : Look E t (.r (.v (.b x)))) (hx : x = c) : W ops E (some (j, c)) := W.some ht (hx ▸ h)
theorem W.wants {ops : Array Oper} {E : List (Nat × Slot)} {g : Option (Nat × Bool)} (h : W ops E g) : Wants ops (look E) g := by
  cases h with
  | none => exact .inl rfl
  | some ht h => exact .inr ⟨_, _, _, rfl, ht, h.eq⟩

section
variable {P : Program} {ops : Array Oper} {N : Nat} {fin : St → List Rec → Prop} {l : List Oper} {E : List (Nat × Slot)} {O : List Ent} {rs : List Rec} {d : Nat} {ty : TypeId} {pos : String} {after : Array Edge} {g : Option (Nat × Bool)}

theorem Runs.op {o : Oper} {S : St} {r : Rec} (h : OpDo P N o S.e S.o r) (hw : Wants ops S.e o.guard) (hf : S.fits r.eff) (k : Runs P ops N fin l (S.step o.dst r) (r :: rs)) : Runs P ops N fin (o :: l) S rs :=
  ⟨r, h.ok hw, hf, k⟩
theorem rNil {S : St} (h : fin S rs.reverse) : Runs P ops N fin [] S rs := h
/-- An operation whose guard says no. -/
theorem rNo {dst : Option Nat} {op : Op} {j t : Nat} {c : Bool} (k : Runs P ops N fin l ⟨putE E dst (.tup []), O⟩ (⟨.tup [], none, []⟩ :: rs)) (ht : (ops[j]?).bind (·.dst) = some t) (h : Look E t (.r (.v (.b (!c)))))
    (hd : ∀ d, dst = some d → d < N) : Runs P ops N fin (⟨dst, op, ty, pos, after, some (j, c)⟩ :: l) ⟨E, O⟩ rs :=
  ⟨⟨.tup [], none, []⟩, OpOK.skip hd rfl ht h.eq, trivial, k⟩
theorem rNoU {dst : Option Nat} {op : Op} {j t : Nat} {c : Bool} (k : Runs P ops N fin l ⟨putE E dst (.tup []), O⟩ (⟨.tup [], none, []⟩ :: rs)) (ht : (ops[j]?).bind (·.dst) = some t) (h : Look E t (.tup []))
    (hd : ∀ d, dst = some d → d < N) : Runs P ops N fin (⟨dst, op, ty, pos, after, some (j, c)⟩ :: l) ⟨E, O⟩ rs :=
  ⟨⟨.tup [], none, []⟩, OpOK.skipU hd rfl ht h.eq, trivial, k⟩
/-- A pure operation, a rule of its own. -/
theorem rPure {op : Op} {s : Slot} {touch : List Nat} (hd : d < N) (hw : W ops E g)
    (h : ∀ (w : World) (ok : Nat → Prop) (ρ : Nat → Value) (ents' : Nat → Ent) (a : Act), (∀ x ∈ op.operands, SlotRep w ok ents' ρ (ev (look E) x) (a.eval x)) → (∀ p ∈ touch, ents' p = O.getD p .gone) →
      (∀ p, EntRep w ok ents' ρ 0 p (ents' p)) →
      ∃ v, (execOp a.eval ⟨some d, op, ty, pos, after, g⟩).run P w = .ok (.value v) w ∧ SlotRep w ok ents' ρ s v)
    (k : Runs P ops N fin l ⟨(d, s) :: E, O⟩ (⟨s, none, touch⟩ :: rs)) : Runs P ops N fin (⟨some d, op, ty, pos, after, g⟩ :: l) ⟨E, O⟩ rs :=
  Runs.op (o := ⟨some d, op, ty, pos, after, g⟩) (r := ⟨s, none, touch⟩) (OpDo.pure touch (fun d' h => by cases h; exact hd) h) hw.wants trivial k

/-! ### 2. What only computes -/
theorem rMv {x : Operand} {s : Slot} (hx : Opd E x s) (hd : d < N) (hw : W ops E g) (k : Runs P ops N fin l ⟨(d, s) :: E, O⟩ (⟨s, none, []⟩ :: rs)) : Runs P ops N fin (⟨some d, .move x, ty, pos, after, g⟩ :: l) ⟨E, O⟩ rs :=
  rPure hd hw (fun w ok ρ ents' a hr _ _ => ⟨a.eval x, rfl, by rw [← hx.eq]; exact hr x (by simp [Op.operands])⟩) k
theorem rAs {x : Operand} {s : Slot} (hx : Opd E x s) (hd : d < N) (hw : W ops E g) (k : Runs P ops N fin l ⟨(d, s) :: E, O⟩ (⟨s, none, []⟩ :: rs)) : Runs P ops N fin (⟨some d, .assign x, ty, pos, after, g⟩ :: l) ⟨E, O⟩ rs :=
  rPure hd hw (fun w ok ρ ents' a hr _ _ => ⟨a.eval x, rfl, by rw [← hx.eq]; exact hr x (by simp [Op.operands])⟩) k
/-- Behind a test that is decided. -/
theorem rPkT {c x y : Operand} {s : Slot} (hc : Opd E c (.r (.v (.b true)))) (hx : Opd E x s) (hd : d < N) (hw : W ops E g) (k : Runs P ops N fin l ⟨(d, s) :: E, O⟩ (⟨s, none, []⟩ :: rs)) :
    Runs P ops N fin (⟨some d, .pick c x y, ty, pos, after, g⟩ :: l) ⟨E, O⟩ rs :=
  rPure hd hw (fun w ok ρ ents' a hr _ _ => ⟨a.eval x, by
    have := hr c (by simp [Op.operands]); rw [hc.eq] at this
    simp [execOp, rep_bool this, asBool], by rw [← hx.eq]; exact hr x (by simp [Op.operands])⟩) k
theorem rPkF {c x y : Operand} {s : Slot} (hc : Opd E c (.r (.v (.b false)))) (hy : Opd E y s) (hd : d < N) (hw : W ops E g) (k : Runs P ops N fin l ⟨(d, s) :: E, O⟩ (⟨s, none, []⟩ :: rs)) :
    Runs P ops N fin (⟨some d, .pick c x y, ty, pos, after, g⟩ :: l) ⟨E, O⟩ rs :=
  rPure hd hw (fun w ok ρ ents' a hr _ _ => ⟨a.eval y, by
    have := hr c (by simp [Op.operands]); rw [hc.eq] at this
    simp [execOp, rep_bool this, asBool], by rw [← hy.eq]; exact hr y (by simp [Op.operands])⟩) k
theorem rBo {b : BinOp} {x y : Operand} {t t' : TypeId} {kk : IntKind} {m n : Int} {z : FV} (hx : Opd E x (.r (.v (.i kk m)))) (hy : Opd E y (.r (.v (.i kk n)))) (hz : bop b kk m n = some z) (hd : d < N) (hw : W ops E g)
    (k : Runs P ops N fin l ⟨(d, .r (.v z)) :: E, O⟩ (⟨.r (.v z), none, []⟩ :: rs)) : Runs P ops N fin (⟨some d, .binOp b t x y t', ty, pos, after, g⟩ :: l) ⟨E, O⟩ rs :=
  rPure hd hw (fun w ok ρ ents' a hr _ _ => by
    have h1 := hr x (by simp [Op.operands]); have h2 := hr y (by simp [Op.operands]); rw [hx.eq] at h1; rw [hy.eq] at h2
    obtain ⟨v, hv, hrep⟩ := run_bop (P := P) (w := w) (t := t) hz
    refine ⟨v, ?_, hrep ok⟩
    simp only [execOp, rep_int h1, rep_int h2, Sem.run_bind, eqGuard_int, Result.andThen_ok, hv, Sem.run_pure]) k
/-- A comparison, its outcome under a name. -/
theorem rBq {b : BinOp} {x y : Operand} {t t' : TypeId} {kk : IntKind} {m n : Int} {z : Bool} (hx : Opd E x (.r (.v (.i kk m)))) (hy : Opd E y (.r (.v (.i kk n)))) (hz : bop b kk m n = some (.b z)) (hd : d < N) (hw : W ops E g)
    (k : ∀ c : Bool, z = c → Runs P ops N fin l ⟨(d, .r (.v (.b c))) :: E, O⟩ (⟨.r (.v (.b c)), none, []⟩ :: rs)) : Runs P ops N fin (⟨some d, .binOp b t x y t', ty, pos, after, g⟩ :: l) ⟨E, O⟩ rs :=
  rBo hx hy hz hd hw (k z rfl)
theorem rSh {b : BinOp} {x y : Operand} {t t' : TypeId} {kk kk' : IntKind} {m n : Int} {z : FV} (hx : Opd E x (.r (.v (.i kk m)))) (hy : Opd E y (.r (.v (.i kk' n)))) (hz : shop b kk m n = some z) (hd : d < N) (hw : W ops E g)
    (k : Runs P ops N fin l ⟨(d, .r (.v z)) :: E, O⟩ (⟨.r (.v z), none, []⟩ :: rs)) : Runs P ops N fin (⟨some d, .binOp b t x y t', ty, pos, after, g⟩ :: l) ⟨E, O⟩ rs :=
  rPure hd hw (fun w ok ρ ents' a hr _ _ => by
    have h1 := hr x (by simp [Op.operands]); have h2 := hr y (by simp [Op.operands]); rw [hx.eq] at h1; rw [hy.eq] at h2
    obtain ⟨v, hv, hrep⟩ := run_shop (P := P) (w := w) (t := t) (k' := kk') hz
    refine ⟨v, ?_, hrep ok⟩
    simp only [execOp, rep_int h1, rep_int h2, Sem.run_bind, eqGuard_int, Result.andThen_ok, hv, Sem.run_pure]) k
class IsBool (P : Program) (t : TypeId) : Prop where
  h : P.underlying t = some .bool
class IsInt (P : Program) (t : TypeId) (k : outParam IntKind) : Prop where
  h : P.underlying t = some (.int k)
theorem run_equal_b {w : World} {t : TypeId} (h : P.underlying t = some .bool) (x y : Bool) : (Op.equal t (.bool x) (.bool y)).run P w = .ok (x == y) w := by
  exact run_equalIn_bool w 9999 t x y h
theorem rBe {x y : Operand} {t t' : TypeId} [IsBool P t] {m n : Bool} (hx : Opd E x (.r (.v (.b m)))) (hy : Opd E y (.r (.v (.b n)))) (hd : d < N) (hw : W ops E g)
    (k : Runs P ops N fin l ⟨(d, .r (.v (.b (m == n)))) :: E, O⟩ (⟨.r (.v (.b (m == n))), none, []⟩ :: rs)) : Runs P ops N fin (⟨some d, .binOp .eql t x y t', ty, pos, after, g⟩ :: l) ⟨E, O⟩ rs :=
  rPure hd hw (fun w ok ρ ents' a hr _ _ => by
    have h1 := hr x (by simp [Op.operands]); have h2 := hr y (by simp [Op.operands]); rw [hx.eq] at h1; rw [hy.eq] at h2
    refine ⟨.bool (m == n), ?_, FRep.b _⟩
    simp only [execOp, rep_bool h1, rep_bool h2, Sem.run_bind, eqGuard_at_bool, Sem.run_pure, Result.andThen_ok, binOp, run_equal_b (IsBool.h (P := P) (t := t))]) k
theorem rBn {x y : Operand} {t t' : TypeId} [IsBool P t] {m n : Bool} (hx : Opd E x (.r (.v (.b m)))) (hy : Opd E y (.r (.v (.b n)))) (hd : d < N) (hw : W ops E g)
    (k : Runs P ops N fin l ⟨(d, .r (.v (.b (m != n)))) :: E, O⟩ (⟨.r (.v (.b (m != n))), none, []⟩ :: rs)) : Runs P ops N fin (⟨some d, .binOp .neq t x y t', ty, pos, after, g⟩ :: l) ⟨E, O⟩ rs :=
  rPure hd hw (fun w ok ρ ents' a hr _ _ => by
    have h1 := hr x (by simp [Op.operands]); have h2 := hr y (by simp [Op.operands]); rw [hx.eq] at h1; rw [hy.eq] at h2
    refine ⟨.bool (m != n), ?_, FRep.b _⟩
    simp only [execOp, rep_bool h1, rep_bool h2, Sem.run_bind, eqGuard_at_bool, Sem.run_pure, Result.andThen_ok, binOp, run_equal_b (IsBool.h (P := P) (t := t)), bne]) k
theorem rNt {x : Operand} {t : TypeId} {m : Bool} (hx : Opd E x (.r (.v (.b m)))) (hd : d < N) (hw : W ops E g)
    (k : Runs P ops N fin l ⟨(d, .r (.v (.b (!m)))) :: E, O⟩ (⟨.r (.v (.b (!m))), none, []⟩ :: rs)) : Runs P ops N fin (⟨some d, .unOp .not t x, ty, pos, after, g⟩ :: l) ⟨E, O⟩ rs :=
  rPure hd hw (fun w ok ρ ents' a hr _ _ => by
    have h1 := hr x (by simp [Op.operands]); rw [hx.eq] at h1
    exact ⟨.bool (!m), by simp [execOp, rep_bool h1, Op.unary], FRep.b _⟩) k
theorem rNg {x : Operand} {t : TypeId} {kk : IntKind} {m n : Int} (hx : Opd E x (.r (.v (.i kk m)))) (hz : kk.wrap (0 - m) = n) (hd : d < N) (hw : W ops E g)
    (k : Runs P ops N fin l ⟨(d, .r (.v (.i kk n))) :: E, O⟩ (⟨.r (.v (.i kk n)), none, []⟩ :: rs)) : Runs P ops N fin (⟨some d, .unOp .neg t x, ty, pos, after, g⟩ :: l) ⟨E, O⟩ rs :=
  rPure hd hw (fun w ok ρ ents' a hr _ _ => by
    have h1 := hr x (by simp [Op.operands]); rw [hx.eq] at h1
    subst hz
    exact ⟨.int kk (kk.wrap (0 - m)), by simp [execOp, rep_int h1, Op.unary, Op.intArith], FRep.i _ _⟩) k
theorem rCv {x : Operand} {t t' : TypeId} {kk kk' : IntKind} {m n : Int} [IsInt P t kk] [IsInt P t' kk'] (hx : Opd E x (.r (.v (.i kk m)))) (hz : kk'.wrap m = n) (hd : d < N) (hw : W ops E g)
    (k : Runs P ops N fin l ⟨(d, .r (.v (.i kk' n))) :: E, O⟩ (⟨.r (.v (.i kk' n)), none, []⟩ :: rs)) : Runs P ops N fin (⟨some d, .convert t t' x, ty, pos, after, g⟩ :: l) ⟨E, O⟩ rs :=
  rPure hd hw (fun w ok ρ ents' a hr _ _ => by
    have h1 := hr x (by simp [Op.operands]); rw [hx.eq] at h1
    subst hz
    refine ⟨.int kk' (kk'.wrap m), ?_, FRep.i _ _⟩
    have e1 := run_underlying (IsInt.h (P := P) (t := t)) w
    have e2 := run_underlying (IsInt.h (P := P) (t := t')) w
    simp [execOp, rep_int h1, convert, e1, e2, Conv.intToInt]) k
theorem rEx {x : Operand} {n : Nat} {xs : List RV} {y : RV} (hx : Opd E x (.tup xs)) (hy : xs[n]? = some y) (hd : d < N) (hw : W ops E g)
    (k : Runs P ops N fin l ⟨(d, .r y) :: E, O⟩ (⟨.r y, none, []⟩ :: rs)) : Runs P ops N fin (⟨some d, .extract x n, ty, pos, after, g⟩ :: l) ⟨E, O⟩ rs :=
  rPure hd hw (fun w ok ρ ents' a hr _ _ => by
    have h1 := hr x (by simp [Op.operands]); rw [hx.eq] at h1
    obtain ⟨vs, hv, h2⟩ := h1
    obtain ⟨u, hu, h3⟩ := h2.get n y hy
    exact ⟨u, by simp [execOp, hv, Instr.extract, hu], h3⟩) k
def mx (x y : Int) : Int := if x < y then y else x
def mn (x y : Int) : Int := if y < x then y else x
theorem max2_int (kk kk' : IntKind) (x y : Int) : Builtin.max2 (.int kk x) (.int kk' y) = Pure.pure (.int kk (mx x y)) := rfl
theorem min2_int (kk kk' : IntKind) (x y : Int) : Builtin.min2 (.int kk x) (.int kk' y) = Pure.pure (.int kk (mn x y)) := rfl
theorem rMx2 {x y : Operand} {at_ : Array TypeId} {kk : IntKind} {m n : Int} (hx : Opd E x (.r (.v (.i kk m)))) (hy : Opd E y (.r (.v (.i kk n)))) (hd : d < N) (hw : W ops E g)
    (k : Runs P ops N fin l ⟨(d, .r (.v (.i kk (mx m n)))) :: E, O⟩ (⟨.r (.v (.i kk (mx m n))), none, []⟩ :: rs)) :
    Runs P ops N fin (⟨some d, .call { callee := .builtin .max, args := #[x, y], argTypes := at_ }, ty, pos, after, g⟩ :: l) ⟨E, O⟩ rs :=
  rPure hd hw (fun w ok ρ ents' a hr _ _ => by
    have h1 := hr x (by simp [Op.operands, Call.operands]); have h2 := hr y (by simp [Op.operands, Call.operands]); rw [hx.eq] at h1; rw [hy.eq] at h2
    exact ⟨.int kk (mx m n), by simp [execOp, resolve, invoke, builtin, rep_int h1, rep_int h2, Builtin.max_, max2_int], FRep.i _ _⟩) k
theorem rMn2 {x y : Operand} {at_ : Array TypeId} {kk : IntKind} {m n : Int} (hx : Opd E x (.r (.v (.i kk m)))) (hy : Opd E y (.r (.v (.i kk n)))) (hd : d < N) (hw : W ops E g)
    (k : Runs P ops N fin l ⟨(d, .r (.v (.i kk (mn m n)))) :: E, O⟩ (⟨.r (.v (.i kk (mn m n))), none, []⟩ :: rs)) :
    Runs P ops N fin (⟨some d, .call { callee := .builtin .min, args := #[x, y], argTypes := at_ }, ty, pos, after, g⟩ :: l) ⟨E, O⟩ rs :=
  rPure hd hw (fun w ok ρ ents' a hr _ _ => by
    have h1 := hr x (by simp [Op.operands, Call.operands]); have h2 := hr y (by simp [Op.operands, Call.operands]); rw [hx.eq] at h1; rw [hy.eq] at h2
    exact ⟨.int kk (mn m n), by simp [execOp, resolve, invoke, builtin, rep_int h1, rep_int h2, Builtin.min_, min2_int], FRep.i _ _⟩) k
theorem rMx3 {x y z : Operand} {at_ : Array TypeId} {kk : IntKind} {m n p : Int} (hx : Opd E x (.r (.v (.i kk m)))) (hy : Opd E y (.r (.v (.i kk n)))) (hz : Opd E z (.r (.v (.i kk p)))) (hd : d < N) (hw : W ops E g)
    (k : Runs P ops N fin l ⟨(d, .r (.v (.i kk (mx (mx m n) p)))) :: E, O⟩ (⟨.r (.v (.i kk (mx (mx m n) p))), none, []⟩ :: rs)) :
    Runs P ops N fin (⟨some d, .call { callee := .builtin .max, args := #[x, y, z], argTypes := at_ }, ty, pos, after, g⟩ :: l) ⟨E, O⟩ rs :=
  rPure hd hw (fun w ok ρ ents' a hr _ _ => by
    have h1 := hr x (by simp [Op.operands, Call.operands]); have h2 := hr y (by simp [Op.operands, Call.operands]); have h3 := hr z (by simp [Op.operands, Call.operands]); rw [hx.eq] at h1; rw [hy.eq] at h2; rw [hz.eq] at h3
    exact ⟨.int kk (mx (mx m n) p), by simp [execOp, resolve, invoke, builtin, rep_int h1, rep_int h2, rep_int h3, Builtin.max_, max2_int], FRep.i _ _⟩) k
theorem rMn3 {x y z : Operand} {at_ : Array TypeId} {kk : IntKind} {m n p : Int} (hx : Opd E x (.r (.v (.i kk m)))) (hy : Opd E y (.r (.v (.i kk n)))) (hz : Opd E z (.r (.v (.i kk p)))) (hd : d < N) (hw : W ops E g)
    (k : Runs P ops N fin l ⟨(d, .r (.v (.i kk (mn (mn m n) p)))) :: E, O⟩ (⟨.r (.v (.i kk (mn (mn m n) p))), none, []⟩ :: rs)) :
    Runs P ops N fin (⟨some d, .call { callee := .builtin .min, args := #[x, y, z], argTypes := at_ }, ty, pos, after, g⟩ :: l) ⟨E, O⟩ rs :=
  rPure hd hw (fun w ok ρ ents' a hr _ _ => by
    have h1 := hr x (by simp [Op.operands, Call.operands]); have h2 := hr y (by simp [Op.operands, Call.operands]); have h3 := hr z (by simp [Op.operands, Call.operands]); rw [hx.eq] at h1; rw [hy.eq] at h2; rw [hz.eq] at h3
    exact ⟨.int kk (mn (mn m n) p), by simp [execOp, resolve, invoke, builtin, rep_int h1, rep_int h2, rep_int h3, Builtin.min_, min2_int], FRep.i _ _⟩) k

/-! ### 3. Addresses -/
theorem rFf {x : Operand} {t f off sz : Nat} {offs : List (Nat × Nat)} [Str P t offs] {cs : List FV} (hx : Opd E x (.fp cs)) (ho : offs[f]? = some (off, sz)) (hd : d < N) (hw : W ops E g)
    (k : Runs P ops N fin l ⟨(d, .fp (cs.drop off)) :: E, O⟩ (⟨.fp (cs.drop off), none, []⟩ :: rs)) : Runs P ops N fin (⟨some d, .fieldAddr t x f, ty, pos, after, g⟩ :: l) ⟨E, O⟩ rs :=
  rPure hd hw (fun w ok ρ ents' a hr _ _ => by
    have h1 := hr x (by simp [Op.operands]); rw [hx.eq] at h1
    obtain ⟨ad, hv, h2⟩ := fp_drop h1 off
    exact ⟨_, by simp [execOp, hv, run_fieldAt w t f off sz offs ho ad], h2⟩) k
theorem rFb {x : Operand} {t f off sz p o : Nat} {offs : List (Nat × Nat)} [Str P t offs] (hx : Opd E x (.box p o)) (ho : offs[f]? = some (off, sz)) (hd : d < N) (hw : W ops E g)
    (k : Runs P ops N fin l ⟨(d, .box p (o + off)) :: E, O⟩ (⟨.box p (o + off), none, []⟩ :: rs)) : Runs P ops N fin (⟨some d, .fieldAddr t x f, ty, pos, after, g⟩ :: l) ⟨E, O⟩ rs :=
  rPure hd hw (fun w ok ρ ents' a hr _ _ => by
    have h1 := hr x (by simp [Op.operands]); rw [hx.eq] at h1
    obtain ⟨ty', cs, gg, he, hp, hv⟩ := h1
    exact ⟨.pointer (some ((⟨gg, o, none⟩ : Addr).add off)), by simp [execOp, hv, run_fieldAt w t f off sz offs ho _], ⟨ty', cs, gg, he, hp, by rw [Addr.add_lit]⟩⟩) k
theorem rFo {x : Operand} {t f off sz p n o : Nat} {offs : List (Nat × Nat)} [Str P t offs] (hx : Opd E x (.op p n o)) (ho : offs[f]? = some (off, sz)) {e s : Nat} {xs : List (List FV)} (hp : O.getD p .gone = .row e s xs) (hn : n = xs.length) (hd : d < N) (hw : W ops E g)
    (k : Runs P ops N fin l ⟨(d, .op p n (o + off)) :: E, O⟩ (⟨.op p n (o + off), none, [p]⟩ :: rs)) : Runs P ops N fin (⟨some d, .fieldAddr t x f, ty, pos, after, g⟩ :: l) ⟨E, O⟩ rs :=
  rPure hd hw (fun w ok ρ ents' a hr ht _ => by
    have h1 := hr x (by simp [Op.operands]); rw [hx.eq] at h1
    have he := (ht p (by simp)).trans hp
    obtain ⟨ll, hl, hle, hv⟩ := h1
    have hll := hl
    rw [he] at hl
    have : some xs.length = some ll := hl
    cases this
    obtain ⟨gg, m, c, h3, h4⟩ := hv hn
    exact ⟨.pointer (some ((⟨gg, o, none⟩ : Addr).add off)), by simp [execOp, h4, run_fieldAt w t f off sz offs ho _], ⟨xs.length, hll, hle, fun _ => ⟨gg, m, c, h3, by rw [Addr.add_lit]⟩⟩⟩) k
/-- An element of an array. -/
theorem rIf {x y : Operand} {t n sz : Nat} [Arr P t n sz] {cs : List FV} {kk : IntKind} {i : Int} (hx : Opd E x (.fp cs)) (hy : Opd E y (.r (.v (.i kk i)))) (h0 : 0 ≤ i) (h1 : i < n) (hd : d < N) (hw : W ops E g)
    (k : Runs P ops N fin l ⟨(d, .fp (cs.drop (i.toNat * sz))) :: E, O⟩ (⟨.fp (cs.drop (i.toNat * sz)), none, []⟩ :: rs)) : Runs P ops N fin (⟨some d, .indexAddr t x y, ty, pos, after, g⟩ :: l) ⟨E, O⟩ rs :=
  rPure hd hw (fun w ok ρ ents' a hr _ _ => by
    have e1 := hr x (by simp [Op.operands]); have e2 := hr y (by simp [Op.operands]); rw [hx.eq] at e1; rw [hy.eq] at e2
    obtain ⟨ad, hv, h2⟩ := fp_drop e1 (i.toNat * sz)
    exact ⟨_, by simp [execOp, hv, rep_int e2, run_indexArr w t n sz ad kk i h0 h1], h2⟩) k
theorem rIb {x y : Operand} {t n sz p o : Nat} [Arr P t n sz] {kk : IntKind} {i : Int} (hx : Opd E x (.box p o)) (hy : Opd E y (.r (.v (.i kk i)))) (h0 : 0 ≤ i) (h1 : i < n) (hd : d < N) (hw : W ops E g)
    (k : Runs P ops N fin l ⟨(d, .box p (o + i.toNat * sz)) :: E, O⟩ (⟨.box p (o + i.toNat * sz), none, []⟩ :: rs)) : Runs P ops N fin (⟨some d, .indexAddr t x y, ty, pos, after, g⟩ :: l) ⟨E, O⟩ rs :=
  rPure hd hw (fun w ok ρ ents' a hr _ _ => by
    have e1 := hr x (by simp [Op.operands]); have e2 := hr y (by simp [Op.operands]); rw [hx.eq] at e1; rw [hy.eq] at e2
    obtain ⟨ty', cs, gg, he, hp, hv⟩ := e1
    exact ⟨.pointer (some ((⟨gg, o, none⟩ : Addr).add (i.toNat * sz))), by simp [execOp, hv, rep_int e2, run_indexArr w t n sz _ kk i h0 h1], ⟨ty', cs, gg, he, hp, by rw [Addr.add_lit]⟩⟩) k
theorem rIoa {x y : Operand} {t n sz p m o : Nat} [Arr P t n sz] {kk : IntKind} {i : Int} (hx : Opd E x (.op p m o)) (hy : Opd E y (.r (.v (.i kk i)))) (h0 : 0 ≤ i) (h1 : i < n) {e s : Nat} {xs : List (List FV)} (hp : O.getD p .gone = .row e s xs) (hn : m = xs.length) (hd : d < N) (hw : W ops E g)
    (k : Runs P ops N fin l ⟨(d, .op p m (o + i.toNat * sz)) :: E, O⟩ (⟨.op p m (o + i.toNat * sz), none, [p]⟩ :: rs)) : Runs P ops N fin (⟨some d, .indexAddr t x y, ty, pos, after, g⟩ :: l) ⟨E, O⟩ rs :=
  rPure hd hw (fun w ok ρ ents' a hr ht _ => by
    have e1 := hr x (by simp [Op.operands]); have e2 := hr y (by simp [Op.operands]); rw [hx.eq] at e1; rw [hy.eq] at e2
    have he := (ht p (by simp)).trans hp
    obtain ⟨ll, hl, hle, hv⟩ := e1
    have hll := hl
    rw [he] at hl
    have : some xs.length = some ll := hl
    cases this
    obtain ⟨gg, mm, c, h3, h4⟩ := hv hn
    exact ⟨.pointer (some ((⟨gg, o, none⟩ : Addr).add (i.toNat * sz))), by simp [execOp, h4, rep_int e2, run_indexArr w t n sz _ kk i h0 h1], ⟨xs.length, hll, hle, fun _ => ⟨gg, mm, c, h3, by rw [Addr.add_lit]⟩⟩⟩) k
/-- An element of a slice that nothing turns. -/
theorem sl_elem {w : World} {ok : Nat → Prop} {ents : Nat → Ent} {ρ : Nat → Value} {xs : List (List FV)} {v : Value} (h : FRep w ok (.sl xs) v) {i sz : Nat} {cs : List FV} (hi : xs[i]? = some cs) (hsz : cs.length = sz) :
    ∃ ad n c, v = .slice (some ad) n c ∧ n = xs.length ∧ SlotRep w ok ents ρ (.fp cs) (.pointer (some (ad.add (i * sz)))) := by
  cases h with
  | sl _ A n c sz' vs hn hc hm hs hA hv =>
    have hlt : i < xs.length := by
      rcases Nat.lt_or_ge i xs.length with h | h
      · exact h
      · rw [List.getElem?_eq_none h] at hi; cases hi
    obtain ⟨ad, rfl, hcell⟩ := hA (by omega)
    have hsz' : sz' = sz := by rw [← hs cs (List.mem_of_getElem? hi), hsz]
    subst hsz'
    refine ⟨ad, n, c, rfl, hn, ad.add (i * sz'), (List.range sz').map (vs i), rfl, ?_, fun j u hu => ?_⟩
    · refine .of_get (by simp [hsz]) (fun j x y hx hy => ?_)
      have hj : j < sz' := by
        rcases Nat.lt_or_ge j sz' with h | h
        · exact h
        · rw [List.getElem?_eq_none (by omega)] at hx; cases hx
      simp [hj] at hy
      subst hy
      exact hv i j cs x hi hx
    · have hj : j < sz' := by
        rcases Nat.lt_or_ge j sz' with h | h
        · exact h
        · simp [Nat.not_lt.2 h] at hu
      simp [hj] at hu
      subst hu
      rw [add_block, add_add]
      exact hcell i j (by omega) hj
theorem rIs {x y : Operand} {t e sz b : Nat} [Sli P t e sz b] {s : Slot} {xs : List (List FV)} {cs : List FV} {kk : IntKind} {i : Int} {touch : List Nat} (hx : Opd E x s) (hs : ∀ ents', (∀ p ∈ touch, ents' p = O.getD p .gone) → IsF ents' s (.sl xs)) (hy : Opd E y (.r (.v (.i kk i)))) (h0 : 0 ≤ i) (hc : xs[i.toNat]? = some cs) (hsz : cs.length = sz) (hd : d < N) (hw : W ops E g)
    (k : Runs P ops N fin l ⟨(d, .fp cs) :: E, O⟩ (⟨.fp cs, none, touch⟩ :: rs)) : Runs P ops N fin (⟨some d, .indexAddr t x y, ty, pos, after, g⟩ :: l) ⟨E, O⟩ rs :=
  rPure hd hw (fun w ok ρ ents' a hr ht hE => by
    have e1 := hr x (by simp [Op.operands]); have e2 := hr y (by simp [Op.operands]); rw [hx.eq] at e1; rw [hy.eq] at e2
    obtain ⟨ad, n, c, hv, hn, h2⟩ := sl_elem (ents := ents') (ρ := ρ) ((hs ents' ht).rep e1 hE) hc hsz
    have hlt : i < n := by
      have : i.toNat < xs.length := by
        rcases Nat.lt_or_ge i.toNat xs.length with h | h
        · exact h
        · rw [List.getElem?_eq_none h] at hc; cases hc
      omega
    exact ⟨_, by simp [execOp, hv, rep_int e2, run_indexSli w t e sz b ad n c kk i h0 hlt], h2⟩) k
/-- An element of a row of the call's own. -/
theorem rIo {x y : Operand} {t e sz b : Nat} [Sli P t e sz b] {p n : Nat} {xs : List (List FV)} {kk : IntKind} {i : Int} {e' : Nat} (hx : Opd E x (.own p n)) (hp : O.getD p .gone = .row e' sz xs) (hn : n = xs.length) (hy : Opd E y (.r (.v (.i kk i)))) (h0 : 0 ≤ i) (hi : i < xs.length) (hd : d < N) (hw : W ops E g)
    (k : Runs P ops N fin l ⟨(d, .op p n (i.toNat * sz)) :: E, O⟩ (⟨.op p n (i.toNat * sz), none, [p]⟩ :: rs)) : Runs P ops N fin (⟨some d, .indexAddr t x y, ty, pos, after, g⟩ :: l) ⟨E, O⟩ rs :=
  rPure hd hw (fun w ok ρ ents' a hr ht hE => by
    have e1 := hr x (by simp [Op.operands]); have e2 := hr y (by simp [Op.operands]); rw [hx.eq] at e1; rw [hy.eq] at e2
    have he := (ht p (by simp)).trans hp
    obtain ⟨ll, hl, hle, hv⟩ := e1
    have hll := hl
    rw [he] at hl
    have : some xs.length = some ll := hl
    cases this
    have hv := hv hn
    have hE := hE p
    rw [he] at hE
    obtain ⟨vs, ho, _⟩ := hE
    rcases ho.2 with ⟨_, h0'⟩ | ⟨gg, cap, cur, h3, _⟩
    · omega
    · rw [h3] at hv
      exact ⟨.pointer (some ((⟨gg, 0, none⟩ : Addr).add (i.toNat * sz))), by simp [execOp, hv, rep_int e2, run_indexSli w t e sz b _ _ _ kk i h0 (show i < (xs.length : Int) by omega)], ⟨xs.length, hll, hle, fun _ => ⟨gg, xs.length, cap, h3, by rw [Addr.add_lit, Nat.zero_add]⟩⟩⟩) k
end
end Go.Proofs.Ytnhljpbpfaablaa.VS
