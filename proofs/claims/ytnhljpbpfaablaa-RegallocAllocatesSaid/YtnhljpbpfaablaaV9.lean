/- Value semantics, part 9: functions and calls; what may be forgotten or frozen. Conditions: none. -/
import Derived.Test.YtnhljpbpfaablaaV8
set_option linter.unusedSimpArgs false
set_option linter.unusedVariables false
namespace Go.Proofs.Ytnhljpbpfaablaa.VS
open Go Go.RowKit

/-! ### 1. Functions -/
/-- What a function hands back. -/
inductive Out where
  | none
  | one (x : RV)
  | many (xs : List RV)
def Out.rep (w : World) (ok : Nat → Prop) : Out → Value → Prop
  | .none, v => v = .tuple #[]
  | .one x, v => x.rep w ok v
  | .many xs, v => ∃ vs, v = .tuple vs.toArray ∧ All2 (RV.rep w ok) xs vs
def Out.slot : Out → Slot
  | .none => .tup []
  | .one x => .r x
  | .many xs => .tup xs
/-- Called with these data the function hands back this, and what was in memory is as it was. -/
def Fn (P : Program) (f : FuncId) (args : List RV) (out : Out) : Prop :=
  ∀ (w : World) (ok : Nat → Prop) (vs : List Value), All2 (RV.rep w ok) args vs →
    Calls P f vs.toArray w fun e w' => ∃ v, e = .returned v ∧ Below w.heap.size w w' ∧ out.rep w' (fun k => k < w.heap.size → ok k) v

/-- Numbers of elements are as Go bounds them. -/
inductive Bd : FV → Prop
  | i (k : IntKind) (n : Int) : Bd (.i k n)
  | b (x : Bool) : Bd (.b x)
  | s (x : ByteArray) : Bd (.s x)
  | fn (f : FuncId) : Bd (.fn f)
  | zz : Bd .zz
  | nn (xs : List (List FV)) : Bd (.nn xs)
  | fl (xs : List (List FV)) : Bd (.fl xs)
  | sl (xs : List (List FV)) (h : xs.length ≤ 9223372036854775807) (hx : ∀ (j i : Nat) (x : List FV) (y : FV), xs[j]? = some x → x[i]? = some y → Bd y) : Bd (.sl xs)
theorem FRep.bd {w : World} {ok : Nat → Prop} {x : FV} {v : Value} (h : FRep w ok x v) : Bd x := by
  induction h with
  | i => exact .i _ _
  | b => exact .b _
  | s => exact .s _
  | fn => exact .fn _
  | zz => exact .zz
  | nn xs a n c h ih => exact .nn _
  | fl xs A n h ih => exact .fl _
  | sl xs A n c sz vs hn hc hm hsz hA hv hz ih => exact .sl xs (by rw [← hn]; simpa [maxLen] using hm) ih

/-! ### 2. What is handed back -/
theorem RelR.final {N : Nat} {w0 : World} {ok0 : Nat → Prop} {ρ : Nat → Value} {env : Nat → Slot} {ents : Nat → Ent} {a : Act} {w : World} (h : RelR N w0 ok0 ρ env ents a w) : Keeps w w (okS w0 ok0 ents ρ) (fun k => k < w0.heap.size → ok0 k) :=
  fun k hk _ => ⟨rfl, hk.1⟩
/-- A slot of one cell as data at the end of a call: rows of the call's own, too. -/
inductive IsE (ents : Nat → Ent) : Slot → FV → Prop
  | f {s : Slot} {x : FV} (h : IsF ents s x) : IsE ents s x
  | row {p n e sz : Nat} {xs : List (List FV)} (h : ents p = .row e sz xs) (hn : n = xs.length) : IsE ents (.own p n) (.sl xs)
theorem IsE.rep {N : Nat} {w0 : World} {ok0 : Nat → Prop} {ρ : Nat → Value} {env : Nat → Slot} {ents : Nat → Ent} {a : Act} {w : World} (hR : RelR N w0 ok0 ρ env ents a w) {s : Slot} {x : FV} {v : Value} (hf : IsE ents s x) (h : SlotRep w (okS w0 ok0 ents ρ) ents ρ s v) : FRep w (fun k => k < w0.heap.size → ok0 k) x v := by
  cases hf with
  | f hf => exact FRep.mono hR.final (hf.rep h hR.ent)
  | row he hn =>
    rename_i p n e sz xs
    obtain ⟨l, hl, _, hv⟩ := h
    have := hR.ent p
    rw [he] at this hl
    have hl : some xs.length = some l := hl
    cases hl
    rw [hv hn]
    obtain ⟨vs, ho, hA, hs, h0⟩ := this
    refine rep_of_row ho (hA.imp fun _ _ h => h.imp fun _ _ => FRep.mono hR.final) hs h0 (fun g hg hlt => ?_) (row_le ho)
    have := (ownsRow_blk ho g hg).1
    omega
def rdv (tmps : Array Value) : ResultVar → Sem Value
  | .tmp t => Pure.pure (tmps.getD t Go.undef)
  | .cell a t => do loadVar t (← asAddr (tmps.getD a Go.undef))
theorem results_eq (fn : Func) (tmps : Array Value) : results fn tmps = (do let vs ← fn.results.mapM (rdv tmps); Pure.pure (if h : vs.size = 1 then vs[0] else .tuple vs)) := rfl
/-- What a result variable holds. -/
inductive ResIs (P : Program) (S : St) : ResultVar → RV → Prop
  | v {t : Nat} {s : Slot} {x : FV} (hs : Look S.env t s) (h : IsE S.o s x) : ResIs P S (.tmp t) (.v x)
  | a {t : Nat} {cs : List FV} (hs : Look S.env t (.r (.agg cs))) : ResIs P S (.tmp t) (.agg cs)
  | c {t ty n p ty' : Nat} [Agg P ty n] {cs : List Slot} {fs : List FV} (hs : Look S.env t (.box p 0)) (hp : S.o p = .box ty' cs) (hn : cs.length = n) (h : All2 (IsE S.o) cs fs) : ResIs P S (.cell t ty) (.agg fs)
theorem ResIs.run {P : Program} {N : Nat} {w0 : World} {ok0 : Nat → Prop} {S : St} {a : Act} {w : World} {ρ : Nat → Value} (hR : RelR N w0 ok0 ρ S.e S.o a w) {r : ResultVar} {x : RV} (h : ResIs P S r x) :
    ∃ v, (rdv a.tmps r).run P w = .ok v w ∧ x.rep w (fun k => k < w0.heap.size → ok0 k) v := by
  cases h with
  | v hs h =>
    rename_i t s x
    have h1 := hR.slot t
    rw [show S.e t = s from hs.eq] at h1
    exact ⟨_, rfl, h.rep hR h1⟩
  | a hs =>
    rename_i t cs
    have h1 := hR.slot t
    rw [show S.e t = _ from hs.eq] at h1
    exact ⟨_, rfl, RV.rep.mono hR.final h1⟩
  | c hs hp hn h =>
    rename_i t ty n p ty' hagg cs fs
    have h1 := hR.slot t
    rw [show S.e t = _ from hs.eq] at h1
    obtain ⟨g, vs, hv, _, _, hA, _, hc⟩ := box_at h1 hp (hR.ent p)
    have hl := run_loadA (P := P) w ty n ⟨g, 0, none⟩ vs (by rw [← hA.length, hn]) (fun j u hu => by rw [add_lit, hc]; exact hu)
    refine ⟨.agg vs.toArray, ?_, vs, rfl, ?_⟩
    · simp only [rdv, hv, asAddr, Sem.run_bind, Sem.run_pure, Result.andThen_ok]
      simpa [Instr.loadAt, Instr.sureAddr] using hl
    · refine .of_get (by rw [← hA.length, h.length]) (fun i y u hy hu => ?_)
      obtain ⟨s, h2, h3⟩ := h.get' i y hy
      obtain ⟨u', h4, h5⟩ := hA.get i s h2
      rw [hu] at h4
      cases h4
      exact h3.rep hR h5
def outOf : List RV → Out
  | [] => .none
  | [x] => .one x
  | xs => .many xs
theorem results_run {P : Program} {N : Nat} {w0 : World} {ok0 : Nat → Prop} {S : St} {a : Act} {w : World} {ρ : Nat → Value} (hR : RelR N w0 ok0 ρ S.e S.o a w) {fn : Func} {xs : List RV} (h : All2 (ResIs P S) fn.results.toList xs) :
    ∃ v, (results fn a.tmps).run P w = .ok v w ∧ (outOf xs).rep w (fun k => k < w0.heap.size → ok0 k) v := by
  have key : ∀ (l : List ResultVar) (xs : List RV), All2 (ResIs P S) l xs → ∃ vs : List Value, (l.mapM (rdv a.tmps)).run P w = .ok vs w ∧ All2 (RV.rep w (fun k => k < w0.heap.size → ok0 k)) xs vs := by
    intro l xs h
    induction h with
    | nil => exact ⟨[], by simp, .nil⟩
    | cons h _ ih =>
      obtain ⟨v, h1, h2⟩ := h.run hR
      obtain ⟨vs, h3, h4⟩ := ih
      exact ⟨v :: vs, by simp [List.mapM_cons, h1, h3], .cons h2 h4⟩
  obtain ⟨vs, h1, h2⟩ := key _ _ h
  have hrun : (results fn a.tmps).run P w = .ok (if h : vs.toArray.size = 1 then vs.toArray[0] else .tuple vs.toArray) w := by
    rw [results_eq, Array.mapM_eq_mapM_toList]
    simp only [Sem.run_bind, bind_pure_comp, Sem.run_map]
    rw [h1]
    rfl
  refine ⟨_, hrun, ?_⟩
  cases h2 with
  | nil => simp [outOf, Out.rep]
  | cons a b =>
    cases b with
    | nil => simpa [outOf, Out.rep] using a
    | cons c d => exact ⟨_, by simp, .cons a (.cons c d)⟩
def argEnv : Nat → List RV → List (Nat × Slot)
  | _, [] => []
  | k, x :: l => (k, .r x) :: argEnv (k + 1) l
theorem look_argEnv : ∀ (l : List RV) (k t : Nat), look (argEnv k l) t = if k ≤ t then (match l[t - k]? with | some x => .r x | none => .undef) else .undef
  | [], k, t => by simp [argEnv, look]
  | x :: l, k, t => by
    simp only [argEnv, look]
    by_cases h : t = k
    · subst h; simp
    · have hb : Nat.beq k t = false := by rw [← Bool.not_eq_true, Nat.beq_eq]; omega
      rw [hb, cond_false, look_argEnv l (k + 1) t]
      by_cases hk : k + 1 ≤ t
      · rw [if_pos hk, if_pos (by omega), show t - k = (t - (k + 1)) + 1 by omega, List.getElem?_cons_succ]
      · rw [if_neg hk, if_neg (by omega)]
/-- A function by its body. -/
theorem fn_of {P : Program} {f : FuncId} {fn : Func} {c : Code} {args : List RV} {out : Out} (hf : P.funcs[f]? = some fn) (hb : fn.body = some c) (hn : args.length ≤ fn.ntmps)
    (h : (∀ x ∈ args, ∀ y ∈ x.flat, Bd y) → AWP P fn.ntmps c (fun e S => (e = .normal ∨ e = .ret) ∧ ∃ xs, All2 (ResIs P S) fn.results.toList xs ∧ outOf xs = out) ⟨argEnv 0 args, []⟩) : Fn P f args out := by
  intro w ok vs hargs
  have hbd : ∀ x ∈ args, ∀ y ∈ x.flat, Bd y := by
    intro x hx y hy
    obtain ⟨i, hi⟩ := List.getElem?_of_mem hx
    obtain ⟨v, _, hv⟩ := hargs.get i x hi
    obtain ⟨j, hj⟩ := List.getElem?_of_mem hy
    obtain ⟨u, _, hu⟩ := hv.flat.get j y hj
    exact hu.bd
  have hlen := hargs.length
  refine calls_of_wp hf hb (wp_mono (h hbd w ok _ w ⟨fun _ => .bool true, ?_⟩) fun e a' w' hq => ?_)
  · refine ⟨by simp; omega, rfl, Below.refl _ _, fun p q g hp => hp.elim, fun p => trivial, fun t => ?_⟩
    show SlotRep _ _ _ _ (look (argEnv 0 args) t) _
    rw [look_argEnv, if_pos (Nat.zero_le _), Nat.sub_zero]
    cases hx : args[t]? with
    | none => trivial
    | some x =>
      obtain ⟨v, hv, hr⟩ := hargs.get t x hx
      have : (vs.toArray ++ Array.replicate (fn.ntmps - vs.toArray.size) Go.undef).getD t Go.undef = v := by
        have hlt : t < vs.length := by
          rcases Nat.lt_or_ge t vs.length with h | h
          · exact h
          · rw [List.getElem?_eq_none h] at hv; cases hv
        rw [Array.getD_eq_getD_getElem?, Array.getElem?_append_left (by simpa using hlt)]
        simp [hv]
      rw [this]
      exact RV.rep.mono (fun k hk hlt => ⟨rfl, fun _ => hk, fun p hp => hp.elim⟩) hr
  · obtain ⟨S, ⟨he, xs, hres, hout⟩, ρ, hR⟩ := hq
    obtain ⟨v, hrun, hrep⟩ := results_run hR hres
    rw [hout] at hrep
    rcases he with rfl | rfl
    · exact ⟨hR.defers, v, hrun, v, rfl, hR.below, hrep⟩
    · exact ⟨hR.defers, v, hrun, v, rfl, hR.below, hrep⟩

/-! ### 3. Calls -/
def fnB (P : Program) (f : FuncId) : Bool := match P.funcs[f]? with
  | some fn => fn.body.isSome && !(fn.name == "runtime.NumGoroutine")
  | none => false
class IsFn (P : Program) (f : FuncId) : Prop where
  h : fnB P f = true
theorem run_enter {P : Program} {w : World} (f : FuncId) [IsFn P f] (args : Array Value) : (callFunc f args).run P w = .ok (.enter f args) w := by
  have h := IsFn.h (P := P) (f := f)
  unfold fnB at h
  split at h
  · rename_i fn hf
    simp only [Bool.and_eq_true, Bool.not_eq_true'] at h
    have hn : fn.name ≠ "runtime.NumGoroutine" := by simpa using h.2
    have hb : ¬ fn.body = none := fun e => by rw [e] at h; cases h.1
    simp [callFunc, hf, hn, hb]
  · cases h
inductive Args (E : List (Nat × Slot)) (O : List Ent) (touch : List Nat) : List Operand → List RV → Prop
  | nil : Args E O touch [] []
  | cons {x : Operand} {s : Slot} {y : RV} {l : List Operand} {r : List RV} (hx : Opd E x s) (hs : ∀ ents', (∀ p ∈ touch, ents' p = O.getD p .gone) → IsD ents' s y) (h : Args E O touch l r) : Args E O touch (x :: l) (y :: r)
theorem Args.rep {E : List (Nat × Slot)} {O : List Ent} {touch : List Nat} {l : List Operand} {r : List RV} (h : Args E O touch l r) {w : World} {ok : Nat → Prop} {ents' : Nat → Ent} {ρ : Nat → Value} {a : Act} {base : Nat}
    (hr : ∀ x ∈ l, SlotRep w ok ents' ρ (ev (look E) x) (a.eval x)) (ht : ∀ p ∈ touch, ents' p = O.getD p .gone) (hE : ∀ p, EntRep w ok ents' ρ base p (ents' p)) : All2 (RV.rep w ok) r (l.map a.eval) := by
  induction h with
  | nil => exact .nil
  | cons hx hs _ ih =>
    refine .cons ?_ (ih (fun p hp => hr p (.tail _ hp)))
    have h1 := hr _ (.head _)
    rw [hx.eq] at h1
    exact (hs ents' ht).rep h1 hE
theorem Out.rep.slot {w : World} {ok : Nat → Prop} {ents : Nat → Ent} {ρ : Nat → Value} {out : Out} {v : Value} (h : out.rep w ok v) : SlotRep w ok ents ρ out.slot v := by
  cases out with
  | none => have h : v = .tuple #[] := h; exact ⟨[], h, .nil⟩
  | one x => exact h
  | many xs => exact h
theorem Out.rep.mono {w w' : World} {ok ok' : Nat → Prop} (hk : Keeps w w' ok ok') {out : Out} {v : Value} (h : out.rep w ok v) : out.rep w' ok' v := by
  cases out with
  | none => exact h
  | one x => exact RV.rep.mono hk h
  | many xs => obtain ⟨vs, e, h⟩ := h; exact ⟨vs, e, h.imp fun _ _ => RV.rep.mono hk⟩
section
variable {P : Program} {ops : Array Oper} {N : Nat} {fin : St → List Rec → Prop} {l : List Oper} {E : List (Nat × Slot)} {O O' : List Ent} {rs : List Rec} {ty : TypeId} {pos : String} {after : Array Edge} {g : Option (Nat × Bool)}
/-- A call: what it hands back is data; nothing of the caller's turns. -/
theorem rCall {dst : Option Nat} {c : Operand} {args : Array Operand} {at_ : Array TypeId} {f : FuncId} [IsFn P f] {xs : List RV} {out : Out} {touch : List Nat} (hc : Opd E c (.r (.v (.fn f)))) (ha : Args E O touch args.toList xs) (hF : Fn P f xs out)
    (hd : ∀ d, dst = some d → d < N) (hw : W ops E g) (k : Runs P ops N fin l ⟨putE E dst out.slot, O⟩ (⟨out.slot, none, touch⟩ :: rs)) :
    Runs P ops N fin (⟨dst, .call { callee := .value c, args := args, argTypes := at_ }, ty, pos, after, g⟩ :: l) ⟨E, O⟩ rs := by
  refine Runs.op (o := ⟨dst, .call { callee := .value c, args := args, argTypes := at_ }, ty, pos, after, g⟩) (r := ⟨out.slot, none, touch⟩) ?_ hw.wants trivial k
  intro w0 ok0 ρ env' ents' a w hev ht hR K Q hK
  have hr : ∀ x ∈ (Op.call { callee := .value c, args := args, argTypes := at_ }).operands, SlotRep w (okS w0 ok0 ents' ρ) ents' ρ (ev (look E) x) (a.eval x) := fun x hx => by
    rw [show ev (look E) x = _ from (hev x hx).symm]; exact hR.ev x
  have h1 := hr c (by simp [Op.operands, Call.operands]); rw [hc.eq] at h1
  have hv : a.eval c = .func (.func f) #[] #[] := by
    generalize a.eval c = v at h1
    have h1 : FRep _ _ (.fn f) v := h1
    cases h1
    rfl
  have hrep := ha.rep (a := a) (fun x hx => hr x (by simp only [Op.operands, Call.operands]; exact Array.mem_append.2 (.inr (Array.mem_toList_iff.1 hx)))) ht hR.ent
  unfold Oper.wp
  have hrun : (execOp a.eval ⟨dst, .call { callee := .value c, args := args, argTypes := at_ }, ty, pos, after, g⟩).run P w = .ok (.enter f (args.map a.eval)) w := by
    simp [execOp, resolve, hv, Deferred.ofValue, invoke, run_enter]
  rw [hrun]
  have hargs : (args.map a.eval) = (args.toList.map a.eval).toArray := by
    rw [← Array.toList_map, Array.toArray_toList]
  rw [hargs]
  refine (hF w _ _ hrep).mono fun e w' h => ?_
  obtain ⟨v, rfl, hb, ho⟩ := h
  have hR' := hR.later hb
  refine hK _ _ ⟨ρ, hR'.put dst hd (Out.rep.slot (Out.rep.mono (fun k hk hlt => ⟨rfl, ?_⟩) ho))⟩
  refine ⟨fun hk0 => (hk (Nat.lt_of_lt_of_le hk0 hR.below.size)).1 hk0, fun p hp hg => ?_⟩
  by_cases hkl : k < w.heap.size
  · exact (hk hkl).2 p hp hg
  · exact hkl (hR.blk_lt hp hg).2

/-! ### 4. Less is known -/
theorem awp_bd {c : Code} {Q : Exit → St → Prop} {S : St} {t : Nat} {x : FV} (h : Look S.env t (.r (.v x))) (k : Bd x → AWP P N c Q S) : AWP P N c Q S := by
  intro w0 ok0 a w hr
  obtain ⟨ρ, hR⟩ := hr
  have h1 := hR.slot t
  rw [show S.e t = _ from h.eq] at h1
  exact k (FRep.bd h1) w0 ok0 a w ⟨ρ, hR⟩
theorem awp_len {c : Code} {Q : Exit → St → Prop} {S : St} {p e sz : Nat} {xs : List (List FV)} (h : S.o p = .row e sz xs) (k : xs.length ≤ 9223372036854775807 → (∀ x ∈ xs, x.length = sz) → AWP P N c Q S) : AWP P N c Q S := by
  intro w0 ok0 a w hr
  obtain ⟨ρ, hR⟩ := hr
  have h1 := hR.ent p
  rw [h] at h1
  obtain ⟨vs, ho, _, hs, _⟩ := h1
  exact k (by simpa [maxLen] using row_le ho) hs w0 ok0 a w ⟨ρ, hR⟩
/-- A row is turned no more. -/
theorem weak_freeze {S : St} {p e sz : Nat} {xs : List (List FV)} {O' : List Ent} (h : S.o p = .row e sz xs) (hO : SetAt S.ents p (.fro xs) O') : Weak N S ⟨S.env, O'⟩ := by
  intro w0 ok0 a w hr
  obtain ⟨ρ, hR⟩ := hr
  have hS : (⟨S.env, O'⟩ : St).o = upd S.o p (.fro xs) := by
    have := step_o S none ⟨.undef, some (p, .fro xs), []⟩ hO.eq.1
    rw [← hO.eq.2]
    exact this
  refine ⟨ρ, ?_⟩
  show RelR N w0 ok0 ρ S.e (⟨S.env, O'⟩ : St).o a w
  rw [hS]
  refine hR.move (ρ' := ρ) p hR.below (fun _ _ _ => rfl) (fun q hq => ⟨upd_ne _ _ _ _ hq, rfl⟩) ⟨fun ty cs hx => (by rw [h] at hx; cases hx), fun l hl => ?_⟩ (fun g h1 _ => (by rw [upd_same] at h1; exact h1.elim)) (fun hcc hk => ?_)
  · rw [h] at hl
    have hl : some xs.length = some l := hl
    cases hl
    exact ⟨xs.length, by rw [upd_same]; rfl, Nat.le_refl _, fun _ => rfl⟩
  · rw [upd_same]
    have h1 := hR.ent p
    rw [h] at h1
    obtain ⟨vs, ho, hA, hs, h0⟩ := h1
    refine rep_of_row ho (hA.imp fun _ _ h => h.imp fun _ _ => FRep.mono hk) hs h0 (fun g hg => ⟨fun hlt => ?_, fun q hq hgq => ?_⟩) (row_le ho)
    · have := (ownsRow_blk ho g hg).1; omega
    · by_cases e : q = p
      · subst e; rw [upd_same] at hq; exact hq
      · rw [upd_ne _ _ _ _ e] at hq
        exact e (hR.inj q p g hq (by rw [h]; trivial) hgq hg)
/-- Temporaries are forgotten. -/
theorem weak_env {S : St} {E' : List (Nat × Slot)} (h : ∀ t, look E' t = .undef ∨ look E' t = look S.env t) : Weak N S ⟨E', S.ents⟩ := by
  intro w0 ok0 a w hr
  obtain ⟨ρ, hR⟩ := hr
  refine ⟨ρ, hR.size, hR.defers, hR.below, hR.inj, hR.ent, fun t => ?_⟩
  show SlotRep _ _ _ _ (look E' t) _
  rcases h t with h | h
  · rw [h]; trivial
  · rw [h]; exact hR.slot t
inductive Kept (E : List (Nat × Slot)) : List (Nat × Slot) → Prop
  | nil : Kept E []
  | cons {t : Nat} {s : Slot} {l : List (Nat × Slot)} (h : Look E t s) (k : Kept E l) : Kept E ((t, s) :: l)
theorem Kept.ok {E E' : List (Nat × Slot)} (h : Kept E E') : ∀ t, look E' t = .undef ∨ look E' t = look E t := by
  induction h with
  | nil => intro t; exact .inl rfl
  | cons h _ ih =>
    intro t
    rename_i t' s l _
    simp only [look]
    by_cases e : t' = t
    · subst e; right; simp [h.eq]
    · have hb : Nat.beq t' t = false := by rw [← Bool.not_eq_true, Nat.beq_eq]; exact e
      rw [hb, cond_false]; exact ih t
theorem weak_keep {S : St} {E' : List (Nat × Slot)} (h : Kept S.env E') : Weak N S ⟨E', S.ents⟩ := weak_env h.ok
/-- A slot leads to none of the entries from n on. -/
def Slot.under (n : Nat) : Slot → Bool
  | .box p _ => decide (p < n)
  | .own p _ => decide (p < n)
  | .op p _ _ => decide (p < n)
  | .opb p _ _ _ => decide (p < n)
  | .clo _ ps => ps.all fun p => decide (p < n)
  | .bsl p _ _ => decide (p < n)
  | _ => true
def Ent.under (n : Nat) : Ent → Bool
  | .box _ cs => cs.all (Slot.under n)
  | .sav K => K.all fun x => x.1.under n
  | _ => true
theorem look_mem {E : List (Nat × Slot)} {t : Nat} : look E t = .undef ∨ ∃ x ∈ E, x.2 = look E t := by
  induction E with
  | nil => exact .inl rfl
  | cons x E ih =>
    obtain ⟨k, s⟩ := x
    simp only [look]
    cases hb : Nat.beq k t with
    | true => exact .inr ⟨(k, s), .head _, rfl⟩
    | false =>
      rcases ih with h | ⟨y, hy, h⟩
      · exact .inl h
      · exact .inr ⟨y, .tail _ hy, h⟩
/-- What was made last is forgotten. -/
theorem weak_take {S : St} (n : Nat) (h1 : S.env.all (fun x => x.2.under n) = true) (h2 : (S.ents.take n).all (Ent.under n) = true) : Weak N S ⟨S.env, S.ents.take n⟩ := by
  intro w0 ok0 a w hr
  obtain ⟨ρ, hR⟩ := hr
  have ho : ∀ p, (⟨S.env, S.ents.take n⟩ : St).o p = if p < n then S.o p else .gone := by
    intro p
    show (S.ents.take n).getD p .gone = if p < n then S.ents.getD p .gone else .gone
    simp only [List.getD_eq_getElem?_getD, List.getElem?_take]
    split <;> rfl
  have hlive : ∀ p, ((⟨S.env, S.ents.take n⟩ : St).o p).live → (S.o p).live := fun p h => by
    rw [ho] at h
    split at h
    · exact h
    · exact h.elim
  have hk : Keeps w w (okS w0 ok0 S.o ρ) (okS w0 ok0 (⟨S.env, S.ents.take n⟩ : St).o ρ) := fun k hk _ => ⟨rfl, hk.1, fun p hp => hk.2 p (hlive p hp)⟩
  have hslot : ∀ {s : Slot} {v : Value}, s.under n = true → SlotRep w (okS w0 ok0 S.o ρ) S.o ρ s v → SlotRep w (okS w0 ok0 (⟨S.env, S.ents.take n⟩ : St).o ρ) (⟨S.env, S.ents.take n⟩ : St).o ρ s v := by
    intro s v hu h
    have hu0 := hu
    cases s with
    | undef => trivial
    | nil => exact h
    | r x => exact RV.rep.mono hk h
    | tup xs => obtain ⟨vs, e, h⟩ := h; exact ⟨vs, e, h.imp fun _ _ => RV.rep.mono hk⟩
    | fp cs => obtain ⟨ad, vs, e, h, hc⟩ := h; exact ⟨ad, vs, e, h.imp fun _ _ => FRep.mono hk, fun i u hu => ⟨⟨(hc i u hu).1.1, fun p hp => (hc i u hu).1.2 p (hlive p hp)⟩, (hc i u hu).2⟩⟩
    | box p off =>
      have hp : p < n := of_decide_eq_true hu
      obtain ⟨ty, cs, g, h3, h4⟩ := h
      exact ⟨ty, cs, g, by rw [ho, if_pos hp]; exact h3, h4⟩
    | own p m =>
      have hp : p < n := of_decide_eq_true hu
      obtain ⟨l, h3, h4⟩ := h
      exact ⟨l, by rw [ho, if_pos hp]; exact h3, h4⟩
    | op p m off =>
      have hp : p < n := of_decide_eq_true hu
      obtain ⟨l, h3, h4⟩ := h
      exact ⟨l, by rw [ho, if_pos hp]; exact h3, h4⟩
    | opb p m off b =>
      have hp : p < n := of_decide_eq_true hu
      obtain ⟨l, h3, h4⟩ := h
      exact ⟨l, by rw [ho, if_pos hp]; exact h3, h4⟩
    | clo f ps =>
      obtain ⟨us, e, h⟩ := h
      refine ⟨us, e, .of_get h.length (fun i p u hp hu => ?_)⟩
      obtain ⟨u', hu', hb⟩ := h.get i p hp
      rw [hu] at hu'
      cases hu'
      obtain ⟨ty, cs, g, h3, h4⟩ := hb
      have hpn : p < n := of_decide_eq_true (List.all_eq_true.1 hu0 p (List.mem_of_getElem? hp))
      exact ⟨ty, cs, g, by rw [ho, if_pos hpn]; exact h3, h4⟩
    | bsl p off m =>
      have hp : p < n := of_decide_eq_true hu
      obtain ⟨ty, cs, g, c, h3, h4⟩ := h
      exact ⟨ty, cs, g, c, by rw [ho, if_pos hp]; exact h3, h4⟩
  refine ⟨ρ, hR.size, hR.defers, hR.below, fun p q g hp hq => hR.inj p q g (hlive p hp) (hlive q hq), fun p => ?_, fun t => ?_⟩
  · rw [ho]
    by_cases hp : p < n
    · rw [if_pos hp]
      have hE := hR.ent p
      have hu : (S.o p).under n = true := by
        cases hx : (S.ents.take n)[p]? with
        | none =>
          have : S.o p = .gone := by
            show S.ents.getD p .gone = .gone
            rw [List.getElem?_take, if_pos hp] at hx
            rw [List.getD_eq_getElem?_getD, hx]; rfl
          rw [this]; rfl
        | some e =>
          have h3 := List.all_eq_true.1 h2 e (List.mem_of_getElem? hx)
          have : S.o p = e := by
            show S.ents.getD p .gone = e
            rw [List.getElem?_take, if_pos hp] at hx
            rw [List.getD_eq_getElem?_getD, hx]; rfl
          rw [this]; exact h3
      cases hx : S.o p with
      | gone => trivial
      | fro xs => rw [hx] at hE; exact FRep.mono hk hE
      | sav K => rw [hx] at hE hu; exact fun x hxK => hslot (List.all_eq_true.1 hu x hxK) (hE x hxK)
      | row e sz xs => rw [hx] at hE; obtain ⟨vs, h3, h4, h5⟩ := hE; exact ⟨vs, h3, h4.imp fun _ _ h => h.imp fun _ _ => FRep.mono hk, h5⟩
      | box ty cs =>
        rw [hx] at hE hu
        obtain ⟨g, vs, h3, h4, h5, h6, h7⟩ := hE
        refine ⟨g, vs, h3, h4, h5, .of_get h6.length (fun i s v hs hv => ?_), h7⟩
        obtain ⟨v', hv', hr⟩ := h6.get i s hs
        rw [hv] at hv'
        cases hv'
        exact hslot (List.all_eq_true.1 hu s (List.mem_of_getElem? hs)) hr
    · rw [if_neg hp]; trivial
  · rcases look_mem (E := S.env) (t := t) with h | ⟨x, hx, h⟩
    · show SlotRep _ _ _ _ (look S.env t) _
      rw [h]; trivial
    · refine hslot ?_ (hR.slot t)
      show (look S.env t).under n = true
      rw [← h]
      exact List.all_eq_true.1 h1 x hx
/-- A nil slice that is to be appended to: a row of the call's own, still empty. -/
theorem weak_adopt {S : St} {t : Nat} (e sz : Nat) (h0 : 0 < sz) {O' : List Ent} {p : Nat} (h : Look S.env t .nil) (hp : S.o p = .gone) (hO : SetAt S.ents p (.row e sz []) O') : Weak N S ⟨(t, .own p 0) :: S.env, O'⟩ := by
  intro w0 ok0 a w hr
  obtain ⟨ρ, hR⟩ := hr
  have hS : (⟨S.env, O'⟩ : St).o = upd S.o p (.row e sz []) := by
    have := step_o S none ⟨.undef, some (p, .row e sz []), []⟩ hO.eq.1
    rw [← hO.eq.2]
    exact this
  have h1 := hR.fresh p hp (.row e sz []) (.slice none 0 0) (Below.refl _ _) (fun g _ h => by cases h) (fun hk => ⟨[], by rw [upd_same]; exact World.ownsRow_nil _ _ _ _, .nil, fun x hx => (by cases hx), h0⟩)
  refine ⟨upd ρ p (.slice none 0 0), ?_⟩
  show RelR N w0 ok0 _ (⟨(t, .own p 0) :: S.env, O'⟩ : St).e (⟨S.env, O'⟩ : St).o a w
  rw [hS]
  refine ⟨h1.size, h1.defers, h1.below, h1.inj, h1.ent, fun t' => ?_⟩
  show SlotRep _ _ _ _ (bif Nat.beq t t' then .own p 0 else look S.env t') _
  by_cases e' : t = t'
  · subst e'
    have h2 := h1.slot t
    rw [show S.e t = _ from h.eq] at h2
    simp only [Nat.beq_refl, cond_true]
    exact ⟨0, by rw [upd_same]; rfl, Nat.le_refl _, fun _ => by rw [upd_same]; exact h2⟩
  · have hb : Nat.beq t t' = false := by rw [← Bool.not_eq_true, Nat.beq_eq]; exact e'
    rw [hb, cond_false]
    exact h1.slot t'
end
end Go.Proofs.Ytnhljpbpfaablaa.VS
