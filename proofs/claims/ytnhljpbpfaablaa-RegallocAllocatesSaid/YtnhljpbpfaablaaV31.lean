/- Value semantics, part 31: functions that hand back a row of structs of their own; structs that hold a pointer into a row of the call's own. Conditions: none. -/
import Derived.Test.YtnhljpbpfaablaaV30
set_option linter.unusedSimpArgs false
set_option linter.unusedVariables false
namespace Go.Proofs.Ytnhljpbpfaablaa.VS
open Go Go.RowKit

/-- Called with these data the function hands back a fresh row. -/
def FnZ (P : Program) (f : FuncId) (args : List RV) (e sz : Nat) (xs : List (List FV)) : Prop :=
  ∀ (w : World) (ok : Nat → Prop) (vs : List Value), All2 (RV.rep w ok) args vs →
    Calls P f vs.toArray w fun ex w' => ∃ v, ex = .returned v ∧ Below w.heap.size w w' ∧ ∃ us : List (List Value), w'.ownsRow w.heap.size e sz v xs.length us.flatten ∧ All2 (All2 (FRep w' ok)) xs us
structure Scz (sz : Nat) (xs : List (List FV)) : Prop where
  len : ∀ x ∈ xs, x.length = sz
  sc : ∀ x ∈ xs, ∀ y ∈ x, scal y = true
  pos : 0 < sz
inductive OwnZ (e sz : Nat) (S : St) (t : Nat) (xs : List (List FV)) : Prop
  | own {p n : Nat} (hs : Look S.env t (.own p n)) (hp : S.o p = .row e sz xs) (hn : n = xs.length)
  | nil (hs : Look S.env t .nil) (hx : xs = [])
theorem fnZ_of {P : Program} {f : FuncId} {fn : Func} {c : Code} {args : List RV} {e sz : Nat} {xs : List (List FV)} {t N : Nat} (hf : P.funcs[f]? = some fn) (hN : fn.ntmps = N)
    (hsc : Scz sz xs) (h : (∀ x ∈ args, ∀ y ∈ x.flat, Bd y) → AWP P N c (fun ex S => (ex = .normal ∨ ex = .ret) ∧ OwnZ e sz S t xs) ⟨argEnv 0 args, []⟩)
    (hb : fn.body = some c := by exact rfl) (hn : args.length ≤ N := by exact Nat.le_of_ble_eq_true rfl) (ht : fn.results = #[.tmp t] := by exact rfl) : FnZ P f args e sz xs := by
  subst hN
  intro w ok vs hargs
  have hbd : ∀ x ∈ args, ∀ y ∈ x.flat, Bd y := by
    intro x hx y hy
    obtain ⟨i, hi⟩ := List.getElem?_of_mem hx
    obtain ⟨v, _, hv⟩ := hargs.get i x hi
    obtain ⟨j, hj⟩ := List.getElem?_of_mem hy
    obtain ⟨u, _, hu⟩ := hv.flat.get j y hj
    exact hu.bd
  have hlen := hargs.length
  refine calls_of_wp hf hb (wp_mono (h hbd w ok _ w ⟨fun _ => .bool true, ?_⟩) fun e' a' w' hq => ?_)
  · refine ⟨by simp; omega, rfl, Below.refl _ _, fun p q g hp => hp.elim, fun p => trivial, fun t => ?_⟩
    show SlotRep _ _ _ _ (look (argEnv 0 args) t) _
    rw [look_argEnv, if_pos (Nat.zero_le _), Nat.sub_zero]
    cases hx : args[t]? with
    | none => trivial
    | some x =>
      obtain ⟨v, hv, hr⟩ := hargs.get t x hx
      have : (vs.toArray ++ Array.replicate (fn.ntmps - vs.toArray.size) Go.undef).getD t Go.undef = v := by
        have hlt : t < vs.length := by
          rcases Nat.lt_or_ge t vs.length with h | h
          · exact h
          · rw [List.getElem?_eq_none h] at hv; cases hv
        rw [Array.getD_eq_getD_getElem?, Array.getElem?_append_left (by simpa using hlt)]
        simp [hv]
      rw [this]
      exact RV.rep.mono (fun k hk hlt => ⟨rfl, fun _ => hk, fun p hp => hp.elim⟩) hr
  · obtain ⟨S, ⟨he, hres⟩, ρ, hR⟩ := hq
    have hrun : (results fn a'.tmps).run P w' = .ok (a'.tmps.getD t Go.undef) w' := by
      rw [results_eq, ht]
      simp [rdv]
    have key : ∃ us : List (List Value), w'.ownsRow w.heap.size e sz (a'.tmps.getD t Go.undef) xs.length us.flatten ∧ All2 (All2 (FRep w' ok)) xs us := by
      have h1 := hR.slot t
      cases hres with
      | own hs hp hn =>
        rename_i p n
        rw [show S.e t = _ from hs.eq] at h1
        obtain ⟨l, hl, _, hv⟩ := h1
        have hE := hR.ent p
        rw [hp] at hE hl
        have hl : some xs.length = some l := hl
        cases hl
        obtain ⟨us, ho, hA, _, _⟩ := hE
        rw [hv hn]
        exact ⟨us, ho, all_scal hA hsc.sc⟩
      | nil hs hx =>
        rw [show S.e t = _ from hs.eq] at h1
        have h1 : a'.tmps.getD t Go.undef = .slice none 0 0 := h1
        rw [h1, hx]
        exact ⟨[], World.ownsRow_nil _ _ _ _, .nil⟩
    obtain ⟨us, ho, hA⟩ := key
    rcases he with rfl | rfl
    · exact ⟨hR.defers, _, hrun, _, rfl, hR.below, us, ho, hA⟩
    · exact ⟨hR.defers, _, hrun, _, rfl, hR.below, us, ho, hA⟩
/-- A struct of two cells. -/
def twoB (P : Program) (t : TypeId) : Bool := match P.info? t with
  | some i => decide (i.size = 2) && (match i.zero with | some z => decide (z.cells.size = 2) && z.cells.toList.all (fun u => u.oneCell') | none => false)
  | none => false
class Two (P : Program) (t : TypeId) : Prop where
  h : twoB P t = true
theorem Two.spec {P : Program} (t : TypeId) [Two P t] : ∃ i z u v, P.info? t = some i ∧ i.size = 2 ∧ i.zero = some z ∧ z.cells = #[u, v] ∧ u.oneCell' = true ∧ v.oneCell' = true := by
  have h := Two.h (P := P) (t := t)
  unfold twoB at h
  split at h
  · rename_i i hi
    rw [Bool.and_eq_true, decide_eq_true_eq] at h
    obtain ⟨h1, h2⟩ := h
    split at h2
    · rename_i z hz
      rw [Bool.and_eq_true, decide_eq_true_eq] at h2
      obtain ⟨h3, h4⟩ := h2
      have h5 : z.cells.toList.length = 2 := by simpa using h3
      match hl : z.cells.toList, h5 with
      | [u, v], _ =>
        rw [hl] at h4
        simp at h4
        exact ⟨i, z, u, v, hi, h1, hz, by rw [← Array.toArray_toList (xs := z.cells), hl], h4.1, h4.2⟩
    · cases h2
  · cases h
theorem op_ptr {w : World} {ok : Nat → Prop} {ents : Nat → Ent} {ρ : Nat → Value} {p n o e sz : Nat} {xs : List (List FV)} {v : Value} (h : SlotRep w ok ents ρ (.op p n o) v) (he : ents p = .row e sz xs) (hn : n = xs.length) : ∃ a, v = .pointer (some a) := by
  obtain ⟨ll, hl, _, hv⟩ := h
  rw [he] at hl
  have : some xs.length = some ll := hl
  cases this
  obtain ⟨g, m, c, _, h4⟩ := hv hn
  exact ⟨_, h4⟩
theorem opb_val {w : World} {ok : Nat → Prop} {ents : Nat → Ent} {ρ : Nat → Value} {p n o e sz : Nat} {b : Bool} {xs : List (List FV)} {v : Value} (h : SlotRep w ok ents ρ (.opb p n o b) v) (he : ents p = .row e sz xs) (hn : n = xs.length) : ∃ a, v = .agg #[.pointer (some a), .bool b] ∧ SlotRep w ok ents ρ (.op p n o) (.pointer (some a)) := by
  obtain ⟨ll, hl, hle, hv⟩ := h
  have hl0 := hl
  rw [he] at hl
  have : some xs.length = some ll := hl
  cases this
  obtain ⟨g, m, c, h3, h4⟩ := hv hn
  exact ⟨_, h4, xs.length, hl0, hle, fun _ => ⟨g, m, c, h3, rfl⟩⟩
theorem fill2 (x y u v : Value) (hx : x.cells = #[x]) (hy : y.cells = #[y]) : Instr.fill ([(0, 1), (1, 1)][·]?) #[u, v] [(0, x), (1, y)] = some #[x, y] := by
  simp [Instr.fill, hx, hy]
theorem fill4 (cs : Array Value) (h : cs.size = 8) (a0 a1 a2 a3 b0 b1 b2 b3 : Value) : Instr.fill (fun i => some (i * 2, 2)) cs [(0, .agg #[a0, b0]), (1, .agg #[a1, b1]), (2, .agg #[a2, b2]), (3, .agg #[a3, b3])] = some #[a0, b0, a1, b1, a2, b2, a3, b3] := by
  have h5 : cs.toList.length = 8 := by simpa using h
  match hl : cs.toList, h5 with
  | [c0, c1, c2, c3, c4, c5, c6, c7], _ =>
    have : cs = #[c0, c1, c2, c3, c4, c5, c6, c7] := by rw [← Array.toArray_toList (xs := cs), hl]
    subst this
    simp [Instr.fill, Value.cells]
section
variable {P : Program} {ops : Array Oper} {N : Nat} {fin : St → List Rec → Prop} {l : List Oper} {E : List (Nat × Slot)} {O O' : List Ent} {rs : List Rec} {d : Nat} {ty : TypeId} {pos : String} {after : Array Edge} {g : Option (Nat × Bool)}
theorem rCallZs {c : Operand} {args : Array Operand} {at_ : Array TypeId} {f : FuncId} [IsFn P f] {xs : List RV} {e sz : Nat} {zs : List (List FV)} {p : Nat} {touch : List Nat} (hc : Opd E c (.r (.v (.fn f)))) (ha : Args E O touch args.toList xs) (hF : FnZ P f xs e sz zs) (hsc : Scz sz zs)
    (hp : O.getD p .gone = .gone) (hO : SetAt O p (.row e sz zs) O') (hd : d < N) (hw : W ops E g) (k : Runs P ops N fin l ⟨(d, .own p zs.length) :: E, O'⟩ (⟨.own p zs.length, some (p, .row e sz zs), p :: touch⟩ :: rs)) :
    Runs P ops N fin (⟨some d, .call { callee := .value c, args := args, argTypes := at_ }, ty, pos, after, g⟩ :: l) ⟨E, O⟩ rs := by
  refine Runs.op (o := ⟨some d, .call { callee := .value c, args := args, argTypes := at_ }, ty, pos, after, g⟩) (r := ⟨.own p zs.length, some (p, .row e sz zs), p :: touch⟩) ?_ hw.wants hO.eq.1 ?_
  · intro w0 ok0 ρ env' ents' a w hev ht hR K Q hK
    have he := (ht p (by simp)).trans hp
    have hr : ∀ x ∈ (Op.call { callee := .value c, args := args, argTypes := at_ }).operands, SlotRep w (okS w0 ok0 ents' ρ) ents' ρ (ev (look E) x) (a.eval x) := fun x hx => by
      rw [show ev (look E) x = _ from (hev x hx).symm]; exact hR.ev x
    have h1 := hr c (by simp [Op.operands, Call.operands]); rw [hc.eq] at h1
    have hv : a.eval c = .func (.func f) #[] #[] := by
      generalize a.eval c = v at h1
      have h1 : FRep _ _ (.fn f) v := h1
      cases h1
      rfl
    have hrep := ha.rep (a := a) (fun x hx => hr x (by simp only [Op.operands, Call.operands]; exact Array.mem_append.2 (.inr (Array.mem_toList_iff.1 hx)))) (fun q hq => ht q (.tail _ hq)) hR.ent
    unfold Oper.wp
    have hrun : (execOp a.eval ⟨some d, .call { callee := .value c, args := args, argTypes := at_ }, ty, pos, after, g⟩).run P w = .ok (.enter f (args.map a.eval)) w := by
      simp [execOp, resolve, hv, Deferred.ofValue, invoke, run_enter]
    rw [hrun]
    have hargs : (args.map a.eval) = (args.toList.map a.eval).toArray := by
      rw [← Array.toList_map, Array.toArray_toList]
    rw [hargs]
    refine (hF w _ _ hrep).mono fun ex w' h => ?_
    obtain ⟨v, rfl, hb, us, ho, hA⟩ := h
    have hR' := hR.fresh p he (.row e sz zs) v hb (fun g' _ hg => (ownsRow_blk ho g' hg).1) (fun hk => ⟨us, by rw [upd_same]; exact ⟨ho.1, ho.2.imp id fun ⟨g, cap, cur, h1, h2, h3⟩ => ⟨g, cap, cur, h1, Nat.le_trans hR.below.size h2, h3⟩⟩, all_scal hA hsc.sc, hsc.len, hsc.pos⟩)
    exact hK _ _ ⟨_, hR'.put (some d) (fun d' h => by cases h; exact hd) ⟨zs.length, by rw [upd_same]; rfl, Nat.le_refl _, fun _ => by rw [upd_same]⟩⟩
  · have : (St.step ⟨E, O⟩ (some d) ⟨.own p zs.length, some (p, .row e sz zs), p :: touch⟩) = ⟨(d, .own p zs.length) :: E, O'⟩ := by
      show (⟨putE E (some d) _, setE O (some (p, _))⟩ : St) = _
      rw [hO.eq.2]; rfl
    show Runs P ops N fin l (St.step ⟨E, O⟩ (some d) _) _
    rw [this]
    exact k
theorem clZs (p : Nat) {c : Operand} {args : Array Operand} {at_ : Array TypeId} {f : FuncId} [IsFn P f] {xs : List RV} {e sz : Nat} {zs : List (List FV)} (hF : FnZ P f xs e sz zs) (hsc : Scz sz zs) (k : Runs P ops N fin l ⟨(d, .own p zs.length) :: E, O'⟩ (⟨.own p zs.length, some (p, .row e sz zs), [p]⟩ :: rs))
    (hc : Opd E c (.r (.v (.fn f))) := by first | exact Opd.int _ _ | exact Opd.bool _ | exact Opd.nil | exact Opd.fn _ | exact Opd.str _ | (apply Opd.tmp; ((repeat apply Look.there rfl); exact Look.here))) (ha : Args E O [] args.toList xs := by ((repeat (apply Args.cons (by first | exact Opd.int _ _ | exact Opd.bool _ | exact Opd.nil | exact Opd.fn _ | exact Opd.str _ | (apply Opd.tmp; ((repeat apply Look.there rfl); exact Look.here))) (by first | exact fun _ _ => IsD.f (IsF.v _) | exact fun _ _ => IsD.agg _ | exact fun _ _ => IsD.f IsF.nil))); exact Args.nil)) (hp : O.getD p .gone = .gone := by exact rfl) (hO : SetAt O p (.row e sz zs) O' := by ((repeat apply SetAt.there); exact SetAt.new)) (hd : d < N := by decide) (hw : W ops E g := by first | exact W.none | (apply wof rfl; ((repeat apply Look.there rfl); exact Look.here); first | assumption | exact rfl)) :
    Runs P ops N fin (⟨some d, .call { callee := .value c, args := args, argTypes := at_ }, ty, pos, after, g⟩ :: l) ⟨E, O⟩ rs := rCallZs hc ha hF hsc hp hO hd hw k
/-- A pointer into a row of the call's own is not nil. -/
theorem ncO {x : Operand} {p n o e sz : Nat} {xs : List (List FV)} (k : Runs P ops N fin l ⟨(d, .op p n o) :: E, O⟩ (⟨.op p n o, none, [p]⟩ :: rs)) (hx : Opd E x (.op p n o) := by (apply Opd.tmp; ((repeat apply Look.there rfl); exact Look.here))) (hp : O.getD p .gone = .row e sz xs := by exact rfl) (hn : n = xs.length := by first | assumption | exact rfl | (simp; done) | (simp; omega) | omega) (hd : d < N := by decide) (hw : W ops E g := by first | exact W.none | (apply wof rfl; ((repeat apply Look.there rfl); exact Look.here); first | assumption | exact rfl)) : Runs P ops N fin (⟨some d, .nilCheck x, ty, pos, after, g⟩ :: l) ⟨E, O⟩ rs :=
  rPure hd hw (fun w ok ρ ents' a hr ht _ => by
    have h1 := hr x (by simp [Op.operands]); rw [hx.eq] at h1
    obtain ⟨ad, hv⟩ := op_ptr h1 ((ht p (by simp)).trans hp) hn
    exact ⟨a.eval x, by simp [execOp, hv], h1⟩) k
/-- A struct of such a pointer and a truth value. -/
theorem buP {t : TypeId} [Str P t [(0, 1), (1, 1)]] [Two P t] {x y : Operand} {p n o e sz : Nat} {b : Bool} {xs : List (List FV)} (k : Runs P ops N fin l ⟨(d, .opb p n o b) :: E, O⟩ (⟨.opb p n o b, none, [p]⟩ :: rs)) (hx : Opd E x (.op p n o) := by (apply Opd.tmp; ((repeat apply Look.there rfl); exact Look.here))) (hy : Opd E y (.r (.v (.b b))) := by first | exact Opd.bool _ | (apply Opd.tmp; ((repeat apply Look.there rfl); exact Look.here))) (hp : O.getD p .gone = .row e sz xs := by exact rfl) (hn : n = xs.length := by first | assumption | exact rfl | (simp; done) | (simp; omega) | omega) (hd : d < N := by decide) (hw : W ops E g := by first | exact W.none | (apply wof rfl; ((repeat apply Look.there rfl); exact Look.here); first | assumption | exact rfl)) : Runs P ops N fin (⟨some d, .build t #[(0, x), (1, y)], ty, pos, after, g⟩ :: l) ⟨E, O⟩ rs :=
  rPure hd hw (fun w ok ρ ents' a hr ht _ => by
    have h1 := hr x (by simp [Op.operands]); rw [hx.eq] at h1
    have h2 := hr y (by simp [Op.operands]); rw [hy.eq] at h2
    have he := (ht p (by simp)).trans hp
    obtain ⟨ll, hl, hle, hv⟩ := h1
    have hl0 := hl
    rw [he] at hl
    have : some xs.length = some ll := hl
    cases this
    obtain ⟨gg, m, c, h3, h4⟩ := hv hn
    obtain ⟨fs, g1, g2, _⟩ := Str.spec (P := P) t [(0, 1), (1, 1)]
    obtain ⟨i, z, u, v, g3, _, g4, g5, _, _⟩ := Two.spec (P := P) t
    have hb : P.built t [(0, a.eval x), (1, a.eval y)] = some #[a.eval x, a.eval y] := by
      unfold Program.built
      simp only [g3, g1, g4, g2, g5]
      exact fill2 _ _ _ _ (by rw [h4]; rfl) (by rw [rep_bool h2]; rfl)
    refine ⟨.agg #[a.eval x, a.eval y], ?_, xs.length, hl0, hle, fun _ => ⟨gg, m, c, h3, by rw [h4, rep_bool h2]⟩⟩
    have hrun := run_build (P := P) w t _ _ hb
    simp only [execOp, Sem.run_bind, List.map_toArray, List.map_cons, List.map_nil, hrun, Result.andThen_ok, Sem.run_pure]) k
/-- A slice of four of them. -/
theorem bsP (q : Nat) {t e sz0 b : Nat} [Sli P t e 2 b] [Two P e] {x0 x1 x2 x3 : Operand} {p n o0 o1 o2 o3 sz : Nat} {c0 c1 c2 c3 : Bool} {xs : List (List FV)}
    (k : Runs P ops N fin l ⟨(d, .bsl q 0 4) :: E, O'⟩ (⟨.bsl q 0 4, some (q, .box e [.op p n o0, .r (.v (.b c0)), .op p n o1, .r (.v (.b c1)), .op p n o2, .r (.v (.b c2)), .op p n o3, .r (.v (.b c3))]), [q, p]⟩ :: rs))
    (hx0 : Opd E x0 (.opb p n o0 c0) := by (apply Opd.tmp; ((repeat apply Look.there rfl); exact Look.here))) (hx1 : Opd E x1 (.opb p n o1 c1) := by (apply Opd.tmp; ((repeat apply Look.there rfl); exact Look.here))) (hx2 : Opd E x2 (.opb p n o2 c2) := by (apply Opd.tmp; ((repeat apply Look.there rfl); exact Look.here))) (hx3 : Opd E x3 (.opb p n o3 c3) := by (apply Opd.tmp; ((repeat apply Look.there rfl); exact Look.here))) (hp : O.getD p .gone = .row sz0 sz xs := by exact rfl) (hn : n = xs.length := by first | assumption | exact rfl | (simp; done) | (simp; omega) | omega) (hq : O.getD q .gone = .gone := by exact rfl)
    (hO : SetAt O q (.box e [.op p n o0, .r (.v (.b c0)), .op p n o1, .r (.v (.b c1)), .op p n o2, .r (.v (.b c2)), .op p n o3, .r (.v (.b c3))]) O' := by ((repeat apply SetAt.there); exact SetAt.new)) (hqp : p ≠ q := by decide) (hd : d < N := by decide) (hw : W ops E g := by first | exact W.none | (apply wof rfl; ((repeat apply Look.there rfl); exact Look.here); first | assumption | exact rfl)) : Runs P ops N fin (⟨some d, .buildSlice t 4 #[(0, x0), (1, x1), (2, x2), (3, x3)], ty, pos, after, g⟩ :: l) ⟨E, O⟩ rs := by
  refine rEff (s := .bsl q 0 4) (touch := [p]) hO (fun d' h => by cases h; exact hd) hw (fun w0 ok0 ρ env' ents' a w hr ht hR => ?_) k
  have he := (ht q (by simp)).trans hq
  have hpe := (ht p (by simp)).trans hp
  have h0 := hr x0 (by simp [Op.operands]); rw [hx0.eq] at h0
  have h1 := hr x1 (by simp [Op.operands]); rw [hx1.eq] at h1
  have h2 := hr x2 (by simp [Op.operands]); rw [hx2.eq] at h2
  have h3 := hr x3 (by simp [Op.operands]); rw [hx3.eq] at h3
  obtain ⟨a0, e0, r0⟩ := opb_val h0 hpe hn
  obtain ⟨a1, e1, r1⟩ := opb_val h1 hpe hn
  obtain ⟨a2, e2, r2⟩ := opb_val h2 hpe hn
  obtain ⟨a3, e3, r3⟩ := opb_val h3 hpe hn
  obtain ⟨i, s1, s2, s3, _, _⟩ := Sli.spec (P := P) t e 2 b
  obtain ⟨i', z, u, v, t1, _, t2, t3, _, _⟩ := Two.spec (P := P) e
  rw [s2] at t1
  cases t1
  have hrun : (execOp a.eval ⟨some d, .buildSlice t 4 #[(0, x0), (1, x1), (2, x2), (3, x3)], ty, pos, after, g⟩).run P w = .ok (.value (.slice (some ⟨w.heap.size, 0, none⟩) 4 4)) (w.alloc (.cells #[.pointer (some a0), .bool c0, .pointer (some a1), .bool c1, .pointer (some a2), .bool c2, .pointer (some a3), .bool c3] e)) := by
    have hf := fill4 ((Array.range (4 * 2)).map fun m => (z.cells)[m % (z.cells).size]!) (by simp) (.pointer (some a0)) (.pointer (some a1)) (.pointer (some a2)) (.pointer (some a3)) (.bool c0) (.bool c1) (.bool c2) (.bool c3)
    simp only [execOp, Instr.buildSlice, Sem.run_bind, run_underlying s1, Result.andThen_ok, sizeOf, typeInfo, run_program, s2, s3, Sem.run_pure]
    rw [if_neg (show ¬ 4 * 2 > 2 ^ 24 by omega), if_neg (show ¬ 4 * 2 = 0 by omega)]
    simp only [List.map_toArray, List.map_cons, List.map_nil, e0, e1, e2, e3, zeroValue, typeInfo, run_program, Sem.run_bind, Sem.run_pure, Result.andThen_ok, s2, t2, hf]
    simp [newRow, newObj, Sem.run]
  have hb : Below w.heap.size w (w.alloc (.cells #[.pointer (some a0), .bool c0, .pointer (some a1), .bool c1, .pointer (some a2), .bool c2, .pointer (some a3), .bool c3] e)) := (Below.refl _ _).alloc (Nat.le_refl _) _
  have hcomp : ∀ r, Compat ents' (upd ents' q (.box e [.op p n o0, .r (.v (.b c0)), .op p n o1, .r (.v (.b c1)), .op p n o2, .r (.v (.b c2)), .op p n o3, .r (.v (.b c3))])) ρ (upd ρ q (.pointer (some ⟨w.heap.size, 0, none⟩))) r := fun r => by
    by_cases hr : r = q
    · subst hr
      exact ⟨fun ty cs hx => (by rw [he] at hx; cases hx), fun l hx => (by rw [he] at hx; cases hx)⟩
    · exact .same (upd_ne _ _ _ _ hr) (upd_ne _ _ _ _ hr)
  refine ⟨_, _, _, .pointer (some ⟨w.heap.size, 0, none⟩), hrun, .inl rfl, ?_, ?_⟩
  · refine hR.fresh q he _ _ hb (fun g' _ hg => by cases hg; exact Nat.le_refl _) (fun hk => ?_)
    refine ⟨w.heap.size, [.pointer (some a0), .bool c0, .pointer (some a1), .bool c1, .pointer (some a2), .bool c2, .pointer (some a3), .bool c3], upd_same _ _ _, hR.below.size, heap_alloc_new w _, ?_, ?_⟩
    · have hop : ∀ {s : Slot} {v : Value}, SlotRep w (okS w0 ok0 ents' ρ) ents' ρ s v → SlotRep (w.alloc (.cells #[.pointer (some a0), .bool c0, .pointer (some a1), .bool c1, .pointer (some a2), .bool c2, .pointer (some a3), .bool c3] e)) _ _ _ s v := fun h => h.step hcomp hk
      exact .cons (hop r0) (.cons (FRep.b _) (.cons (hop r1) (.cons (FRep.b _) (.cons (hop r2) (.cons (FRep.b _) (.cons (hop r3) (.cons (FRep.b _) .nil)))))))
    · intro u hu
      simp only [List.mem_cons, List.not_mem_nil, or_false] at hu
      rcases hu with rfl | rfl | rfl | rfl | rfl | rfl | rfl | rfl <;> rfl
  · exact ⟨e, _, w.heap.size, 4, upd_same _ _ _, upd_same _ _ _, rfl, Nat.le_refl _⟩
/-- One of them is loaded. -/
theorem lPb (q : Nat) {x : Operand} {t : TypeId} [Agg P t 2] {o ty' p n off : Nat} {b : Bool} {cs : List Slot} (k : Runs P ops N fin l ⟨(d, .opb p n off b) :: E, O⟩ (⟨.opb p n off b, none, [q]⟩ :: rs)) (h0 : cs[o]? = some (.op p n off)) (h1 : cs[o + 1]? = some (.r (.v (.b b)))) (hp0 : p ≠ q) {e sz : Nat} {xs : List (List FV)}
    (hx : Opd E x (.box q o) := by (apply Opd.tmp; ((repeat apply Look.there rfl); exact Look.here))) (hq : O.getD q .gone = .box ty' cs := by exact rfl) (hd : d < N := by decide) (hw : W ops E g := by first | exact W.none | (apply wof rfl; ((repeat apply Look.there rfl); exact Look.here); first | assumption | exact rfl)) : Runs P ops N fin (⟨some d, .load t x, ty, pos, after, g⟩ :: l) ⟨E, O⟩ rs :=
  rPure hd hw (fun w ok ρ ents' a hr ht hE => by
    have e1 := hr x (by simp [Op.operands]); rw [hx.eq] at e1
    obtain ⟨gg, vs, hv, _, _, hA, _, hc⟩ := box_at e1 ((ht q (by simp)).trans hq) (hE q)
    obtain ⟨u0, hu0, r0⟩ := hA.get o _ h0
    obtain ⟨u1, hu1, r1⟩ := hA.get (o + 1) _ h1
    have r1 : FRep w ok (.b b) u1 := r1
    have hu1b : u1 = .bool b := by cases r1; rfl
    refine ⟨.agg #[u0, u1], ?_, ?_⟩
    · have := run_loadA (P := P) w t 2 ⟨gg, o, none⟩ [u0, u1] rfl (fun j u hu => by
        rw [add_off, hc]
        match j, hu with
        | 0, hu => simp at hu; subst hu; exact hu0
        | 1, hu => simp at hu; subst hu; exact hu1
        | j + 2, hu => simp at hu)
      simp only [execOp, hv, Sem.run_bind, this, Result.andThen_ok, Sem.run_pure]
    · obtain ⟨l, h3, h4, h5⟩ := r0
      exact ⟨l, h3, h4, fun hl => by obtain ⟨g', m, c, h6, h7⟩ := h5 hl; exact ⟨g', m, c, h6, by rw [h7, hu1b]⟩⟩) k
/-- A variable for one. -/
theorem alU (q : Nat) {t : TypeId} [Two P t] (k : Runs P ops N fin l ⟨(d, .box q 0) :: E, O'⟩ (⟨.box q 0, some (q, .box t [.undef, .undef]), [q]⟩ :: rs)) (hp : O.getD q .gone = .gone := by exact rfl) (hO : SetAt O q (.box t [.undef, .undef]) O' := by ((repeat apply SetAt.there); exact SetAt.new)) (hd : d < N := by decide) (hw : W ops E g := by first | exact W.none | (apply wof rfl; ((repeat apply Look.there rfl); exact Look.here); first | assumption | exact rfl)) : Runs P ops N fin (⟨some d, .alloc t, ty, pos, after, g⟩ :: l) ⟨E, O⟩ rs := by
  refine rEff (s := .box q 0) (touch := []) hO (fun d' h => by cases h; exact hd) hw (fun w0 ok0 ρ env' ents' a w hr ht hR => ?_) k
  obtain ⟨i, z, u, v, h1, _, h2, h3, h4, h5⟩ := Two.spec (P := P) t
  have hg := (ht q (by simp)).trans hp
  refine ⟨_, .pointer (some ⟨w.heap.size, 0, none⟩), w.alloc (.cells #[u, v] t), .pointer (some ⟨w.heap.size, 0, none⟩), ?_, .inl rfl, ?_, ?_⟩
  · simp [execOp, Instr.alloc, zeroValue, typeInfo, h1, h2, newVar, newRow, newObj, Sem.run, h3]
  · refine hR.fresh q hg _ _ ((Below.refl _ _).alloc (Nat.le_refl _) _) (fun g _ h => by cases h; exact Nat.le_refl _) (fun hk => ?_)
    refine ⟨w.heap.size, [u, v], upd_same _ _ _, hR.below.size, heap_alloc_new w _, .cons trivial (.cons trivial .nil), ?_⟩
    intro x hx
    simp only [List.mem_cons, List.not_mem_nil, or_false] at hx
    rcases hx with rfl | rfl
    · exact h4
    · exact h5
  · exact ⟨t, _, w.heap.size, upd_same _ _ _, upd_same _ _ _, rfl⟩
/-- It is stored there. -/
theorem sPb {t : TypeId} [Agg P t 2] {x y : Operand} {q t' p n off e sz : Nat} {b : Bool} {s0 s1 : Slot} {xs : List (List FV)} (k : Runs P ops N fin l ⟨E, O'⟩ (⟨.undef, some (q, .box t' [.op p n off, .r (.v (.b b))]), [q, p]⟩ :: rs)) (hx : Opd E x (.box q 0) := by (apply Opd.tmp; ((repeat apply Look.there rfl); exact Look.here))) (hy : Opd E y (.opb p n off b) := by (apply Opd.tmp; ((repeat apply Look.there rfl); exact Look.here))) (hq : O.getD q .gone = .box t' [s0, s1] := by exact rfl) (hp : O.getD p .gone = .row e sz xs := by exact rfl) (hn : n = xs.length := by first | assumption | exact rfl | (simp; done) | (simp; omega) | omega)
    (hO : SetAt O q (.box t' [.op p n off, .r (.v (.b b))]) O' := by ((repeat apply SetAt.there); exact SetAt.here)) (hw : W ops E g := by first | exact W.none | (apply wof rfl; ((repeat apply Look.there rfl); exact Look.here); first | assumption | exact rfl)) : Runs P ops N fin (⟨none, .store t x y, ty, pos, after, g⟩ :: l) ⟨E, O⟩ rs := by
  refine rEff (s := .undef) (touch := [p]) hO (fun d' h => by cases h) hw (fun w0 ok0 ρ env' ents' a w hr ht hR => ?_) k
  have he := (ht q (by simp)).trans hq
  have h1 := hr x (by simp [Op.operands]); rw [hx.eq] at h1
  have h2 := hr y (by simp [Op.operands]); rw [hy.eq] at h2
  obtain ⟨ad, hv, hop⟩ := opb_val h2 ((ht p (by simp)).trans hp) hn
  have hE := hR.ent q
  rw [he] at hE
  obtain ⟨gg, vs, hρ, hb, hh, hA, hone⟩ := hE
  obtain ⟨ty', cs0, g', _, h3, h4⟩ := h1
  rw [hρ] at h3
  cases h3
  have hlen := hA.length
  have hus : upd ρ q (ρ q) = ρ := by funext r; by_cases hr : r = q <;> simp [upd, hr]
  have hsp : splice vs 0 [.pointer (some ad), .bool b] = [.pointer (some ad), .bool b] := by
    simp only [splice, List.take_zero, List.nil_append, List.length_cons, List.length_nil, Nat.zero_add]
    rw [List.drop_eq_nil_of_le (by rw [← hlen]; simp), List.append_nil]
  refine ⟨.skip, Go.undef, w.setRow gg (splice vs 0 [.pointer (some ad), .bool b]).toArray, ρ q, ?_, .inr ⟨rfl, rfl⟩, ?_, trivial⟩
  · have := run_storeA (P := P) (t := t) (n := 2) (o := 0) hh (us := [.pointer (some ad), .bool b]) (by simp [← hlen]) rfl (by intro u hu; simp only [List.mem_cons, List.not_mem_nil, or_false] at hu; rcases hu with rfl | rfl <;> rfl)
    simp only [execOp, h4, hv, Sem.run_bind, this, Result.andThen_ok, Sem.run_pure]
  · rw [hus, hsp]
    refine hR.stored he hρ hh hb (fun w' ok' ents'' hcc hk => .cons (hop.step hcc hk) (.cons (FRep.b _) .nil)) (fun u hu => ?_)
    simp only [List.mem_cons, List.not_mem_nil, or_false] at hu
    rcases hu with rfl | rfl <;> rfl
/-- Structs of numbers: unequal. -/
theorem ein {x y : Operand} {t t' n : Nat} [EqI P t n] {xs ys : List FV} {as bs : List Int} (k : Runs P ops N fin l ⟨(d, .r (.v (.b (!(as == bs))))) :: E, O⟩ (⟨.r (.v (.b (!(as == bs)))), none, []⟩ :: rs)) (hx : Opd E x (.r (.agg xs)) := by (apply Opd.tmp; ((repeat apply Look.there rfl); exact Look.here))) (hy : Opd E y (.r (.agg ys)) := by (apply Opd.tmp; ((repeat apply Look.there rfl); exact Look.here)))
    (ha : Ints xs as := by ((repeat apply Ints.cons); exact Ints.nil)) (hb : Ints ys bs := by ((repeat apply Ints.cons); exact Ints.nil)) (h1 : as.length = n := by exact rfl) (h2 : bs.length = n := by exact rfl) (hd : d < N := by decide) (hw : W ops E g := by first | exact W.none | (apply wof rfl; ((repeat apply Look.there rfl); exact Look.here); first | assumption | exact rfl)) : Runs P ops N fin (⟨some d, .binOp .neq t x y t', ty, pos, after, g⟩ :: l) ⟨E, O⟩ rs :=
  rPure hd hw (fun w ok ρ ents' a hr _ _ => by
    have h3 := hr x (by simp [Op.operands]); have h4 := hr y (by simp [Op.operands]); rw [hx.eq, ha.eq] at h3; rw [hy.eq, hb.eq] at h4
    have h5 := rep_ints h3; have h6 := rep_ints h4
    obtain ⟨h7, h8⟩ := run_eqI (P := P) (t := t) (w := w) h1 h2 x y .neq
    refine ⟨.bool (!(as == bs)), ?_, FRep.b _⟩
    simp only [execOp, h5, h6, Sem.run_bind, h7, Result.andThen_ok]
    simp only [binOp, Sem.run_bind, h8, Result.andThen_ok, Sem.run_pure]) k
end
end Go.Proofs.Ytnhljpbpfaablaa.VS
