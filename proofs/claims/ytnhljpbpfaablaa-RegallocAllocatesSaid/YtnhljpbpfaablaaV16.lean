/- Value semantics, part 16: loops rolled out, rows of the call's own written in place, make, functions that hand back a row that the caller may go on with. Conditions: none. -/
import Derived.Test.YtnhljpbpfaablaaV15
set_option linter.unusedSimpArgs false
set_option linter.unusedVariables false
namespace Go.Proofs.Ytnhljpbpfaablaa.VS
open Go Go.RowKit

section
variable {P : Program} {N : Nat} {Q : Exit → St → Prop} {S : St}
/-- At the head of a loop. -/
def LWP (P : Program) (N : Nat) (c : Code) (Q : Exit → St → Prop) (S : St) : Prop :=
  ∀ (w0 : World) (ok0 : Nat → Prop) (a : Act) (w : World), Rel N w0 ok0 S.e S.o a w → ∀ (b : Frame) (k : List Item) (cs : List Frame),
    ∃ e a' w', lift N w0 ok0 Q e a' w' ∧ Arrives P (lone (b.at a (.code c :: .inLoop c :: k)) cs w) b k cs e a' w'
theorem lu {c : Code} (h : LWP P N c Q S) : AWP P N (.loop c) Q S := by
  intro w0 ok0 a w hr b k cs
  obtain ⟨e, a', w', hq, harr⟩ := h w0 ok0 a w hr b k cs
  exact ⟨e, a', w', hq, .of_steps (.one step_loop) harr⟩
/-- One round. -/
theorem lr {c : Code} (h : AWP P N c (thenA (fun S' => LWP P N c Q S') Q) S) : LWP P N c Q S := by
  intro w0 ok0 a w hr b k cs
  obtain ⟨e, a₁, w₁, ⟨S₁, hq, hr₁⟩, harr⟩ := h w0 ok0 a w hr b (.inLoop c :: k) cs
  cases e with
  | normal =>
    obtain ⟨e₂, a₂, w₂, hq₂, harr₂⟩ := hq w0 ok0 a₁ w₁ hr₁ b k cs
    exact ⟨e₂, a₂, w₂, hq₂, .of_steps (Steps.trans harr (.one step_inLoop)) harr₂⟩
  | exit id => exact ⟨_, a₁, w₁, ⟨S₁, hq, hr₁⟩, .pass (x := .inLoop c) rfl (fun _ _ => .inl (by simp)) harr⟩
  | goto l => exact ⟨_, a₁, w₁, ⟨S₁, hq, hr₁⟩, .pass (x := .inLoop c) rfl (fun _ _ => .inl (by simp)) harr⟩
  | ret => exact ⟨_, a₁, w₁, ⟨S₁, hq, hr₁⟩, .pass (x := .inLoop c) rfl (fun _ _ => .inl (by simp)) harr⟩
  | panic ch => exact ⟨_, a₁, w₁, ⟨S₁, hq, hr₁⟩, .pass (x := .inLoop c) rfl (fun _ _ => .inl (by simp)) harr⟩
  | outgrown => exact ⟨_, a₁, w₁, ⟨S₁, hq, hr₁⟩, .pass (x := .inLoop c) rfl (fun _ _ => .inl (by simp)) harr⟩
/-- What is known at the head is less. -/
theorem lk {c : Code} {S' : St} (hw : Weak N S S') (h : LWP P N c Q S') : LWP P N c Q S := fun w0 ok0 a w hr => h w0 ok0 a w (hw w0 ok0 a w hr)
theorem lkK {c : Code} {E E' : List (Nat × Slot)} {O : List Ent} (n : Nat) (h : LWP P N c Q ⟨E', O.take n⟩) (hk : Kept E E' := by ((repeat refine Kept.cons (by ((repeat apply Look.there rfl); exact Look.here)) ?_); exact Kept.nil)) (h1 : E'.all (fun x => x.2.under n) = true := by exact rfl) (h2 : (O.take n).all (Ent.under n) = true := by exact rfl) : LWP P N c Q ⟨E, O⟩ :=
  lk (Weak.trans (S' := ⟨E', O⟩) (weak_keep hk) (weak_take n h1 h2)) h
end

theorem flatten_set {α : Type} {sz : Nat} {u : α} : ∀ {l : List (List α)} {i j : Nat} {x : List α}, (∀ x ∈ l, x.length = sz) → l[i]? = some x → j < sz → (l.set i (x.set j u)).flatten = l.flatten.set (i * sz + j) u
  | [], i, j, x, _, hi, _ => by simp at hi
  | y :: l, 0, j, x, hs, hi, hj => by
    have hi : y = x := by simpa using hi
    subst hi
    have hy := hs y (.head _)
    simp only [List.set_cons_zero, List.flatten_cons, Nat.zero_mul, Nat.zero_add]
    rw [List.set_append, if_pos (by omega)]
  | y :: l, i + 1, j, x, hs, hi, hj => by
    have hi : l[i]? = some x := by simpa using hi
    have hy := hs y (.head _)
    have ih := flatten_set (u := u) (fun x hx => hs x (.tail _ hx)) hi hj
    simp only [List.set_cons_succ, List.flatten_cons, ih]
    rw [List.set_append, if_neg (by rw [hy, Nat.succ_mul]; omega)]
    congr 2
    rw [hy, Nat.succ_mul]; omega

section
variable {P : Program} {ops : Array Oper} {N : Nat} {fin : St → List Rec → Prop} {l : List Oper} {E : List (Nat × Slot)} {O O' : List Ent} {rs : List Rec} {ty : TypeId} {pos : String} {after : Array Edge} {g : Option (Nat × Bool)}
/-- One cell of an element of a row of the call's own is written. -/
theorem rSo {t : TypeId} [Plain P t] {x y : Operand} {p n o e sz i j : Nat} {xs : List (List FV)} {cs : List FV} {c : FV} (hx : Opd E x (.op p n o)) (hy : Opd E y (.r (.v c))) (hp : O.getD p .gone = .row e sz xs) (hn : n = xs.length) (ho : o = i * sz + j) (hi : xs[i]? = some cs) (hj : j < cs.length)
    (hO : SetAt O p (.row e sz (xs.set i (cs.set j c))) O') (hw : W ops E g)
    (k : Runs P ops N fin l ⟨E, O'⟩ (⟨.undef, some (p, .row e sz (xs.set i (cs.set j c))), [p]⟩ :: rs)) : Runs P ops N fin (⟨none, .store t x y, ty, pos, after, g⟩ :: l) ⟨E, O⟩ rs := by
  refine rEff (s := .undef) (touch := []) hO (fun d' h => by cases h) hw (fun w0 ok0 ρ env' ents' a w hr ht hR => ?_) k
  have he := (ht p (by simp)).trans hp
  have h1 := hr x (by simp [Op.operands]); rw [hx.eq] at h1
  have h2 := hr y (by simp [Op.operands]); rw [hy.eq] at h2
  have hE := hR.ent p
  obtain ⟨gg, cap, _, hv, hρ, _, _, _, _, _⟩ := op_cell h1 he hn hE
  rw [he] at hE
  obtain ⟨vs, hown, hA, hs, h0⟩ := hE
  have hcs := hs cs (List.mem_of_getElem? hi)
  have hj' : j < sz := by omega
  obtain ⟨us, hus, hU⟩ := hA.get i cs hi
  have hown' := hown
  rw [hρ] at hown'
  rcases hown'.2 with ⟨h5, _⟩ | ⟨g', cap', cur, h5, hbg, hh, hnc, hcm, hcsz, htake⟩
  · cases h5
  cases h5
  have hil : i < xs.length := (List.getElem?_eq_some_iff.1 hi).1
  have holt : o < xs.length * sz := by
    have : (i + 1) * sz ≤ xs.length * sz := Nat.mul_le_mul_right _ hil
    rw [Nat.succ_mul] at this; omega
  have hocur : o < cur.toList.length := by
    have : xs.length * sz ≤ cap * sz := Nat.mul_le_mul_right _ hnc
    rw [Array.length_toList, hcsz]; omega
  have hh' : w.heap[gg]? = some (.cells cur.toList.toArray e (0, 0)) := by simpa using hh
  have hus' : upd ρ p (ρ p) = ρ := by funext q; by_cases hq : q = p <;> simp [upd, hq]
  refine ⟨.skip, Go.undef, w.setRow gg (cur.toList.set o (a.eval y)).toArray, ρ p, ?_, .inr ⟨rfl, rfl⟩, ?_, trivial⟩
  · simp only [execOp, hv, Sem.run_bind, run_store1 (P := P) (t := t) (o := o) hh' hocur (FRep.oneCell h2) (FRep.cells h2), Result.andThen_ok, Sem.run_pure]
  · rw [hus']
    have hheap : (w.setRow gg (cur.toList.set o (a.eval y)).toArray).heap[gg]? = some (.cells (cur.toList.set o (a.eval y)).toArray e (0, 0)) := setRow_heap w gg _ _ e _ hh
    have hother : ∀ k, k ≠ gg → (w.setRow gg (cur.toList.set o (a.eval y)).toArray).heap[k]? = w.heap[k]? := fun k hk => setRow_other w gg k _ hk
    refine hR.move (ρ' := ρ) p ?_ (fun k hk hne => hother k (fun e' => ?_)) (fun q hq => ⟨upd_ne _ _ _ _ hq, rfl⟩) ⟨fun ty cs0 hx => (by rw [he] at hx; cases hx), fun l hl => ?_⟩ (fun g' _ h2 => .inl ⟨by rw [he]; trivial, h2⟩) (fun hcc hk => ?_)
    · exact hR.below.trans ⟨rfl, rfl, rfl, by simp [World.setRow], fun k hk => hother k (by omega)⟩
    · exact hne (by rw [he]; trivial) (by rw [hρ, e']; rfl)
    · rw [he] at hl
      have hl : some xs.length = some l := hl
      cases hl
      exact ⟨xs.length, by rw [upd_same]; simp [Ent.len?], Nat.le_refl _, fun _ => rfl⟩
    · rw [upd_same]
      refine ⟨vs.set i (us.set j (a.eval y)), ?_, ?_, fun z hz => ?_, h0⟩
      · have hvl : ∀ z ∈ vs, z.length = sz := hA.lens hs
        rw [flatten_set hvl hus hj', hρ, List.length_set, ← ho]
        refine ⟨?_, .inr ⟨gg, cap, _, rfl, hbg, hheap, hnc, hcm, by simpa using hcsz, ?_⟩⟩
        · rw [List.length_set]; exact hown.1
        · show ((cur.toList.set o (a.eval y)).toArray.toList.take _) = _
          rw [← htake, List.take_set]
      · exact (hA.imp fun _ _ h => h.imp fun _ _ => FRep.mono hk).set ((hU.imp fun _ _ => FRep.mono hk).set (FRep.mono hk h2) j) i
      · rcases List.mem_or_eq_of_mem_set hz with h | h
        · exact hs z h
        · rw [h, List.length_set]; exact hcs
end

/-! ### Functions that hand back a row of their own -/
def scal : FV → Bool
  | .i _ _ => true
  | .b _ => true
  | _ => false
theorem FRep.scal {w w' : World} {ok ok' : Nat → Prop} {x : FV} {v : Value} (h : FRep w ok x v) (hs : VS.scal x = true) : FRep w' ok' x v := by
  cases h with
  | i => exact .i _ _
  | b => exact .b _
  | _ => cases hs
/-- Called with these data the function hands back a fresh row of numbers. -/
def FnO (P : Program) (f : FuncId) (args : List RV) (e : TypeId) (xs : List (List FV)) : Prop :=
  ∀ (w : World) (ok : Nat → Prop) (vs : List Value), All2 (RV.rep w ok) args vs →
    Calls P f vs.toArray w fun ex w' => ∃ v, ex = .returned v ∧ Below w.heap.size w w' ∧ ∃ us : List (List Value), w'.ownsRow w.heap.size e 1 v xs.length us.flatten ∧ All2 (All2 (FRep w' ok)) xs us
structure Sc (xs : List (List FV)) : Prop where
  len : ∀ x ∈ xs, x.length = 1
  sc : ∀ x ∈ xs, ∀ y ∈ x, scal y = true
theorem Sc.ints (l : List Int) : Sc (l.map Enc.c) :=
  ⟨fun x hx => by obtain ⟨n, _, rfl⟩ := List.mem_map.1 hx; rfl, fun x hx y hy => by obtain ⟨n, _, rfl⟩ := List.mem_map.1 hx; rw [List.mem_singleton.1 hy]; rfl⟩
theorem all_scal {w w' : World} {ok ok' : Nat → Prop} {xs : List (List FV)} {us : List (List Value)} (h : All2 (All2 (FRep w ok)) xs us) (hs : ∀ x ∈ xs, ∀ y ∈ x, scal y = true) : All2 (All2 (FRep w' ok')) xs us := by
  refine .of_get h.length fun i x y hx hy => ?_
  obtain ⟨y', hy', hxy⟩ := h.get i x hx
  rw [hy] at hy'; cases hy'
  refine .of_get hxy.length fun j c u hc hu => ?_
  obtain ⟨u', hu', hcu⟩ := hxy.get j c hc
  rw [hu] at hu'; cases hu'
  exact hcu.scal (hs x (List.mem_of_getElem? hx) c (List.mem_of_getElem? hc))
inductive OwnRes (e : TypeId) (S : St) (t : Nat) (xs : List (List FV)) : Prop
  | own {p n : Nat} (hs : Look S.env t (.own p n)) (hp : S.o p = .row e 1 xs) (hn : n = xs.length)
  | nil (hs : Look S.env t .nil) (hx : xs = [])
theorem fnO_of {P : Program} {f : FuncId} {fn : Func} {c : Code} {args : List RV} {e : TypeId} {xs : List (List FV)} {t N : Nat} (hf : P.funcs[f]? = some fn) (hN : fn.ntmps = N)
    (hsc : Sc xs) (h : (∀ x ∈ args, ∀ y ∈ x.flat, Bd y) → AWP P N c (fun ex S => (ex = .normal ∨ ex = .ret) ∧ OwnRes e S t xs) ⟨argEnv 0 args, []⟩)
    (hb : fn.body = some c := by exact rfl) (hn : args.length ≤ N := by exact Nat.le_of_ble_eq_true rfl) (ht : fn.results = #[.tmp t] := by exact rfl) : FnO P f args e xs := by
  subst hN
  intro w ok vs hargs
  have hbd : ∀ x ∈ args, ∀ y ∈ x.flat, Bd y := by
    intro x hx y hy
    obtain ⟨i, hi⟩ := List.getElem?_of_mem hx
    obtain ⟨v, _, hv⟩ := hargs.get i x hi
    obtain ⟨j, hj⟩ := List.getElem?_of_mem hy
    obtain ⟨u, _, hu⟩ := hv.flat.get j y hj
    exact hu.bd
  have hlen := hargs.length
  refine calls_of_wp hf hb (wp_mono (h hbd w ok _ w ⟨fun _ => .bool true, ?_⟩) fun e' a' w' hq => ?_)
  · refine ⟨by simp; omega, rfl, Below.refl _ _, fun p q g hp => hp.elim, fun p => trivial, fun t => ?_⟩
    show SlotRep _ _ _ _ (look (argEnv 0 args) t) _
    rw [look_argEnv, if_pos (Nat.zero_le _), Nat.sub_zero]
    cases hx : args[t]? with
    | none => trivial
    | some x =>
      obtain ⟨v, hv, hr⟩ := hargs.get t x hx
      have : (vs.toArray ++ Array.replicate (fn.ntmps - vs.toArray.size) Go.undef).getD t Go.undef = v := by
        have hlt : t < vs.length := by
          rcases Nat.lt_or_ge t vs.length with h | h
          · exact h
          · rw [List.getElem?_eq_none h] at hv; cases hv
        rw [Array.getD_eq_getD_getElem?, Array.getElem?_append_left (by simpa using hlt)]
        simp [hv]
      rw [this]
      exact RV.rep.mono (fun k hk hlt => ⟨rfl, fun _ => hk, fun p hp => hp.elim⟩) hr
  · obtain ⟨S, ⟨he, hres⟩, ρ, hR⟩ := hq
    have hrun : (results fn a'.tmps).run P w' = .ok (a'.tmps.getD t Go.undef) w' := by
      rw [results_eq, ht]
      simp [rdv]
    have key : ∃ us : List (List Value), w'.ownsRow w.heap.size e 1 (a'.tmps.getD t Go.undef) xs.length us.flatten ∧ All2 (All2 (FRep w' ok)) xs us := by
      have h1 := hR.slot t
      cases hres with
      | own hs hp hn =>
        rename_i p n
        rw [show S.e t = _ from hs.eq] at h1
        obtain ⟨l, hl, _, hv⟩ := h1
        have hE := hR.ent p
        rw [hp] at hE hl
        have hl : some xs.length = some l := hl
        cases hl
        obtain ⟨us, ho, hA, _, _⟩ := hE
        rw [hv hn]
        exact ⟨us, ho, all_scal hA hsc.sc⟩
      | nil hs hx =>
        rw [show S.e t = _ from hs.eq] at h1
        have h1 : a'.tmps.getD t Go.undef = .slice none 0 0 := h1
        rw [h1, hx]
        exact ⟨[], World.ownsRow_nil _ _ _ _, .nil⟩
    obtain ⟨us, ho, hA⟩ := key
    rcases he with rfl | rfl
    · exact ⟨hR.defers, _, hrun, _, rfl, hR.below, us, ho, hA⟩
    · exact ⟨hR.defers, _, hrun, _, rfl, hR.below, us, ho, hA⟩
theorem FnO.fn {P : Program} {f : FuncId} {args : List RV} {e : TypeId} {xs : List (List FV)} (h : FnO P f args e xs) (hsc : Sc xs) : Fn P f args (.one (.v (.sl xs))) := by
  intro w ok vs hargs
  refine (h w ok vs hargs).mono fun ex w' hq => ?_
  obtain ⟨v, rfl, hb, us, ho, hA⟩ := hq
  refine ⟨v, rfl, hb, ?_⟩
  show FRep _ _ (.sl xs) v
  exact rep_of_row ho (all_scal hA hsc.sc) hsc.len (by omega) (fun g hg hlt => by have := (ownsRow_blk ho g hg).1; omega) (row_le ho)
section
variable {P : Program} {ops : Array Oper} {N : Nat} {fin : St → List Rec → Prop} {l : List Oper} {E : List (Nat × Slot)} {O O' : List Ent} {rs : List Rec} {ty : TypeId} {pos : String} {after : Array Edge} {g : Option (Nat × Bool)}
theorem rCallO {d : Nat} {c : Operand} {args : Array Operand} {at_ : Array TypeId} {f : FuncId} [IsFn P f] {xs : List RV} {e : TypeId} {zs : List (List FV)} {p : Nat} {touch : List Nat} (hc : Opd E c (.r (.v (.fn f)))) (ha : Args E O touch args.toList xs) (hF : FnO P f xs e zs) (hsc : Sc zs)
    (hp : O.getD p .gone = .gone) (hO : SetAt O p (.row e 1 zs) O') (hd : d < N) (hw : W ops E g) (k : Runs P ops N fin l ⟨(d, .own p zs.length) :: E, O'⟩ (⟨.own p zs.length, some (p, .row e 1 zs), p :: touch⟩ :: rs)) :
    Runs P ops N fin (⟨some d, .call { callee := .value c, args := args, argTypes := at_ }, ty, pos, after, g⟩ :: l) ⟨E, O⟩ rs := by
  refine Runs.op (o := ⟨some d, .call { callee := .value c, args := args, argTypes := at_ }, ty, pos, after, g⟩) (r := ⟨.own p zs.length, some (p, .row e 1 zs), p :: touch⟩) ?_ hw.wants hO.eq.1 ?_
  · intro w0 ok0 ρ env' ents' a w hev ht hR K Q hK
    have he := (ht p (by simp)).trans hp
    have hr : ∀ x ∈ (Op.call { callee := .value c, args := args, argTypes := at_ }).operands, SlotRep w (okS w0 ok0 ents' ρ) ents' ρ (ev (look E) x) (a.eval x) := fun x hx => by
      rw [show ev (look E) x = _ from (hev x hx).symm]; exact hR.ev x
    have h1 := hr c (by simp [Op.operands, Call.operands]); rw [hc.eq] at h1
    have hv : a.eval c = .func (.func f) #[] #[] := by
      generalize a.eval c = v at h1
      have h1 : FRep _ _ (.fn f) v := h1
      cases h1
      rfl
    have hrep := ha.rep (a := a) (fun x hx => hr x (by simp only [Op.operands, Call.operands]; exact Array.mem_append.2 (.inr (Array.mem_toList_iff.1 hx)))) (fun q hq => ht q (.tail _ hq)) hR.ent
    unfold Oper.wp
    have hrun : (execOp a.eval ⟨some d, .call { callee := .value c, args := args, argTypes := at_ }, ty, pos, after, g⟩).run P w = .ok (.enter f (args.map a.eval)) w := by
      simp [execOp, resolve, hv, Deferred.ofValue, invoke, run_enter]
    rw [hrun]
    have hargs : (args.map a.eval) = (args.toList.map a.eval).toArray := by
      rw [← Array.toList_map, Array.toArray_toList]
    rw [hargs]
    refine (hF w _ _ hrep).mono fun ex w' h => ?_
    obtain ⟨v, rfl, hb, us, ho, hA⟩ := h
    have hR' := hR.fresh p he (.row e 1 zs) v hb (fun g' _ hg => (ownsRow_blk ho g' hg).1) (fun hk => ⟨us, by rw [upd_same]; exact ⟨ho.1, ho.2.imp id fun ⟨g, cap, cur, h1, h2, h3⟩ => ⟨g, cap, cur, h1, Nat.le_trans hR.below.size h2, h3⟩⟩, all_scal hA hsc.sc, hsc.len, by omega⟩)
    exact hK _ _ ⟨_, hR'.put (some d) (fun d' h => by cases h; exact hd) ⟨zs.length, by rw [upd_same]; rfl, Nat.le_refl _, fun _ => by rw [upd_same]⟩⟩
  · have : (St.step ⟨E, O⟩ (some d) ⟨.own p zs.length, some (p, .row e 1 zs), p :: touch⟩) = ⟨(d, .own p zs.length) :: E, O'⟩ := by
      show (⟨putE E (some d) _, setE O (some (p, _))⟩ : St) = _
      rw [hO.eq.2]; rfl
    show Runs P ops N fin l (St.step ⟨E, O⟩ (some d) _) _
    rw [this]
    exact k
end
/-! ### The same, their side conditions by themselves -/
section
variable {P : Program} {ops : Array Oper} {N : Nat} {fin : St → List Rec → Prop} {l : List Oper} {E : List (Nat × Slot)} {O O' : List Ent} {rs : List Rec} {d : Nat} {ty : TypeId} {pos : String} {after : Array Edge} {g : Option (Nat × Bool)}
theorem mk (p : Nat) {x : Operand} {t e sz bytes : Nat} [Sli P t e sz bytes] {zs : List Slot} [Zero P e zs] {n : Nat} {kk : IntKind} (k : Runs P ops N fin l ⟨(d, .own p n) :: E, O'⟩ (⟨.own p n, some (p, .row e sz (List.replicate n (zs.map Slot.fz))), [p]⟩ :: rs))
    (hx : Opd E x (.r (.v (.i kk (n : Int)))) := by first | exact Opd.int _ _ | exact Opd.bool _ | exact Opd.nil | exact Opd.fn _ | exact Opd.str _ | (apply Opd.tmp; ((repeat apply Look.there rfl); exact Look.here))) (hz : zs.length = sz := by exact rfl) (hb : bytes * n ≤ 281474976710656 := by first | omega | (simp; done) | (simp; omega)) (h63 : n ≤ 9223372036854775807 := by first | omega | (simp; done) | (simp; omega))
    (hO : SetAt O p (.row e sz (List.replicate n (zs.map Slot.fz))) O' := by ((repeat apply SetAt.there); exact SetAt.new)) (hp : O.getD p .gone = .gone := by exact rfl) (hd : d < N := by decide) (hw : W ops E g := by first | exact W.none | (apply wof rfl; ((repeat apply Look.there rfl); exact Look.here); first | assumption | exact rfl)) : Runs P ops N fin (⟨some d, .makeSlice t x x, ty, pos, after, g⟩ :: l) ⟨E, O⟩ rs := rMk hx hp hz hb h63 hO hd hw k
theorem so (i j : Nat) {t : TypeId} [Plain P t] {x y : Operand} {p n o e sz : Nat} {xs : List (List FV)} {cs : List FV} {c : FV} (k : Runs P ops N fin l ⟨E, O'⟩ (⟨.undef, some (p, .row e sz (xs.set i (cs.set j c))), [p]⟩ :: rs))
    (hx : Opd E x (.op p n o) := by first | exact Opd.int _ _ | exact Opd.bool _ | exact Opd.nil | exact Opd.fn _ | exact Opd.str _ | (apply Opd.tmp; ((repeat apply Look.there rfl); exact Look.here))) (hy : Opd E y (.r (.v c)) := by first | exact Opd.int _ _ | exact Opd.bool _ | exact Opd.nil | exact Opd.fn _ | exact Opd.str _ | (apply Opd.tmp; ((repeat apply Look.there rfl); exact Look.here))) (hp : O.getD p .gone = .row e sz xs := by exact rfl) (hn : n = xs.length := by first | assumption | exact rfl | (simp; done) | (simp; omega) | omega)
    (ho : o = i * sz + j := by exact rfl) (hi : xs[i]? = some cs := by first | exact get_map (by assumption) | assumption | exact rfl) (hj : j < cs.length := by first | decide | (simp; done) | (simp; omega))
    (hO : SetAt O p (.row e sz (xs.set i (cs.set j c))) O' := by ((repeat apply SetAt.there); first | exact SetAt.here | exact SetAt.new)) (hw : W ops E g := by first | exact W.none | (apply wof rfl; ((repeat apply Look.there rfl); exact Look.here); first | assumption | exact rfl)) : Runs P ops N fin (⟨none, .store t x y, ty, pos, after, g⟩ :: l) ⟨E, O⟩ rs := rSo hx hy hp hn ho hi hj hO hw k
theorem clO (p : Nat) {c : Operand} {args : Array Operand} {at_ : Array TypeId} {f : FuncId} [IsFn P f] {xs : List RV} {e : TypeId} {zs : List (List FV)} (hF : FnO P f xs e zs) (hsc : Sc zs) (k : Runs P ops N fin l ⟨(d, .own p zs.length) :: E, O'⟩ (⟨.own p zs.length, some (p, .row e 1 zs), [p]⟩ :: rs))
    (hc : Opd E c (.r (.v (.fn f))) := by first | exact Opd.int _ _ | exact Opd.bool _ | exact Opd.nil | exact Opd.fn _ | exact Opd.str _ | (apply Opd.tmp; ((repeat apply Look.there rfl); exact Look.here))) (ha : Args E O [] args.toList xs := by ((repeat (apply Args.cons (by first | exact Opd.int _ _ | exact Opd.bool _ | exact Opd.nil | exact Opd.fn _ | exact Opd.str _ | (apply Opd.tmp; ((repeat apply Look.there rfl); exact Look.here))) (by first | exact fun _ _ => IsD.f (IsF.v _) | exact fun _ _ => IsD.agg _ | exact fun _ _ => IsD.f IsF.nil))); exact Args.nil)) (hp : O.getD p .gone = .gone := by exact rfl) (hO : SetAt O p (.row e 1 zs) O' := by ((repeat apply SetAt.there); exact SetAt.new)) (hd : d < N := by decide) (hw : W ops E g := by first | exact W.none | (apply wof rfl; ((repeat apply Look.there rfl); exact Look.here); first | assumption | exact rfl)) :
    Runs P ops N fin (⟨some d, .call { callee := .value c, args := args, argTypes := at_ }, ty, pos, after, g⟩ :: l) ⟨E, O⟩ rs := rCallO hc ha hF hsc hp hO hd hw k
end
/-- A row that is being filled: the first k are what they shall be, the others 0. -/
def fillv (l : List Int) (k : Nat) : List Int := l.take k ++ List.replicate (l.length - k) 0
@[simp] theorem fillv_len (l : List Int) (k : Nat) : (fillv l k).length = l.length := by simp [fillv]; omega
theorem fillv_zero (l : List Int) : fillv l 0 = List.replicate l.length 0 := by simp [fillv]
theorem fillv_all (l : List Int) : fillv l l.length = l := by simp [fillv]
theorem fillv_get {l : List Int} {k : Nat} (h : k < l.length) : (fillv l k)[k]? = some 0 := by
  rw [fillv, List.getElem?_append_right (by simp; omega)]
  simp only [List.length_take, List.getElem?_replicate]
  rw [if_pos (by omega)]
theorem fillv_set {l : List Int} {k : Nat} {x : Int} (h : l[k]? = some x) : (fillv l k).set k x = fillv l (k + 1) := by
  have hk := (List.getElem?_eq_some_iff.1 h).1
  have hm : (l.take k).length = k := by rw [List.length_take]; omega
  rw [fillv, fillv, List.set_append, if_neg (by omega), hm, Nat.sub_self, List.take_add_one, h, show l.length - k = (l.length - (k + 1)) + 1 by omega, List.replicate_succ, List.set_cons_zero]
  simp
end Go.Proofs.Ytnhljpbpfaablaa.VS
