/- Value semantics, part 8: the rules of a region's operations that make or turn what the call owns. Conditions: none. -/
import Derived.Test.YtnhljpbpfaablaaV7
import Derived.Laws.CopyRow
set_option linter.unusedSimpArgs false
set_option linter.unusedVariables false
namespace Go.Proofs.Ytnhljpbpfaablaa.VS
open Go Go.RowKit

/-! ### 1. Entries, in place -/
inductive SetAt : List Ent → Nat → Ent → List Ent → Prop
  | new {e : Ent} : SetAt [] 0 e [e]
  | here {a e : Ent} {l : List Ent} : SetAt (a :: l) 0 e (e :: l)
  | there {a e : Ent} {l l' : List Ent} {p : Nat} (h : SetAt l p e l') : SetAt (a :: l) (p + 1) e (a :: l')
theorem SetAt.eq {l l' : List Ent} {p : Nat} {e : Ent} (h : SetAt l p e l') : p ≤ l.length ∧ setE l (some (p, e)) = l' := by
  induction h with
  | new => exact ⟨Nat.le_refl _, rfl⟩
  | here => exact ⟨Nat.zero_le _, by simp [setE]⟩
  | there _ ih =>
    obtain ⟨h1, h2⟩ := ih
    refine ⟨by simp; omega, ?_⟩
    simp only [setE, List.length_cons] at h2 ⊢
    split at h2
    · rw [if_pos (by omega)]
      simp [h2]
    · rw [if_neg (by omega)]
      simp [h2]
/-- The cells of a variable, some of them written. -/
inductive SplAt : List Slot → Nat → List FV → List Slot → Prop
  | done {l : List Slot} : SplAt l 0 [] l
  | here {s : Slot} {c : FV} {cs : List FV} {l l' : List Slot} (h : SplAt l 0 cs l') : SplAt (s :: l) 0 (c :: cs) (.r (.v c) :: l')
  | there {s : Slot} {cs : List FV} {l l' : List Slot} {o : Nat} (h : SplAt l o cs l') : SplAt (s :: l) (o + 1) cs (s :: l')
theorem SplAt.eq {l l' : List Slot} {o : Nat} {cs : List FV} (h : SplAt l o cs l') : o + cs.length ≤ l.length ∧ l' = splice l o (cs.map fun c => .r (.v c)) := by
  induction h with
  | done => exact ⟨by simp, by simp [splice]⟩
  | here _ ih =>
    obtain ⟨h1, h2⟩ := ih
    refine ⟨by simp at h1 ⊢; omega, ?_⟩
    rw [h2]
    simp [splice]
  | there _ ih =>
    obtain ⟨h1, h2⟩ := ih
    refine ⟨by simp at h1 ⊢; omega, ?_⟩
    rw [h2]
    simp only [splice, List.take_succ_cons, List.cons_append, List.length_map, List.cons.injEq, true_and]
    rw [show _ + 1 + _ = (_ + _) + 1 from Nat.add_right_comm _ _ _]
    simp
theorem All2.mapL {α β γ : Type} {R : γ → β → Prop} {f : α → γ} {xs : List α} {ys : List β} (h : All2 (fun x y => R (f x) y) xs ys) : All2 R (xs.map f) ys := by
  induction h with
  | nil => exact .nil
  | cons a _ ih => exact .cons a ih
inductive PutAt : List Slot → Nat → Slot → List Slot → Prop
  | here {s c : Slot} {l : List Slot} : PutAt (s :: l) 0 c (c :: l)
  | there {s c : Slot} {l l' : List Slot} {o : Nat} (h : PutAt l o c l') : PutAt (s :: l) (o + 1) c (s :: l')
theorem PutAt.eq {l l' : List Slot} {o : Nat} {c : Slot} (h : PutAt l o c l') : o < l.length ∧ l' = l.set o c := by
  induction h with
  | here => exact ⟨by simp, rfl⟩
  | there _ ih => obtain ⟨h1, h2⟩ := ih; exact ⟨by simp; omega, by rw [h2]; rfl⟩

section
variable {P : Program} {ops : Array Oper} {N : Nat} {fin : St → List Rec → Prop} {l : List Oper} {E : List (Nat × Slot)} {O O' : List Ent} {rs : List Rec} {ty : TypeId} {pos : String} {after : Array Edge} {g : Option (Nat × Bool)}

/-- An operation that makes or turns entry p. -/
theorem rEff {dst : Option Nat} {op : Op} {s : Slot} {touch : List Nat} {p : Nat} {e : Ent} (hO : SetAt O p e O') (hd : ∀ d, dst = some d → d < N) (hw : W ops E g)
    (h : ∀ (w0 : World) (ok0 : Nat → Prop) (ρ : Nat → Value) (env' : Nat → Slot) (ents' : Nat → Ent) (a : Act) (w : World), (∀ x ∈ op.operands, SlotRep w (okS w0 ok0 ents' ρ) ents' ρ (ev (look E) x) (a.eval x)) →
      (∀ q ∈ p :: touch, ents' q = O.getD q .gone) → RelR N w0 ok0 ρ env' ents' a w →
      ∃ n v w' u, (execOp a.eval ⟨dst, op, ty, pos, after, g⟩).run P w = .ok n w' ∧ (n = .value v ∨ n = .skip ∧ v = Go.undef) ∧ RelR N w0 ok0 (upd ρ p u) env' (upd ents' p e) a w' ∧ SlotRep w' (okS w0 ok0 (upd ents' p e) (upd ρ p u)) (upd ents' p e) (upd ρ p u) s v)
    (k : Runs P ops N fin l ⟨putE E dst s, O'⟩ (⟨s, some (p, e), p :: touch⟩ :: rs)) : Runs P ops N fin (⟨dst, op, ty, pos, after, g⟩ :: l) ⟨E, O⟩ rs := by
  refine Runs.op (o := ⟨dst, op, ty, pos, after, g⟩) (r := ⟨s, some (p, e), p :: touch⟩) ?_ hw.wants hO.eq.1 ?_
  · intro w0 ok0 ρ env' ents' a w hev ht hR K Q hK
    obtain ⟨n, v, w', u, hrun, hn, hR', hs⟩ := h w0 ok0 ρ env' ents' a w (fun x hx => by rw [show ev (look E) x = _ from (hev x hx).symm]; exact hR.ev x) ht hR
    unfold Oper.wp
    rw [hrun]
    rcases hn with rfl | ⟨rfl, rfl⟩
    · exact hK _ _ ⟨_, hR'.put dst hd hs⟩
    · exact hK _ _ ⟨_, hR'.put dst hd hs⟩
  · have : (St.step ⟨E, O⟩ dst ⟨s, some (p, e), p :: touch⟩) = ⟨putE E dst s, O'⟩ := by
      show (⟨putE E dst s, setE O (some (p, e))⟩ : St) = _
      rw [hO.eq.2]
    show Runs P ops N fin l (St.step ⟨E, O⟩ dst ⟨s, some (p, e), p :: touch⟩) _
    rw [this]
    exact k

theorem upd_same {α : Type} (f : Nat → α) (p : Nat) (x : α) : upd f p x p = x := by simp [upd]
theorem upd_ne {α : Type} (f : Nat → α) (p q : Nat) (x : α) (h : q ≠ p) : upd f p x q = f q := by simp [upd, h]

/-- A new entry. -/
theorem RelR.fresh {w0 : World} {ok0 : Nat → Prop} {ρ : Nat → Value} {env : Nat → Slot} {ents : Nat → Ent} {a : Act} {w w' : World} (h : RelR N w0 ok0 ρ env ents a w) (p : Nat) (hp : ents p = .gone) (e : Ent) (u : Value)
    (hb : Below w.heap.size w w') (hu : ∀ g, e.live → blk u = some g → w.heap.size ≤ g)
    (he : Keeps w w' (okS w0 ok0 ents ρ) (okS w0 ok0 (upd ents p e) (upd ρ p u)) → EntRep w' (okS w0 ok0 (upd ents p e) (upd ρ p u)) (upd ents p e) (upd ρ p u) w0.heap.size p e) :
    RelR N w0 ok0 (upd ρ p u) env (upd ents p e) a w' := by
  refine h.move p (h.below.trans (hb.mono h.below.size)) (fun k hk _ => hb.block k hk) (fun q hq => ⟨upd_ne _ _ _ _ hq, upd_ne _ _ _ _ hq⟩) ⟨fun ty cs hx => (by rw [hp] at hx; cases hx), fun l hx => (by rw [hp] at hx; cases hx)⟩
    (fun g h1 h2 => .inr (hu g (by rw [upd_same] at h1; exact h1) (by rw [upd_same] at h2; exact h2))) (fun _ hk => by rw [upd_same]; exact he hk)

/-! ### 2. Variables -/
theorem rAl {d p : Nat} {t : TypeId} {zs : List Slot} [Zero P t zs] (hp : O.getD p .gone = .gone) (hO : SetAt O p (.box t zs) O') (hd : d < N) (hw : W ops E g)
    (k : Runs P ops N fin l ⟨(d, .box p 0) :: E, O'⟩ (⟨.box p 0, some (p, .box t zs), [p]⟩ :: rs)) : Runs P ops N fin (⟨some d, .alloc t, ty, pos, after, g⟩ :: l) ⟨E, O⟩ rs := by
  refine rEff (s := .box p 0) (touch := []) hO (fun d' h => by cases h; exact hd) hw (fun w0 ok0 ρ env' ents' a w hr ht hR => ?_) k
  obtain ⟨i, z, vs, h1, h2, h3, h4⟩ := Zero.h (P := P) (t := t) (zs := zs)
  have hg := (ht p (by simp)).trans hp
  refine ⟨_, .pointer (some ⟨w.heap.size, 0, none⟩), w.alloc (.cells vs.toArray t), .pointer (some ⟨w.heap.size, 0, none⟩), ?_, .inl rfl, ?_, ?_⟩
  · simp [execOp, Instr.alloc, zeroValue, typeInfo, h1, h2, newVar, newRow, newObj, Sem.run, h3]
  · refine hR.fresh p hg _ _ ((Below.refl _ _).alloc (Nat.le_refl _) _) (fun g _ h => by cases h; exact Nat.le_refl _) (fun hk => ?_)
    refine ⟨w.heap.size, vs, upd_same _ _ _, hR.below.size, heap_alloc_new w _, ?_, ?_⟩
    · exact h4.imp fun s v h => (h.rep _ _ _ _).1
    · intro u hu
      obtain ⟨j, hj⟩ := List.getElem?_of_mem hu
      obtain ⟨s, _, hz⟩ := h4.get' j u hj
      exact (hz.rep w (fun _ => True) ents' ρ).2.2
  · exact ⟨t, zs, w.heap.size, upd_same _ _ _, upd_same _ _ _, rfl⟩
/-- A slot of one cell, as it may lie in a variable. -/
inductive Cellish : Slot → Prop
  | nil : Cellish .nil
  | v (x : FV) : Cellish (.r (.v x))
theorem rBx {d p : Nat} {t : TypeId} {n : Nat} [Agg P t n] {x : Operand} {cs : List FV} {zs : List Slot} (hx : Opd E x (.r (.agg cs))) (hz : SplAt zs 0 cs zs) (hl : zs.length = cs.length) (hp : O.getD p .gone = .gone) (hO : SetAt O p (.box t zs) O') (hd : d < N) (hw : W ops E g)
    (k : Runs P ops N fin l ⟨(d, .box p 0) :: E, O'⟩ (⟨.box p 0, some (p, .box t zs), [p]⟩ :: rs)) : Runs P ops N fin (⟨some d, .box t x, ty, pos, after, g⟩ :: l) ⟨E, O⟩ rs := by
  refine rEff (s := .box p 0) (touch := []) hO (fun d' h => by cases h; exact hd) hw (fun w0 ok0 ρ env' ents' a w hr ht hR => ?_) k
  have hg := (ht p (by simp)).trans hp
  have h1 := hr x (by simp [Op.operands]); rw [hx.eq] at h1
  obtain ⟨vs, hv, hA⟩ := h1
  refine ⟨_, .pointer (some ⟨w.heap.size, 0, none⟩), w.alloc (.cells vs.toArray t), .pointer (some ⟨w.heap.size, 0, none⟩), ?_, .inl rfl, ?_, ?_⟩
  · simp [execOp, Instr.box, hv, newVar, newRow, newObj, Sem.run, Value.cells]
  · refine hR.fresh p hg _ _ ((Below.refl _ _).alloc (Nat.le_refl _) _) (fun g _ h => by cases h; exact Nat.le_refl _) (fun hk => ?_)
    refine ⟨w.heap.size, vs, upd_same _ _ _, hR.below.size, heap_alloc_new w _, ?_, all_oneCell hA⟩
    have h2 : zs = cs.map fun c => .r (.v c) := by
      have := hz.eq.2
      rw [this]
      simp only [splice, List.take_zero, List.nil_append, List.length_map, Nat.zero_add]
      rw [List.drop_eq_nil_of_le (by omega), List.append_nil]
    have hA' : All2 (SlotRep (w.alloc (.cells vs.toArray t)) (okS w0 ok0 (upd ents' p (.box t zs)) (upd ρ p (.pointer (some ⟨w.heap.size, 0, none⟩)))) (upd ents' p (.box t zs)) (upd ρ p (.pointer (some ⟨w.heap.size, 0, none⟩)))) (cs.map fun c => .r (.v c)) vs :=
      All2.mapL (hA.imp (fun _ _ h => FRep.mono hk h))
    rwa [← h2] at hA'
  · exact ⟨t, zs, w.heap.size, upd_same _ _ _, upd_same _ _ _, rfl⟩

/-- A store into a variable: what is behind. -/
theorem RelR.stored {w0 : World} {ok0 : Nat → Prop} {ρ : Nat → Value} {env : Nat → Slot} {ents : Nat → Ent} {a : Act} {w : World} (h : RelR N w0 ok0 ρ env ents a w) {p g t : Nat} {cs cs' : List Slot} {vs vs' : List Value} (hp : ents p = .box t cs)
    (hr : ρ p = .pointer (some ⟨g, 0, none⟩)) (hh : w.heap[g]? = some (.cells vs.toArray t (0, 0))) (hb : w0.heap.size ≤ g)
    (hA : ∀ w' ok' ents', (∀ q, Compat ents ents' ρ ρ q) → Keeps w w' (okS w0 ok0 ents ρ) ok' → All2 (SlotRep w' ok' ents' ρ) cs' vs') (h1 : ∀ u ∈ vs', u.oneCell' = true) :
    RelR N w0 ok0 ρ env (upd ents p (.box t cs')) a (w.setRow g vs'.toArray) := by
  have hheap : (w.setRow g vs'.toArray).heap[g]? = some (.cells vs'.toArray t (0, 0)) := setRow_heap w g _ _ t _ hh
  have hother : ∀ k, k ≠ g → (w.setRow g vs'.toArray).heap[k]? = w.heap[k]? := fun k hk => setRow_other w g k _ hk
  have hlt : g < w.heap.size := (Array.getElem?_eq_some_iff.1 hh).1
  refine h.move (ρ' := ρ) p ?_ (fun k hk hne => hother k (fun e => ?_)) (fun q hq => ⟨upd_ne _ _ _ _ hq, rfl⟩) ⟨fun ty cs0 hx => ?_, fun l hx => (by rw [hp] at hx; cases hx)⟩ (fun g' _ h2 => .inl ⟨by rw [hp]; trivial, h2⟩) (fun hcc hk => ?_)
  · exact h.below.trans ⟨rfl, rfl, rfl, by simp [World.setRow], fun k hk => hother k (by omega)⟩
  · exact hne (by rw [hp]; trivial) (by rw [hr, e]; rfl)
  · rw [hp] at hx
    cases hx
    exact ⟨⟨cs', upd_same _ _ _⟩, rfl⟩
  · rw [upd_same]
    exact ⟨g, vs', hr, hb, hheap, hA _ _ _ hcc hk, h1⟩
theorem run_store1 {w : World} {t : TypeId} [Plain P t] {g o : Nat} {ty : TypeId} {vs : List Value} {v : Value} (hh : w.heap[g]? = some (.cells vs.toArray ty (0, 0))) (ho : o < vs.length) (h1 : v.oneCell' = true) (hc : v.cells = #[v]) :
    (Instr.storeAt t (.pointer (some ⟨g, o, none⟩)) v).run P w = .ok () (w.setRow g (vs.set o v).toArray) := by
  obtain ⟨d, i, _, _, h3, h4⟩ := Plain.spec (P := P) t
  have hst := run_storeCells_at (P := P) g o ty [v] 0 vs.toArray w hh (by simp; omega) (fun u hu => by simp at hu; subst hu; exact h1)
  simp only [Nat.add_zero] at hst
  have he : (vs.take o ++ [v] ++ vs.drop (o + [v].length)) = vs.set o v := by
    rw [List.set_eq_take_append_cons_drop, if_pos ho]; simp
  simp only [Instr.storeAt, Instr.sureAddr, Sem.run_bind, Sem.run_pure, Result.andThen_ok, storeVar, sizeOf, typeInfo, run_program, h3, h4, hc]
  simp only [he] at hst
  simpa using hst
/-- A store of one cell. -/
theorem rS1 {t : TypeId} [Plain P t] {x y : Operand} {p o t' : Nat} {cs cs' : List Slot} {s : Slot} (hx : Opd E x (.box p o)) (hy : Opd E y s) (hs : Cellish s) (hp : O.getD p .gone = .box t' cs) (hc : PutAt cs o s cs') (hO : SetAt O p (.box t' cs') O') (hw : W ops E g)
    (k : Runs P ops N fin l ⟨E, O'⟩ (⟨.undef, some (p, .box t' cs'), [p]⟩ :: rs)) : Runs P ops N fin (⟨none, .store t x y, ty, pos, after, g⟩ :: l) ⟨E, O⟩ rs := by
  refine rEff (s := .undef) (touch := []) hO (fun d' h => by cases h) hw (fun w0 ok0 ρ env' ents' a w hr ht hR => ?_) k
  have he := (ht p (by simp)).trans hp
  have h1 := hr x (by simp [Op.operands]); rw [hx.eq] at h1
  have h2 := hr y (by simp [Op.operands]); rw [hy.eq] at h2
  have hE := hR.ent p
  rw [he] at hE
  obtain ⟨gg, vs, hρ, hb, hh, hA, hone⟩ := hE
  obtain ⟨ty', cs0, g', _, h3, h4⟩ := h1
  rw [hρ] at h3
  cases h3
  have hv1 : (a.eval y).oneCell' = true ∧ (a.eval y).cells = #[a.eval y] := by
    cases hs with
    | nil => have h2 : a.eval y = .slice none 0 0 := h2; rw [h2]; exact ⟨rfl, rfl⟩
    | v z => exact ⟨FRep.oneCell h2, FRep.cells h2⟩
  have hlen := hA.length
  have hus : upd ρ p (ρ p) = ρ := by funext q; by_cases hq : q = p <;> simp [upd, hq]
  refine ⟨.skip, Go.undef, w.setRow gg (vs.set o (a.eval y)).toArray, ρ p, ?_, .inr ⟨rfl, rfl⟩, ?_, trivial⟩
  · simp only [execOp, h4, Sem.run_bind, run_store1 (P := P) (t := t) (o := o) hh (by rw [← hlen]; exact hc.eq.1) hv1.1 hv1.2, Result.andThen_ok, Sem.run_pure]
  · rw [hus]
    refine hR.stored he hρ hh hb (fun w' ok' ents'' hcc hk => ?_) (fun u hu => ?_)
    · rw [hc.eq.2]
      exact (hA.imp fun _ _ => SlotRep.step hcc hk).set (h2.step hcc hk) o
    · rcases List.mem_or_eq_of_mem_set hu with h | h
      · exact hone u h
      · rw [h]; exact hv1.1
/-- A store of a row of the call's own into a variable's cell. -/
theorem rS1w {t : TypeId} [Plain P t] {x y : Operand} {p o t' q n : Nat} {cs cs' : List Slot} (hx : Opd E x (.box p o)) (hy : Opd E y (.own q n)) (hq : (O.getD q .gone).len? = some n) (hp : O.getD p .gone = .box t' cs) (hc : PutAt cs o (.own q n) cs') (hO : SetAt O p (.box t' cs') O') (hw : W ops E g)
    (k : Runs P ops N fin l ⟨E, O'⟩ (⟨.undef, some (p, .box t' cs'), [p, q]⟩ :: rs)) : Runs P ops N fin (⟨none, .store t x y, ty, pos, after, g⟩ :: l) ⟨E, O⟩ rs := by
  refine rEff (s := .undef) (touch := [q]) hO (fun d' h => by cases h) hw (fun w0 ok0 ρ env' ents' a w hr ht hR => ?_) k
  have he := (ht p (by simp)).trans hp
  have h1 := hr x (by simp [Op.operands]); rw [hx.eq] at h1
  have h2 := hr y (by simp [Op.operands]); rw [hy.eq] at h2
  have hE := hR.ent p
  rw [he] at hE
  obtain ⟨gg, vs, hρ, hb, hh, hA, hone⟩ := hE
  obtain ⟨ty', cs0, g', _, h3, h4⟩ := h1
  rw [hρ] at h3
  cases h3
  have hv1 : (a.eval y).oneCell' = true ∧ (a.eval y).cells = #[a.eval y] := by
    obtain ⟨ll, hl, hle, hv⟩ := h2
    have heq := ht q (by simp)
    have hl' := hl
    rw [heq, hq] at hl'
    cases hl'
    rw [hv rfl]
    have hEq := hR.ent q
    cases hx : ents' q with
    | gone => rw [hx] at hl; cases hl
    | box => rw [hx] at hl; cases hl
    | fro xs => rw [hx] at hEq; exact ⟨FRep.oneCell hEq, FRep.cells hEq⟩
    | sav K => rw [hx] at hl; cases hl
    | row e sz xs =>
      rw [hx] at hEq
      obtain ⟨_, ho, _⟩ := hEq
      rcases ho.2 with ⟨h5, _⟩ | ⟨_, _, _, h5, _⟩ <;> rw [h5] <;> exact ⟨rfl, rfl⟩
  have hlen := hA.length
  have hus : upd ρ p (ρ p) = ρ := by funext q; by_cases hq : q = p <;> simp [upd, hq]
  refine ⟨.skip, Go.undef, w.setRow gg (vs.set o (a.eval y)).toArray, ρ p, ?_, .inr ⟨rfl, rfl⟩, ?_, trivial⟩
  · simp only [execOp, h4, Sem.run_bind, run_store1 (P := P) (t := t) (o := o) hh (by rw [← hlen]; exact hc.eq.1) hv1.1 hv1.2, Result.andThen_ok, Sem.run_pure]
  · rw [hus]
    refine hR.stored he hρ hh hb (fun w' ok' ents'' hcc hk => ?_) (fun u hu => ?_)
    · rw [hc.eq.2]
      exact (hA.imp fun _ _ => SlotRep.step hcc hk).set (h2.step hcc hk) o
    · rcases List.mem_or_eq_of_mem_set hu with h | h
      · exact hone u h
      · rw [h]; exact hv1.1
theorem run_storeA {w : World} {t n : Nat} [Agg P t n] {g o : Nat} {ty : TypeId} {cur : Array Value} {us : List Value} (hh : w.heap[g]? = some (.cells cur ty (0, 0))) (ho : o + us.length ≤ cur.size) (hn : us.length = n) (h1 : ∀ u ∈ us, u.oneCell' = true) :
    (Instr.storeAt t (.pointer (some ⟨g, o, none⟩)) (.agg us.toArray)).run P w = .ok () (w.setRow g (splice cur.toList o us).toArray) := by
  obtain ⟨d, i, _, _, h3, h4⟩ := Agg.spec (P := P) t n
  have hst := run_storeCells_at (P := P) g o ty us 0 cur w hh (by omega) h1
  simp only [Nat.add_zero] at hst
  simp only [Instr.storeAt, Instr.sureAddr, Sem.run_bind, Sem.run_pure, Result.andThen_ok, storeVar, sizeOf, typeInfo, run_program, h3, h4, Value.cells]
  simpa [hn, splice] using hst
theorem splice_all2 {α β : Type} {R : α → β → Prop} {xs new : List α} {ys new' : List β} (h : All2 R xs ys) (hn : All2 R new new') (o : Nat) : All2 R (splice xs o new) (splice ys o new') := by
  unfold splice
  rw [hn.length]
  exact ((h.take o).append hn).append (h.drop _)
theorem mem_splice {α : Type} {xs new : List α} {o : Nat} {u : α} (h : u ∈ splice xs o new) : u ∈ xs ∨ u ∈ new := by
  unfold splice at h
  rcases List.mem_append.1 h with h | h
  · rcases List.mem_append.1 h with h | h
    · exact .inl (List.mem_of_mem_take h)
    · exact .inr h
  · exact .inl (List.mem_of_mem_drop h)
/-- A store of a struct or an array. -/
theorem rSA {t n : Nat} [Agg P t n] {x y : Operand} {p o t' : Nat} {cs cs' : List Slot} {fs : List FV} (hx : Opd E x (.box p o)) (hy : Opd E y (.r (.agg fs))) (hn : fs.length = n) (hp : O.getD p .gone = .box t' cs) (hc : SplAt cs o fs cs') (hO : SetAt O p (.box t' cs') O') (hw : W ops E g)
    (k : Runs P ops N fin l ⟨E, O'⟩ (⟨.undef, some (p, .box t' cs'), [p]⟩ :: rs)) : Runs P ops N fin (⟨none, .store t x y, ty, pos, after, g⟩ :: l) ⟨E, O⟩ rs := by
  refine rEff (s := .undef) (touch := []) hO (fun d' h => by cases h) hw (fun w0 ok0 ρ env' ents' a w hr ht hR => ?_) k
  have he := (ht p (by simp)).trans hp
  have h1 := hr x (by simp [Op.operands]); rw [hx.eq] at h1
  have h2 := hr y (by simp [Op.operands]); rw [hy.eq] at h2
  have hE := hR.ent p
  rw [he] at hE
  obtain ⟨gg, vs, hρ, hb, hh, hA, hone⟩ := hE
  obtain ⟨ty', cs0, g', _, h3, h4⟩ := h1
  rw [hρ] at h3
  cases h3
  obtain ⟨us, hv, hU⟩ := h2
  have hlen := hA.length
  have hus : upd ρ p (ρ p) = ρ := by funext q; by_cases hq : q = p <;> simp [upd, hq]
  have hle := hc.eq.1
  have hul := hU.length
  refine ⟨.skip, Go.undef, w.setRow gg (splice vs o us).toArray, ρ p, ?_, .inr ⟨rfl, rfl⟩, ?_, trivial⟩
  · have := run_storeA (P := P) (t := t) (n := n) (o := o) hh (us := us) (by simp; omega) (by omega) (all_oneCell hU)
    simp only [execOp, h4, hv, Sem.run_bind, this, Result.andThen_ok, Sem.run_pure]
  · rw [hus]
    refine hR.stored he hρ hh hb (fun w' ok' ents'' hcc hk => ?_) (fun u hu => ?_)
    · rw [hc.eq.2]
      exact splice_all2 (hA.imp fun _ _ => SlotRep.step hcc hk) (All2.mapL (hU.imp fun _ _ h => FRep.mono hk h)) o
    · rcases mem_splice hu with h | h
      · exact hone u h
      · exact all_oneCell hU u h

/-! ### 3. Rows -/
/-- Entry p is a row: it turns into another row (or into one that is turned no more). -/
theorem RelR.rowed {w0 : World} {ok0 : Nat → Prop} {ρ : Nat → Value} {env : Nat → Slot} {ents : Nat → Ent} {a : Act} {w w' : World} (h : RelR N w0 ok0 ρ env ents a w) {p e sz : Nat} {xs xs' : List (List FV)} {u : Value} (hp : ents p = .row e sz xs)
    (hg : w.grownBy w' (ρ p).ownBlock) (hlen : xs.length ≤ xs'.length) (hsame : xs.length = xs'.length → u = ρ p) (hu : ∀ g, blk u = some g → blk (ρ p) = some g ∨ w.heap.size ≤ g)
    (he : Keeps w w' (okS w0 ok0 ents ρ) (okS w0 ok0 (upd ents p (.row e sz xs')) (upd ρ p u)) → EntRep w' (okS w0 ok0 (upd ents p (.row e sz xs')) (upd ρ p u)) (upd ents p (.row e sz xs')) (upd ρ p u) w0.heap.size p (.row e sz xs')) :
    RelR N w0 ok0 (upd ρ p u) env (upd ents p (.row e sz xs')) a w' := by
  have hown : (ρ p).ownBlock = blk (ρ p) := by
    have hE := h.ent p
    rw [hp] at hE
    obtain ⟨_, ho, _⟩ := hE
    rcases ho.2 with ⟨h5, _⟩ | ⟨_, _, _, h5, _⟩ <;> rw [h5] <;> rfl
  have hbase : ∀ k, (ρ p).ownBlock = some k → w0.heap.size ≤ k := fun k hk => (h.blk_lt (by rw [hp]; trivial) (by rw [← hown]; exact hk)).1
  refine h.move p (h.below.grown hg h.below.size hbase) (fun k hk hne => hg.block k hk (fun e => hne (by rw [hp]; trivial) (by rw [← hown, e]))) (fun q hq => ⟨upd_ne _ _ _ _ hq, upd_ne _ _ _ _ hq⟩)
    ⟨fun ty cs hx => (by rw [hp] at hx; cases hx), fun l hl => ?_⟩ (fun g' h1 h2 => ?_) (fun _ hk => by rw [upd_same]; exact he hk)
  · rw [hp] at hl
    have hl : some xs.length = some l := hl
    cases hl
    exact ⟨xs'.length, by rw [upd_same]; rfl, hlen, fun e => by rw [upd_same]; exact hsame e⟩
  · rw [upd_same] at h2
    rcases hu g' h2 with h3 | h3
    · exact .inl ⟨by rw [hp]; trivial, h3⟩
    · exact .inr h3

theorem rep_rows {w : World} {ok : Nat → Prop} {ys : List (List FV)} {A : Option Addr} {n c sz : Nat} (h : FRep w ok (.sl ys) (.slice A n c)) (hs : ∀ y ∈ ys, y.length = sz) (h0 : 0 < sz) :
    n = ys.length ∧ ∃ vs : List (List Value), All2 (All2 (FRep w ok)) ys vs ∧ (ys = [] ∨ ∃ ad, A = some ad ∧ ∀ j u, vs.flatten[j]? = some u → w.cell? (ad.add j) = some u) := by
  cases h with
  | sl _ _ _ _ sz' vs hn hc hm hsz hA hv =>
    refine ⟨hn, ys.mapIdx fun j y => (List.range y.length).map (vs j), ?_, ?_⟩
    · refine .of_get (by simp) (fun j y v hy hv' => ?_)
      rw [List.getElem?_mapIdx, hy] at hv'
      simp at hv'
      subst hv'
      refine .of_get (by simp) (fun i c u hc hu => ?_)
      have hi : i < y.length := by
        rcases Nat.lt_or_ge i y.length with h | h
        · exact h
        · rw [List.getElem?_eq_none h] at hc; cases hc
      simp [hi] at hu
      subst hu
      exact hv j i y c hy hc
    · rcases Nat.eq_zero_or_pos ys.length with h | h
      · exact .inl (List.eq_nil_of_length_eq_zero h)
      · right
        obtain ⟨ad, rfl, hcell⟩ := hA (by omega)
        have hsz' : sz' = sz := by
          have h1 : ys[0]? = some ys[0] := List.getElem?_eq_getElem h
          rw [← hsz ys[0] (List.mem_of_getElem? h1), hs ys[0] (List.mem_of_getElem? h1)]
        subst hsz'
        refine ⟨ad, rfl, fun j u hu => ?_⟩
        have hall : ∀ x ∈ ys.mapIdx (fun j y => (List.range y.length).map (vs j)), x.length = sz' := by
          intro x hx
          rw [List.mem_mapIdx] at hx
          obtain ⟨i, hi, rfl⟩ := hx
          simp [hs ys[i] (List.getElem_mem hi)]
        obtain ⟨x, hx1, hx2⟩ := flat_at hall h0 hu
        rw [List.getElem?_mapIdx] at hx1
        cases hy : ys[j / sz']? with
        | none => rw [hy] at hx1; cases hx1
        | some y =>
          rw [hy] at hx1
          simp at hx1
          subst hx1
          have hlt : j / sz' < ys.length := by
            rcases Nat.lt_or_ge (j / sz') ys.length with h | h
            · exact h
            · rw [List.getElem?_eq_none h] at hy; cases hy
          have hm : j % sz' < sz' := Nat.mod_lt j h0
          have hyl := hs y (List.mem_of_getElem? hy)
          simp [hyl, hm] at hx2
          subst hx2
          have := (hcell (j / sz') (j % sz') (by omega) hm).2
          rwa [Nat.mul_comm, Nat.div_add_mod] at this
/-- A row as a value that nothing turns. -/
theorem rep_of_row {w : World} {ok : Nat → Prop} {e sz base : Nat} {xs : List (List FV)} {v : Value} {vs : List (List Value)} (ho : w.ownsRow base e sz v xs.length vs.flatten) (hA : All2 (All2 (FRep w ok)) xs vs) (hs : ∀ x ∈ xs, x.length = sz) (h0 : 0 < sz)
    (hok : ∀ g, blk v = some g → ok g) (hm : xs.length ≤ maxLen) : FRep w ok (.sl xs) v := by
  have hvl := hA.lens hs
  rcases ho.2 with ⟨rfl, h1⟩ | ⟨g, cap, cur, rfl, hb, hh, hnc, hcm, hcs, ht⟩
  · have : xs = [] := List.eq_nil_of_length_eq_zero h1
    subst this
    exact nil_rep
  · refine .sl xs _ _ cap sz (fun j i => vs.flatten.getD (j * sz + i) Go.undef) rfl hnc hm hs (fun _ => ⟨_, rfl, fun j i hj hi => ⟨hok g rfl, ?_⟩⟩) (fun j i x y hx hy => ?_) (fun h => by cases h)
    · have hjl : j < vs.length := by rw [← hA.length]; exact hj
      have hj' : vs[j]? = some vs[j] := List.getElem?_eq_getElem hjl
      have hfl := flat_get hvl hj' hi
      have hil : i < vs[j].length := by rw [hvl _ (List.getElem_mem hjl)]; exact hi
      have hix : vs[j][i]? = some (vs[j][i]'hil) := List.getElem?_eq_getElem hil
      rw [hix] at hfl
      rw [List.getD_eq_getElem?_getD, hfl, Option.getD_some]
      exact ho.cells (g := g) rfl _ _ hfl
    · obtain ⟨v', hv', hxv⟩ := hA.get j x hx
      obtain ⟨u, hu, hf⟩ := hxv.get i y hy
      have hi : i < sz := by
        rw [← hs x (List.mem_of_getElem? hx)]
        rcases Nat.lt_or_ge i x.length with h | h
        · exact h
        · rw [List.getElem?_eq_none h] at hy; cases hy
      show FRep w ok y (vs.flatten.getD (j * sz + i) Go.undef)
      rw [List.getD_eq_getElem?_getD, flat_get hvl hv' hi, hu]
      exact hf
theorem row_le {w : World} {base e sz n : Nat} {v : Value} {vs : List Value} (ho : w.ownsRow base e sz v n vs) : n ≤ maxLen := by
  rcases ho.2 with ⟨_, h⟩ | ⟨_, _, _, _, _, _, h1, h2, _⟩
  · omega
  · omega

end

section
variable {P : Program} {ops : Array Oper} {N : Nat} {fin : St → List Rec → Prop} {l : List Oper} {E : List (Nat × Slot)} {O O' : List Ent} {rs : List Rec} {ty : TypeId} {pos : String} {after : Array Edge} {g : Option (Nat × Bool)}
/-- The source of an append, or of a read of a whole slice: data that nothing turns, or a row of the call's own (read as it now is). -/
theorem src_rows {w0 w : World} {ok0 : Nat → Prop} {ρ : Nat → Value} {env : Nat → Slot} {ents : Nat → Ent} {a : Act} (hR : RelR N w0 ok0 ρ env ents a w) {s : Slot} {ys : List (List FV)} {v : Value} {sz : Nat} (hs : IsF ents s (.sl ys)) (h : SlotRep w (okS w0 ok0 ents ρ) ents ρ s v)
    (hy : ∀ y ∈ ys, y.length = sz) (h0 : 0 < sz) : ∃ A c, v = .slice A ys.length c ∧ (A = none → v = .slice none 0 0 ∨ ys = []) ∧ ∃ vs : List (List Value), All2 (All2 (FRep w (okS w0 ok0 ents ρ))) ys vs ∧ (ys = [] ∨ ∃ ad, A = some ad ∧ ∀ j u, vs.flatten[j]? = some u → w.cell? (ad.add j) = some u) := by
  have hf := hs.rep h hR.ent
  obtain ⟨A, c, hv, hn⟩ := rep_len hf
  rw [hv] at hf
  obtain ⟨_, vs, h1, h2⟩ := rep_rows hf hy h0
  exact ⟨A, c, hv, fun e => .inr (hn e), vs, h1, h2⟩
theorem run_append_any {w : World} {base : Nat} {t e sz bytes : Nat} [Sli P t e sz bytes] {zs : List Slot} [Zero P e zs] (ty : TypeId) {v : Value} {n : Nat} {xs : List Value} (hown : w.ownsRow base e sz v n xs) {A : Option Addr} {m c : Nat} {news : List Value} (hz : zs.length = sz)
    (hl : news.length = m * sz) (hA : m = 0 ∨ ∃ ad, A = some ad ∧ ∀ j u, news[j]? = some u → w.cell? (ad.add j) = some u) (h1 : ∀ u ∈ news, u.oneCell' = true) (h63 : n + m ≤ maxLen) (hbytes : (n + m) * bytes ≤ 140737488355328) (hbase : base ≤ w.heap.size) :
    ∃ v' w', (Builtin.append_ #[t, t] ty #[v, .slice A m c]).run P w = .ok v' w' ∧ w'.ownsRow base e sz v' (n + m) (xs ++ news) ∧ w.grownBy w' v.ownBlock ∧ (m = 0 → v' = v) ∧ (∀ g, blk v' = some g → blk v = some g ∨ w.heap.size ≤ g) := by
  obtain ⟨i, ht, hi, hs, hb, h0⟩ := Sli.spec (P := P) t e sz bytes
  obtain ⟨i', z, vs, hi', hz', hc, hzz⟩ := Zero.h (P := P) (t := e) (zs := zs)
  rw [hi] at hi'
  cases hi'
  rcases Nat.eq_zero_or_pos m with rfl | hm
  · have hn : news = [] := List.eq_nil_of_length_eq_zero (by simpa using hl)
    subst hn
    refine ⟨v, w, ?_, by simpa using hown, ⟨rfl, rfl, rfl, Nat.le_refl _, fun _ _ _ => rfl⟩, fun _ => rfl, fun g h => .inl h⟩
    rcases hown.2 with ⟨rfl, rfl⟩ | ⟨g, cap, cur, rfl, _, _, hnc, _⟩
    · cases A <;> simp [Builtin.append_, run_underlying ht, sizeOf, typeInfo, hi, Builtin.lenOf, Builtin.firstCells, loadCells, loadCellsFrom]
    · cases A <;> simp [Builtin.append_, run_underlying ht, sizeOf, typeInfo, hi, Builtin.lenOf, Builtin.firstCells, hnc, storeCells, loadCells, loadCellsFrom]
  · rcases hA with h | ⟨ad, rfl, hcell⟩
    · omega
    · have hzc : z.cells.size = sz := by rw [hc]; simp [← hzz.length, hz]
      rcases hown.2 with ⟨rfl, rfl⟩ | ⟨g, cap, cur, rfl, hbg, hg, hnc, hcm, hcs, htake⟩
      · obtain ⟨v', w', hr, h2, h3, h4⟩ := run_append_own (P := P) w base t ty e i z sz bytes ht hi hz' hs hb hzc h0 _ 0 xs hown ad m c news hl hcell h1 h63 hbytes hbase
        refine ⟨v', w', hr, h2, h3, fun e => by omega, fun g hg => .inr ?_⟩
        rcases h2.2 with ⟨h5, h6⟩ | ⟨g', cap', cur', h5, h6, h7, _⟩
        · omega
        · rw [h5] at hg
          cases hg
          rcases Nat.lt_or_ge g' w.heap.size with hlt | hge
          · exfalso
            have hx : xs = [] := List.eq_nil_of_length_eq_zero (by simpa using hown.1)
            subst hx
            have hr2 := run_append_nil (P := P) w t ty e i z ht hi hz' ad m c news (by rw [hs]; exact hl) hcell hm (by simp only [maxLen] at h63; omega) (by rw [hb]; have hb := hbytes; simp only [Nat.zero_add] at hb; omega)
            rw [hr2] at hr
            injection hr with hr _
            rw [← hr] at h5
            simp at h5
          · exact hge
      · by_cases hroom : n + m ≤ cap
        · subst hs
          have hfit : n * i.size + news.length ≤ cur.size := by rw [hl, hcs, ← Nat.add_mul]; exact Nat.mul_le_mul_right _ hroom
          have hr := run_append_room (P := P) w t ty e i ht hi g n cap cur hg ad m c news hl hcell h1 hroom hfit
          have hlen : (xs ++ news).length = (n + m) * i.size := by rw [List.length_append, hown.1, hl, Nat.add_mul]
          refine ⟨_, _, hr, ⟨hlen, .inr ⟨g, cap, _, rfl, hbg, setRow_heap w g cur _ e _ hg, hroom, hcm, ?_, ?_⟩⟩, ⟨rfl, rfl, rfl, by simp, fun k _ hk => setRow_other w g k _ (fun e => hk (by simp [Value.ownBlock, e]))⟩, fun e => by omega, fun g' h => .inl h⟩
          · simp only [List.size_toArray, List.length_append, List.length_take, List.length_drop, Array.length_toList]
            omega
          · rw [htake, ← hlen]
            exact List.take_left
        · subst hs; subst hb
          have holds : ∀ j u, xs[j]? = some u → w.cell? ((⟨g, 0, none⟩ : Addr).add j) = some u := hown.cells (g := g) rfl
          have hr := run_append_grow (P := P) w t ty e i z ht hi hz' ⟨g, 0, none⟩ n cap xs hown.1 holds ad m c news hl hcell (by omega) (by simp only [maxLen] at h63; omega) (growslice_fits (by omega) hbytes)
          have hlen : (xs ++ news).length = (n + m) * i.size := by rw [List.length_append, hown.1, hl, Nat.add_mul]
          have hge := grownCap_ge w (n + m) cap e
          have hcm' : grownCap w (n + m) cap e ≤ maxLen := grownCap_le_maxLen w (n + m) cap e h63
          refine ⟨_, _, hr, ⟨hlen, .inr ⟨w.heap.size, _, _, rfl, hbase, heap_alloc_new w.drew _, hge, hcm', ?_, ?_⟩⟩, ⟨rfl, rfl, rfl, by simp, fun k hk _ => Below.heap_alloc w.drew _ k hk⟩, fun e => by omega, fun g' h => .inr (by cases h; exact Nat.le_refl _)⟩
          · simp only [Array.size_append, List.size_toArray, size_zeroCells, hzc, hown.1, hl, ← Nat.add_mul]
            congr 1
            omega
          · simp only [Array.toList_append, List.append_assoc]
            rw [← List.append_assoc, ← hlen]
            exact List.take_left
/-- An append to a row of the call's own. -/
theorem rAp {d : Nat} {x y : Operand} {t e sz bytes : Nat} [Sli P t e sz bytes] {zs : List Slot} [Zero P e zs] {p n : Nat} {xs ys : List (List FV)} {s : Slot} {touch : List Nat} (hx : Opd E x (.own p n)) (hp : O.getD p .gone = .row e sz xs) (hn : n = xs.length) (hy : Opd E y s) (hs : ∀ ents', (∀ p ∈ touch, ents' p = O.getD p .gone) → IsF ents' s (.sl ys))
    (hys : ∀ y ∈ ys, y.length = sz) (hb : (xs.length + ys.length) * bytes ≤ 140737488355328) (hz : zs.length = sz) (h63 : xs.length + ys.length ≤ 9223372036854775807) {n' : Nat} (hn' : n' = (xs ++ ys).length) (hO : SetAt O p (.row e sz (xs ++ ys)) O') (hd : d < N) (hw : W ops E g)
    (k : Runs P ops N fin l ⟨(d, .own p n') :: E, O'⟩ (⟨.own p n', some (p, .row e sz (xs ++ ys)), p :: touch⟩ :: rs)) : Runs P ops N fin (⟨some d, .call { callee := .builtin .append, args := #[x, y], argTypes := #[t, t] }, ty, pos, after, g⟩ :: l) ⟨E, O⟩ rs := by
  refine rEff (s := .own p n') (touch := touch) hO (fun d' h => by cases h; exact hd) hw (fun w0 ok0 ρ env' ents' a w hr ht hR => ?_) k
  have he := (ht p (by simp)).trans hp
  have h1 := hr x (by simp [Op.operands, Call.operands]); rw [hx.eq] at h1
  have h2 := hr y (by simp [Op.operands, Call.operands]); rw [hy.eq] at h2
  have hE := hR.ent p
  rw [he] at hE
  obtain ⟨vs, ho, hA, hsz, h0⟩ := hE
  obtain ⟨A, c, hv, _, us, hU, hcell⟩ := src_rows hR (hs ents' (fun q hq => ht q (by simp [hq]))) h2 hys h0
  obtain ⟨ll, hl, hle, hve⟩ := h1
  rw [he] at hl
  have : some xs.length = some ll := hl
  cases this
  have hve := hve hn
  have hul : us.flatten.length = ys.length * sz := by rw [flat_len (hU.lens hys), hU.length]
  have hone : ∀ u ∈ us.flatten, u.oneCell' = true := all_oneCell hU.flatten
  obtain ⟨v', w', hrun, h3, h4, h5, h6⟩ := run_append_any (P := P) (t := t) (zs := zs) ty (base := w0.heap.size) ho (A := A) (m := ys.length) (c := c) (news := us.flatten) hz hul (by
    rcases hcell with h | ⟨ad, h, hc⟩
    · left; simp [h]
    · exact .inr ⟨ad, h, hc⟩) hone (by simpa [maxLen] using h63) hb hR.below.size
  refine ⟨.value v', v', w', v', ?_, .inl rfl, ?_, ?_⟩
  · simp only [execOp, resolve, invoke, builtin, Sem.run_bind, Sem.run_pure, Result.andThen_ok, List.map_toArray, List.map_cons, List.map_nil, hve, hv, hrun]
  · refine hR.rowed he h4 (by simp) (fun e => h5 ?_) h6 (fun hk => ?_)
    · rw [List.length_append] at e; omega
    · refine ⟨vs ++ us, ?_, (hA.imp fun _ _ h => h.imp fun _ _ => FRep.mono hk).append (hU.imp fun _ _ h => h.imp fun _ _ => FRep.mono hk), fun x hx => ?_, h0⟩
      · rw [upd_same, List.flatten_append, List.length_append]; exact h3
      · rcases List.mem_append.1 hx with h | h
        · exact hsz x h
        · exact hys x h
  · exact ⟨(xs ++ ys).length, by rw [upd_same]; rfl, by omega, fun _ => by rw [upd_same]⟩
/-- An append to nil: a new row. -/
theorem rApN {d : Nat} {x y : Operand} {t e sz bytes : Nat} [Sli P t e sz bytes] {zs : List Slot} [Zero P e zs] {p : Nat} {ys : List (List FV)} {s : Slot} {touch : List Nat} (hx : Opd E x .nil) (hp : O.getD p .gone = .gone) (hy : Opd E y s) (hs : ∀ ents', (∀ p ∈ touch, ents' p = O.getD p .gone) → IsF ents' s (.sl ys))
    (hys : ∀ y ∈ ys, y.length = sz) (hb : ys.length * bytes ≤ 140737488355328) (hz : zs.length = sz) (h63 : ys.length ≤ 9223372036854775807) {n' : Nat} (hn' : n' = ys.length) (hO : SetAt O p (.row e sz ys) O') (hd : d < N) (hw : W ops E g)
    (k : Runs P ops N fin l ⟨(d, .own p n') :: E, O'⟩ (⟨.own p n', some (p, .row e sz ys), p :: touch⟩ :: rs)) : Runs P ops N fin (⟨some d, .call { callee := .builtin .append, args := #[x, y], argTypes := #[t, t] }, ty, pos, after, g⟩ :: l) ⟨E, O⟩ rs := by
  refine rEff (s := .own p n') (touch := touch) hO (fun d' h => by cases h; exact hd) hw (fun w0 ok0 ρ env' ents' a w hr ht hR => ?_) k
  have he := (ht p (by simp)).trans hp
  have h1 := hr x (by simp [Op.operands, Call.operands]); rw [hx.eq] at h1
  have h1 : a.eval x = .slice none 0 0 := h1
  have h2 := hr y (by simp [Op.operands, Call.operands]); rw [hy.eq] at h2
  obtain ⟨i, _, _, _, _, h0⟩ := Sli.spec (P := P) t e sz bytes
  obtain ⟨A, c, hv, _, us, hU, hcell⟩ := src_rows hR (hs ents' (fun q hq => ht q (by simp [hq]))) h2 hys h0
  have hul : us.flatten.length = ys.length * sz := by rw [flat_len (hU.lens hys), hU.length]
  have hone : ∀ u ∈ us.flatten, u.oneCell' = true := all_oneCell hU.flatten
  obtain ⟨v', w', hrun, h3, h4, h5, h6⟩ := run_append_any (P := P) (t := t) (zs := zs) ty (base := w0.heap.size) (World.ownsRow_nil w w0.heap.size e sz) (A := A) (m := ys.length) (c := c) (news := us.flatten) hz hul (by
    rcases hcell with h | ⟨ad, h, hc⟩
    · left; simp [h]
    · exact .inr ⟨ad, h, hc⟩) hone (by simpa [maxLen] using h63) (by simpa using hb) hR.below.size
  simp only [Nat.zero_add, List.nil_append] at h3
  have hbel : Below w.heap.size w w' := ⟨h4.os, h4.tape, h4.output, h4.size, fun k hk => h4.block k hk (by simp [Value.ownBlock])⟩
  refine ⟨.value v', v', w', v', ?_, .inl rfl, ?_, ?_⟩
  · simp only [execOp, resolve, invoke, builtin, Sem.run_bind, Sem.run_pure, Result.andThen_ok, List.map_toArray, List.map_cons, List.map_nil, h1, hv, hrun]
  · refine hR.fresh p he _ _ hbel (fun g' _ hg => ?_) (fun hk => ?_)
    · rcases h6 g' hg with h | h
      · cases h
      · exact h
    · exact ⟨us, by rw [upd_same]; exact h3, hU.imp fun _ _ h => h.imp fun _ _ => FRep.mono hk, hys, h0⟩
  · exact ⟨ys.length, by rw [upd_same]; rfl, by omega, fun _ => by rw [upd_same]⟩
/-- make([]T, n). -/
theorem rMk {d : Nat} {x : Operand} {t e sz bytes : Nat} [Sli P t e sz bytes] {zs : List Slot} [Zero P e zs] {p n : Nat} {kk : IntKind} (hx : Opd E x (.r (.v (.i kk (n : Int))))) (hp : O.getD p .gone = .gone) (hz : zs.length = sz) (hb : bytes * n ≤ 281474976710656) (h63 : n ≤ 9223372036854775807)
    (hO : SetAt O p (.row e sz (List.replicate n (zs.map Slot.fz))) O') (hd : d < N) (hw : W ops E g)
    (k : Runs P ops N fin l ⟨(d, .own p n) :: E, O'⟩ (⟨.own p n, some (p, .row e sz (List.replicate n (zs.map Slot.fz))), [p]⟩ :: rs)) : Runs P ops N fin (⟨some d, .makeSlice t x x, ty, pos, after, g⟩ :: l) ⟨E, O⟩ rs := by
  refine rEff (s := .own p n) (touch := []) hO (fun d' h => by cases h; exact hd) hw (fun w0 ok0 ρ env' ents' a w hr ht hR => ?_) k
  have he := (ht p (by simp)).trans hp
  have h1 := hr x (by simp [Op.operands]); rw [hx.eq] at h1
  obtain ⟨i, ht', hi, hs, hby, h0⟩ := Sli.spec (P := P) t e sz bytes
  obtain ⟨i', z, vs, hi', hz', hc, hzz⟩ := Zero.h (P := P) (t := e) (zs := zs)
  rw [hi] at hi'
  cases hi'
  obtain ⟨w', hrun, h2, h3⟩ := run_make_full (P := P) (w := w) w0.heap.size t e i z sz ht' hi hz' hs kk kk n (by rw [hby]; exact hb) (by simpa [maxLen] using h63) hR.below.size
  have hbel : Below w.heap.size w w' := ⟨h3.os, h3.tape, h3.output, h3.size, fun k hk => h3.block k hk (by simp)⟩
  have hvl : vs.length = sz := by rw [← hzz.length, hz]
  have hmade : (madeCells z.cells (n * sz)).toList = (List.replicate n vs).flatten := by
    apply List.ext_getElem?
    intro j
    have hall : ∀ x ∈ List.replicate n vs, x.length = sz := fun x hx => by rw [List.eq_of_mem_replicate hx, hvl]
    by_cases hj : j < n * sz
    · have hq : j / sz < n := (Nat.div_lt_iff_lt_mul h0).2 hj
      have hm : j % sz < sz := Nat.mod_lt j h0
      have := flat_get hall (i := j / sz) (j := j % sz) (x := vs) (by simp [hq]) hm
      rw [Nat.mul_comm, Nat.div_add_mod] at this
      rw [this]
      simp [madeCells, hj, hc, hvl]
      rw [List.getElem?_eq_getElem (by rw [hvl]; exact hm)]
      rfl
    · have hfl := flat_len hall
      rw [List.length_replicate] at hfl
      rw [List.getElem?_eq_none (by simp [madeCells]; omega), List.getElem?_eq_none (by rw [hfl]; omega)]
  refine ⟨_, .slice (some ⟨w.heap.size, 0, none⟩) n n, w', .slice (some ⟨w.heap.size, 0, none⟩) n n, ?_, .inl rfl, ?_, ?_⟩
  · simp only [execOp, rep_int h1, Sem.run_bind, hrun, Result.andThen_ok, Sem.run_pure]
  · refine hR.fresh p he _ _ hbel (fun g' _ hg => by cases hg; exact Nat.le_refl _) (fun hk => ?_)
    refine ⟨List.replicate n vs, ?_, ?_, fun x hx => by rw [List.eq_of_mem_replicate hx]; simp [hz], h0⟩
    · rw [upd_same, List.length_replicate, ← hmade]; exact h2
    · exact All2.replicate (zero_cells hzz) n
  · exact ⟨n, by rw [upd_same]; simp [Ent.len?], Nat.le_refl _, fun _ => by rw [upd_same]⟩
end
end Go.Proofs.Ytnhljpbpfaablaa.VS
