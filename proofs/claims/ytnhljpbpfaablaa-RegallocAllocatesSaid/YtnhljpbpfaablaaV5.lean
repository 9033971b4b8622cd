/- Value semantics, part 5: types; operations that make addresses, read memory, and build values. Conditions: none. -/
import Derived.Test.YtnhljpbpfaablaaV4
set_option linter.unusedSimpArgs false
set_option linter.unusedVariables false
namespace Go.Proofs.Ytnhljpbpfaablaa.VS
open Go Go.RowKit

/-! ### 1. Types, each fact closed -/
def isAggB : TypeDesc → Bool
  | .struct _ | .array _ _ => true
  | _ => false
/-- A type of one cell. -/
def plainB (P : Program) (t : TypeId) : Bool := match P.underlying t, P.info? t with
  | some d, some i => !isAggB d && decide (i.size = 1)
  | _, _ => false
def aggB (P : Program) (t n : Nat) : Bool := match P.underlying t, P.info? t with
  | some d, some i => isAggB d && decide (i.size = n)
  | _, _ => false
class Plain (P : Program) (t : TypeId) : Prop where
  h : plainB P t = true
class Agg (P : Program) (t : TypeId) (n : outParam Nat) : Prop where
  h : aggB P t n = true
def offsB (P : Program) (t : TypeId) (offs : List (Nat × Nat)) : Bool := match P.underlying t with
  | some (.struct fs) => decide (fs.toList.mapM (fun f => (P.info? f.type).map fun i => (f.offset, i.size)) = some offs) && offs.all fun x => decide (x.2 ≠ 0)
  | _ => false
/-- A struct: where its fields lie, and how many cells they take. -/
class Str (P : Program) (t : TypeId) (offs : outParam (List (Nat × Nat))) : Prop where
  h : offsB P t offs = true
def arrB (P : Program) (t n sz : Nat) : Bool := match P.underlying t with
  | some (.array m e) => decide (m = n) && decide ((P.info? e).map (·.size) = some sz) && decide (0 < sz) && decide (1 < n)
  | _ => false
class Arr (P : Program) (t : TypeId) (n sz : outParam Nat) : Prop where
  h : arrB P t n sz = true
def sliB (P : Program) (t e sz bytes : Nat) : Bool := match P.underlying t, P.info? e with
  | some (.slice e'), some i => decide (e' = e) && decide (i.size = sz) && decide (i.bytes = bytes) && decide (0 < sz)
  | _, _ => false
class Sli (P : Program) (t : TypeId) (e sz bytes : outParam Nat) : Prop where
  h : sliB P t e sz bytes = true
/-- A zero cell, as a slot and as a value. -/
inductive ZCell : Slot → Value → Prop
  | i (k : IntKind) : ZCell (.r (.v (.i k 0))) (.int k 0)
  | b : ZCell (.r (.v (.b false))) (.bool false)
  | s : ZCell (.r (.v (.s ⟨#[]⟩))) (.string ⟨#[]⟩)
  | nil : ZCell .nil (.slice none 0 0)
def zc : Slot → Value → Bool
  | .r (.v (.i k n)), .int k' m => decide (k = k') && decide (n = 0) && decide (m = 0)
  | .r (.v (.b false)), .bool false => true
  | .nil, .slice none 0 0 => true
  | _, _ => false
def zcs : List Slot → List Value → Bool
  | [], [] => true
  | s :: l, v :: r => zc s v && zcs l r
  | _, _ => false
def zeroB (P : Program) (t : TypeId) (zs : List Slot) : Bool := match P.info? t with
  | some i => match i.zero with
    | some z => zcs zs z.cells.toList
    | none => false
  | none => false
class Zero (P : Program) (t : TypeId) (zs : outParam (List Slot)) : Prop where
  z : zeroB P t zs = true
theorem zc_ok {s : Slot} {v : Value} (h : zc s v = true) : ZCell s v := by
  unfold zc at h
  split at h
  · simp at h
    obtain ⟨⟨rfl, rfl⟩, rfl⟩ := h
    exact .i _
  · exact .b
  · exact .nil
  · cases h
theorem zcs_ok : ∀ {zs : List Slot} {vs : List Value}, zcs zs vs = true → All2 ZCell zs vs
  | [], [], _ => .nil
  | s :: l, v :: r, h => by
    simp only [zcs, Bool.and_eq_true] at h
    exact .cons (zc_ok h.1) (zcs_ok h.2)
  | [], _ :: _, h => by cases h
  | _ :: _, [], h => by cases h
theorem Zero.h {P : Program} {t : TypeId} {zs : List Slot} [Zero P t zs] : ∃ i z vs, P.info? t = some i ∧ i.zero = some z ∧ z.cells = vs.toArray ∧ All2 ZCell zs vs := by
  have h := Zero.z (P := P) (t := t) (zs := zs)
  unfold zeroB at h
  split at h
  · rename_i i hi
    split at h
    · rename_i z hz
      exact ⟨i, z, z.cells.toList, hi, hz, by simp, zcs_ok h⟩
    · cases h
  · cases h
def Slot.fz : Slot → FV
  | .r (.v x) => x
  | _ => .sl []
/-- The same, and it is known to be nil. -/
def Slot.fzz : Slot → FV
  | .r (.v x) => x
  | _ => .zz
theorem ZCell.repz {s : Slot} {v : Value} (h : ZCell s v) (w : World) (ok : Nat → Prop) : FRep w ok s.fzz v := by
  cases h with
  | i k => exact FRep.i _ _
  | b => exact FRep.b _
  | s => exact FRep.s _
  | nil => exact FRep.zz
theorem ZCell.rep {s : Slot} {v : Value} (h : ZCell s v) (w : World) (ok : Nat → Prop) (ents : Nat → Ent) (ρ : Nat → Value) : SlotRep w ok ents ρ s v ∧ FRep w ok s.fz v ∧ v.oneCell' = true := by
  cases h with
  | i k => exact ⟨FRep.i _ _, FRep.i _ _, rfl⟩
  | b => exact ⟨FRep.b _, FRep.b _, rfl⟩
  | s => exact ⟨FRep.s _, FRep.s _, rfl⟩
  | nil => exact ⟨rfl, .sl [] none 0 0 0 (fun _ _ => .bool true) rfl (Nat.le_refl _) (Nat.zero_le _) (fun x h => by cases h) (fun h => absurd h (by omega)) (fun j i x y h => by simp at h) (fun _ => rfl), rfl⟩

section
variable {P : Program}
theorem Plain.spec (t : TypeId) [Plain P t] : ∃ d i, P.underlying t = some d ∧ isAggB d = false ∧ P.info? t = some i ∧ i.size = 1 := by
  have h := Plain.h (P := P) (t := t)
  unfold plainB at h
  split at h
  · rename_i d i h1 h2
    simp at h
    exact ⟨d, i, h1, h.1, h2, h.2⟩
  · cases h
theorem Agg.spec (t n : Nat) [Agg P t n] : ∃ d i, P.underlying t = some d ∧ isAggB d = true ∧ P.info? t = some i ∧ i.size = n := by
  have h := Agg.h (P := P) (t := t) (n := n)
  unfold aggB at h
  split at h
  · rename_i d i h1 h2
    simp at h
    exact ⟨d, i, h1, h.1, h2, h.2⟩
  · cases h
theorem Str.spec (t : TypeId) (offs : List (Nat × Nat)) [Str P t offs] : ∃ fs, P.underlying t = some (.struct fs) ∧ fs.toList.mapM (fun f => (P.info? f.type).map fun i => (f.offset, i.size)) = some offs ∧ ∀ x ∈ offs, x.2 ≠ 0 := by
  have h := Str.h (P := P) (t := t) (offs := offs)
  unfold offsB at h
  split at h
  · rename_i fs h1
    simp only [Bool.and_eq_true, decide_eq_true_eq, List.all_eq_true] at h
    exact ⟨fs, h1, h.1, h.2⟩
  · cases h
theorem Arr.spec (t n sz : Nat) [Arr P t n sz] : ∃ e i, P.underlying t = some (.array n e) ∧ P.info? e = some i ∧ i.size = sz ∧ 0 < sz ∧ 1 < n := by
  have h := Arr.h (P := P) (t := t) (n := n) (sz := sz)
  unfold arrB at h
  split at h
  · rename_i m e h1
    simp only [Bool.and_eq_true, decide_eq_true_eq] at h
    obtain ⟨⟨⟨h2, h3⟩, h4⟩, h5⟩ := h
    subst h2
    cases hi : P.info? e with
    | none => rw [hi] at h3; cases h3
    | some i => rw [hi] at h3; exact ⟨e, i, h1, hi, by simpa using h3, h4, h5⟩
  · cases h
theorem Sli.spec (t e sz bytes : Nat) [Sli P t e sz bytes] : ∃ i, P.underlying t = some (.slice e) ∧ P.info? e = some i ∧ i.size = sz ∧ i.bytes = bytes ∧ 0 < sz := by
  have h := Sli.h (P := P) (t := t) (e := e) (sz := sz) (bytes := bytes)
  unfold sliB at h
  split at h
  · rename_i e' i h1 h2
    simp only [Bool.and_eq_true, decide_eq_true_eq] at h
    obtain ⟨⟨⟨h3, h4⟩, h5⟩, h6⟩ := h
    subst h3
    exact ⟨i, h1, h2, h4, h5, h6⟩
  · cases h
theorem mapM_get {α β : Type} {f : α → Option β} : ∀ {l : List α} {r : List β}, l.mapM f = some r → ∀ (i : Nat) (y : β), r[i]? = some y → ∃ x, l[i]? = some x ∧ f x = some y
  | [], r, h, i, y, hy => by simp at h; subst h; simp at hy
  | a :: l, r, h, i, y, hy => by
    simp only [List.mapM_cons, Option.bind_eq_bind, Option.pure_def] at h
    cases ha : f a with
    | none => simp [ha] at h
    | some b =>
      cases hr : l.mapM f with
      | none => simp [ha, hr] at h
      | some r' =>
        simp [ha, hr] at h
        subst h
        cases i with
        | zero => simp at hy; subst hy; exact ⟨a, rfl, ha⟩
        | succ i => simpa using mapM_get hr i y (by simpa using hy)

/-! ### 2. Reading memory -/
theorem run_isAgg (w : World) {t : TypeId} {d : TypeDesc} (h : P.underlying t = some d) : (isAgg t).run P w = .ok (isAggB d) w := by
  unfold isAgg
  rw [Sem.run_bind, run_underlying h w]
  cases d <;> simp [isAggB]
/-- One cell. -/
theorem run_load1 (w : World) (t : TypeId) [Plain P t] (a : Addr) (v : Value) (h : w.cell? a = some v) : (Instr.loadAt t (.pointer (some a))).run P w = .ok v w := by
  obtain ⟨d, i, h1, h2, _⟩ := Plain.spec (P := P) t
  simp [Instr.loadAt, Instr.sureAddr, loadVar, run_isAgg w h1, h2, load, Sem.run, h]
theorem run_loadA (w : World) (t n : Nat) [Agg P t n] (a : Addr) (vs : List Value) (hl : vs.length = n) (h : ∀ j u, vs[j]? = some u → w.cell? (a.add j) = some u) :
    (Instr.loadAt t (.pointer (some a))).run P w = .ok (.agg vs.toArray) w := by
  obtain ⟨d, i, h1, h2, h3, h4⟩ := Agg.spec (P := P) t n
  have hr := run_loadCells_list (P := P) w a vs h
  rw [hl] at hr
  simp [Instr.loadAt, Instr.sureAddr, loadVar, run_isAgg w h1, h2, sizeOf, typeInfo, h3, h4, hr]
theorem run_fieldAt (w : World) (t f off sz : Nat) (offs : List (Nat × Nat)) [Str P t offs] (ho : offs[f]? = some (off, sz)) (a : Addr) : (Instr.fieldAt t (.pointer (some a)) f).run P w = .ok (.pointer (some (a.add off))) w := by
  obtain ⟨fs, h1, h2, h3⟩ := Str.spec (P := P) t offs
  obtain ⟨fl, hf, hi⟩ := mapM_get h2 f _ ho
  cases hq : P.info? fl.type with
  | none => rw [hq] at hi; cases hi
  | some i =>
    rw [hq] at hi
    simp only [Option.map_some, Option.some.injEq, Prod.mk.injEq] at hi
    have hsz : i.size ≠ 0 := by rw [hi.2]; exact h3 _ (List.mem_of_getElem? ho)
    have hf' : fs[f]? = some fl := by simpa using hf
    simp [Instr.fieldAt, run_underlying h1, hf', Instr.sureAddr, fieldPlace, sizeOf, typeInfo, hq, hsz, hi.1]
theorem run_indexArr (w : World) (t n sz : Nat) [Arr P t n sz] (a : Addr) (k : IntKind) (i : Int) (h0 : 0 ≤ i) (h1 : i < n) : (Instr.indexAt t (.pointer (some a)) (.int k i)).run P w = .ok (.pointer (some (a.add (i.toNat * sz)))) w := by
  obtain ⟨e, ie, h2, h3, h4, _⟩ := Arr.spec (P := P) t n sz
  simp [Instr.indexAt, asIntOf, run_underlying h2, Instr.sureAddr, h0, h1, sizeOf, typeInfo, h3, h4]
theorem run_indexSli (w : World) (t e sz b : Nat) [Sli P t e sz b] (a : Addr) (n c : Nat) (k : IntKind) (i : Int) (h0 : 0 ≤ i) (h1 : i < n) : (Instr.indexAt t (.slice (some a) n c) (.int k i)).run P w = .ok (.pointer (some (a.add (i.toNat * sz)))) w := by
  obtain ⟨ie, h2, h3, h4, _⟩ := Sli.spec (P := P) t e sz b
  simp [Instr.indexAt, asIntOf, run_underlying h2, h0, h1, sizeOf, typeInfo, h3, h4]

/-! ### 3. Slots at addresses -/
section
variable {w : World} {ok : Nat → Prop} {ents : Nat → Ent} {ρ : Nat → Value}
theorem fp_one {c : FV} {cs : List FV} {v : Value} (h : SlotRep w ok ents ρ (.fp (c :: cs)) v) : ∃ a u, v = .pointer (some a) ∧ w.cell? a = some u ∧ FRep w ok c u := by
  obtain ⟨ad, vs, rfl, h, hc⟩ := h
  cases h with
  | cons h1 h2 =>
    have := (hc 0 _ rfl).2
    rw [Addr.add_zero'] at this
    exact ⟨ad, _, rfl, this, h1⟩
theorem fp_many {cs : List FV} {v : Value} (h : SlotRep w ok ents ρ (.fp cs) v) (n : Nat) (hn : n ≤ cs.length) : ∃ a vs, v = .pointer (some a) ∧ vs.length = n ∧ (∀ j u, vs[j]? = some u → w.cell? (a.add j) = some u) ∧ All2 (FRep w ok) (cs.take n) vs := by
  obtain ⟨ad, vs, rfl, h, hc⟩ := h
  refine ⟨ad, vs.take n, rfl, by rw [List.length_take, ← h.length]; omega, fun j u hu => ?_, h.take n⟩
  rw [List.getElem?_take] at hu
  split at hu
  · exact (hc j u hu).2
  · cases hu
theorem fp_drop {cs : List FV} {v : Value} (h : SlotRep w ok ents ρ (.fp cs) v) (off : Nat) : ∃ a, v = .pointer (some a) ∧ SlotRep w ok ents ρ (.fp (cs.drop off)) (.pointer (some (a.add off))) := by
  obtain ⟨ad, vs, rfl, h, hc⟩ := h
  refine ⟨ad, rfl, ad.add off, vs.drop off, rfl, h.drop off, fun i u hu => ?_⟩
  rw [List.getElem?_drop] at hu
  rw [add_block, add_add]
  exact hc _ u hu
theorem box_at {p off : Nat} {v : Value} {ty : TypeId} {cs : List Slot} {base : Nat} (h : SlotRep w ok ents ρ (.box p off) v) (he : ents p = .box ty cs) (hr : EntRep w ok ents ρ base p (ents p)) :
    ∃ g vs, v = .pointer (some ⟨g, off, none⟩) ∧ ρ p = .pointer (some ⟨g, 0, none⟩) ∧ w.heap[g]? = some (.cells vs.toArray ty (0, 0)) ∧ All2 (SlotRep w ok ents ρ) cs vs ∧ (∀ u ∈ vs, u.oneCell' = true) ∧ ∀ j, w.cell? ⟨g, j, none⟩ = vs[j]? := by
  rw [he] at hr
  obtain ⟨g, vs, h1, h2, h3, h4, h5⟩ := hr
  obtain ⟨ty', cs', g', _, h7, h8⟩ := h
  rw [h1] at h7
  cases h7
  exact ⟨g, vs, h8, h1, h3, h4, h5, fun j => by rw [cell_of_row w g j _ _ _ h3]; simp⟩
end
end

/-! ### 4. Slots as data -/
/-- A slot of one cell, as a value that nothing turns. -/
inductive IsF (ents : Nat → Ent) : Slot → FV → Prop
  | nil : IsF ents .nil (.sl [])
  | v (x : FV) : IsF ents (.r (.v x)) x
  | zz : IsF ents (.r (.v .zz)) (.sl [])
  | fro {p n : Nat} {xs : List (List FV)} (h : ents p = .fro xs) (hn : n = xs.length) : IsF ents (.own p n) (.sl xs)
theorem nil_rep {w : World} {ok : Nat → Prop} : FRep w ok (.sl []) (.slice none 0 0) :=
  .sl [] none 0 0 0 (fun _ _ => .bool true) rfl (Nat.le_refl _) (Nat.zero_le _) (fun x h => by cases h) (fun h => absurd h (by omega)) (fun j i x y h => by simp at h) (fun _ => rfl)
theorem IsF.rep {w : World} {ok : Nat → Prop} {ents : Nat → Ent} {ρ : Nat → Value} {s : Slot} {x : FV} {v : Value} {base : Nat} (hf : IsF ents s x) (h : SlotRep w ok ents ρ s v) (hr : ∀ p, EntRep w ok ents ρ base p (ents p)) : FRep w ok x v := by
  cases hf with
  | nil => have h : v = .slice none 0 0 := h; subst h; exact nil_rep
  | zz => have h : FRep w ok .zz v := h; cases h; exact nil_rep
  | v x => exact h
  | fro he hn =>
    rename_i p n xs
    obtain ⟨l, hl, _, hv⟩ := h
    have := hr p
    rw [he] at this hl
    have hl : some xs.length = some l := hl
    cases hl
    rw [hv hn]
    exact this
/-- A slot as data: a value of one cell, or a struct's or an array's cells. -/
inductive IsD (ents : Nat → Ent) : Slot → RV → Prop
  | f {s : Slot} {x : FV} (h : IsF ents s x) : IsD ents s (.v x)
  | agg (cs : List FV) : IsD ents (.r (.agg cs)) (.agg cs)
theorem IsD.rep {w : World} {ok : Nat → Prop} {ents : Nat → Ent} {ρ : Nat → Value} {s : Slot} {x : RV} {v : Value} {base : Nat} (hf : IsD ents s x) (h : SlotRep w ok ents ρ s v) (hr : ∀ p, EntRep w ok ents ρ base p (ents p)) : x.rep w ok v := by
  cases hf with
  | f hf => exact hf.rep h hr
  | agg cs => exact h
end Go.Proofs.Ytnhljpbpfaablaa.VS
