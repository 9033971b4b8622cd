/- Value semantics, part 11: Go's data as Lean's: whole numbers, bools, lists; structs of whole numbers compared; loops and joins. Conditions: none. -/
import Derived.Test.YtnhljpbpfaablaaV10
import Derived.Laws.StructEq
set_option linter.unusedSimpArgs false
set_option linter.unusedVariables false
namespace Go.Proofs.Ytnhljpbpfaablaa.VS
open Go Go.RowKit

/-- How a Lean value lies in memory: its cells. -/
class Enc (α : Type) where
  c : α → List FV
instance : Enc Int := ⟨fun n => [.i .i64 n]⟩
instance : Enc Bool := ⟨fun b => [.b b]⟩
instance {α : Type} [Enc α] : Enc (List α) := ⟨fun l => [.sl (l.map Enc.c)]⟩
abbrev I (n : Int) : RV := .v (.i .i64 n)
abbrev B (b : Bool) : RV := .v (.b b)
abbrev L {α : Type} [Enc α] (l : List α) : RV := .v (.sl (l.map Enc.c))
abbrev A {α : Type} [Enc α] (a : α) : RV := .agg (Enc.c a)

section
variable {P : Program}
theorem fnI {f : FuncId} {fn : Func} {N : Nat} {c : Code} {args : List RV} {out : Out} (hf : P.funcs[f]? = some fn) (hN : fn.ntmps = N) (h : (∀ x ∈ args, ∀ y ∈ x.flat, Bd y) → AWP P N c (fun e S => (e = .normal ∨ e = .ret) ∧ ∃ xs, All2 (ResIs P S) fn.results.toList xs ∧ outOf xs = out) ⟨argEnv 0 args, []⟩)
    (hb : fn.body = some c := by exact rfl) (hn : args.length ≤ N := by exact Nat.le_of_ble_eq_true rfl) : Fn P f args out := by
  subst hN
  exact fn_of hf hb hn h
theorem retv {Q : St → Prop} {S : St} {fn : Func} {xs : List RV} {out : Out} (h : All2 (ResIs P S) fn.results.toList xs) (ho : outOf xs = out) : (Exit.ret = Exit.normal ∨ Exit.ret = Exit.ret) ∧ ∃ xs, All2 (ResIs P S) fn.results.toList xs ∧ outOf xs = out := ⟨.inr rfl, xs, h, ho⟩
theorem oneI {a b : Int} (h : a = b) : outOf [I a] = .one (I b) := by rw [h]; rfl
theorem oneB {a b : Bool} (h : a = b) : outOf [B a] = .one (B b) := by rw [h]; rfl
theorem bd_L {α : Type} {f : α → List FV} {l : List α} {args : List RV} (hb : ∀ x ∈ args, ∀ y ∈ x.flat, Bd y) (h : .v (.sl (l.map f)) ∈ args) : l.length ≤ 9223372036854775807 := by
  have h1 := hb _ h (.sl (l.map f)) (List.mem_singleton.2 rfl)
  cases h1 with
  | sl _ h _ => simpa using h
theorem bd_len {xs : List (List FV)} (h : Bd (.sl xs)) : xs.length ≤ 9223372036854775807 := by cases h; assumption

/-! ### Structs of whole numbers, compared -/
def eqIB (P : Program) (t : TypeId) (n : Nat) : Bool :=
  match P.underlying t with
  | some (.struct fs) => !P.stoodInHeld t && !P.eqGuardType P.depth t && Nat.beq fs.size n && fs.toList.zipIdx.all fun (f, i) => !(f.name == "_") && Nat.beq f.offset i && (match P.underlying f.type with | some (.int k) => k == .i64 | _ => false)
  | _ => false
class EqI (P : Program) (t : TypeId) (n : outParam Nat) : Prop where
  h : eqIB P t n = true
theorem eqFields_ints {w : World} {d : Nat} {as bs : List Int} : ∀ (fs : List Field) (k : Nat), as.length = k + fs.length → bs.length = k + fs.length →
    (∀ (i : Nat) (f : Field), fs[i]? = some f → (f.name == "_") = false ∧ f.offset = k + i ∧ P.underlying f.type = some (.int .i64)) →
    (Op.eqFields (d + 1) (as.map (Value.int .i64)).toArray (bs.map (Value.int .i64)).toArray fs).run P w = .ok (as.drop k == bs.drop k) w
  | [], k, h1, h2, _ => by
    rw [List.drop_eq_nil_of_le (by simp at h1; omega), List.drop_eq_nil_of_le (by simp at h2; omega)]
    simp [Op.eqFields]
  | f :: fs, k, h1, h2, hf => by
    obtain ⟨hn, ho, hu⟩ := hf 0 f rfl
    simp only [List.length_cons] at h1 h2
    obtain ⟨a, ha⟩ : ∃ a, as[k]? = some a := ⟨as[k]'(by omega), by simp⟩
    obtain ⟨b, hb⟩ : ∃ b, bs[k]? = some b := ⟨bs[k]'(by omega), by simp⟩
    have hp : ∀ (ls : List Int) (a : Int), ls[k]? = some a → (part f.type (ls.map (Value.int .i64)).toArray f.offset).run P w = .ok (.int .i64 a) w := by
      intro ls a ha
      simp only [part, Sem.run_bind, run_isAgg w hu, Result.andThen_ok, isAggB]
      simp [ho, ha]
    have hne : f.name ≠ "_" := by simpa using hn
    have ih := eqFields_ints (w := w) (d := d) (as := as) (bs := bs) fs (k + 1) (by omega) (by omega) (fun i g hg => by
      have := hf (i + 1) g (by simpa using hg)
      exact ⟨this.1, by omega, this.2.2⟩)
    have e1 : as.drop k = a :: as.drop (k + 1) := by rw [List.drop_eq_getElem_cons (by omega)]; congr 1; rw [List.getElem?_eq_getElem (by omega)] at ha; exact Option.some.inj ha
    have e2 : bs.drop k = b :: bs.drop (k + 1) := by rw [List.drop_eq_getElem_cons (by omega)]; congr 1; rw [List.getElem?_eq_getElem (by omega)] at hb; exact Option.some.inj hb
    simp only [Op.eqFields, if_pos hne, Sem.run_bind, hp as a ha, hp bs b hb, Result.andThen_ok, run_equalIn_int w d f.type .i64 .i64 a b hu]
    rw [e1, e2, List.cons_beq_cons]
    cases hab : (a == b)
    · simp
    · simpa using ih
theorem run_eqI {t n : Nat} [EqI P t n] {w : World} {as bs : List Int} (h1 : as.length = n) (h2 : bs.length = n) (x y : Operand) (op : BinOp) :
    (eqGuard op t x y (.agg (as.map (Value.int .i64)).toArray) (.agg (bs.map (Value.int .i64)).toArray)).run P w = .ok () w ∧ (Op.equal t (.agg (as.map (Value.int .i64)).toArray) (.agg (bs.map (Value.int .i64)).toArray)).run P w = .ok (as == bs) w := by
  have h := EqI.h (P := P) (t := t) (n := n)
  unfold eqIB at h
  split at h
  · rename_i fs hu
    simp only [Bool.and_eq_true, Bool.not_eq_true', Nat.beq_eq] at h
    obtain ⟨⟨⟨h3, h4⟩, h5⟩, h6⟩ := h
    have hf : P.fieldsOf t = fs := by simp [Program.fieldsOf, hu]
    refine ⟨run_eqGuard_agg w op t x y _ _ h4, ?_⟩
    show (Op.equalIn (9999 + 1) t _ _).run P w = _
    rw [run_equalIn_struct (P := P) w 9999 t _ _ (by rw [hf]; exact hu) h3, hf]
    have := eqFields_ints (P := P) (w := w) (d := 9998) (as := as) (bs := bs) fs.toList 0 (by simp [h1, h5]) (by simp [h2, h5]) (fun i f hi => by
      have hm : (f, i) ∈ fs.toList.zipIdx := by rw [List.mk_mem_zipIdx_iff_getElem?]; exact hi
      have hx := List.all_eq_true.1 h6 _ hm
      simp only [Bool.and_eq_true, Bool.not_eq_true', Nat.beq_eq] at hx
      obtain ⟨⟨hx1, hx2⟩, hx3⟩ := hx
      refine ⟨hx1, by omega, ?_⟩
      split at hx3
      · rename_i k hk
        rw [hk, eq_of_beq hx3]
      · cases hx3)
    simpa using this
  · cases h
theorem rep_ints {w : World} {ok : Nat → Prop} {as : List Int} {v : Value} (h : RV.rep w ok (.agg (as.map (FV.i .i64))) v) : v = .agg (as.map (Value.int .i64)).toArray := by
  obtain ⟨vs, rfl, h⟩ := h
  congr 2
  induction as generalizing vs with
  | nil => cases h; rfl
  | cons a as ih =>
    cases h with
    | cons h1 h2 =>
      rw [List.map_cons, ← ih _ h2]
      cases h1
      rfl
/-- Cells that are whole numbers, all of them. -/
inductive Ints : List FV → List Int → Prop
  | nil : Ints [] []
  | cons (a : Int) {l : List FV} {m : List Int} (h : Ints l m) : Ints (.i .i64 a :: l) (a :: m)
theorem Ints.eq {l : List FV} {m : List Int} (h : Ints l m) : l = m.map (FV.i .i64) := by
  induction h with
  | nil => rfl
  | cons a _ ih => rw [List.map_cons, ← ih]
end

section
variable {P : Program} {ops : Array Oper} {N : Nat} {fin : St → List Rec → Prop} {l : List Oper} {E : List (Nat × Slot)} {O : List Ent} {rs : List Rec} {d : Nat} {ty : TypeId} {pos : String} {after : Array Edge} {g : Option (Nat × Bool)}
theorem rEqI {x y : Operand} {t t' n : Nat} [EqI P t n] {xs ys : List FV} {as bs : List Int} (hx : Opd E x (.r (.agg xs))) (hy : Opd E y (.r (.agg ys))) (ha : Ints xs as) (hb : Ints ys bs) (h1 : as.length = n) (h2 : bs.length = n) (hd : d < N) (hw : W ops E g)
    (k : Runs P ops N fin l ⟨(d, .r (.v (.b (as == bs)))) :: E, O⟩ (⟨.r (.v (.b (as == bs))), none, []⟩ :: rs)) : Runs P ops N fin (⟨some d, .binOp .eql t x y t', ty, pos, after, g⟩ :: l) ⟨E, O⟩ rs :=
  rPure hd hw (fun w ok ρ ents' a hr _ _ => by
    have h3 := hr x (by simp [Op.operands]); have h4 := hr y (by simp [Op.operands]); rw [hx.eq, ha.eq] at h3; rw [hy.eq, hb.eq] at h4
    have h5 := rep_ints h3; have h6 := rep_ints h4
    obtain ⟨h7, h8⟩ := run_eqI (P := P) (t := t) (w := w) h1 h2 x y .eql
    refine ⟨.bool (as == bs), ?_, FRep.b _⟩
    simp only [execOp, h5, h6, Sem.run_bind, h7, Result.andThen_ok]
    simp only [binOp, Sem.run_bind, h8, Result.andThen_ok, Sem.run_pure]) k
theorem ei {x y : Operand} {t t' n : Nat} [EqI P t n] {xs ys : List FV} {as bs : List Int} (k : Runs P ops N fin l ⟨(d, .r (.v (.b (as == bs)))) :: E, O⟩ (⟨.r (.v (.b (as == bs))), none, []⟩ :: rs)) (hx : Opd E x (.r (.agg xs)) := by first | exact Opd.int _ _ | exact Opd.bool _ | exact Opd.nil | exact Opd.fn _ | exact Opd.str _ | (apply Opd.tmp; ((repeat apply Look.there rfl); exact Look.here))) (hy : Opd E y (.r (.agg ys)) := by first | exact Opd.int _ _ | exact Opd.bool _ | exact Opd.nil | exact Opd.fn _ | exact Opd.str _ | (apply Opd.tmp; ((repeat apply Look.there rfl); exact Look.here)))
    (ha : Ints xs as := by ((repeat apply Ints.cons); exact Ints.nil)) (hb : Ints ys bs := by ((repeat apply Ints.cons); exact Ints.nil)) (h1 : as.length = n := by exact rfl) (h2 : bs.length = n := by exact rfl) (hd : d < N := by decide) (hw : W ops E g := by first | exact W.none | (apply wof rfl; ((repeat apply Look.there rfl); exact Look.here); first | assumption | exact rfl)) : Runs P ops N fin (⟨some d, .binOp .eql t x y t', ty, pos, after, g⟩ :: l) ⟨E, O⟩ rs := rEqI hx hy ha hb h1 h2 hd hw k
theorem lnM {x : Operand} {t e sz b : Nat} [Sli P t e sz b] {α : Type} {xs : List α} {f : α → List FV} (k : Runs P ops N fin l ⟨(d, .r (.v (.i .i64 xs.length))) :: E, O⟩ (⟨.r (.v (.i .i64 xs.length)), none, []⟩ :: rs)) (hx : Opd E x (.r (.v (.sl (xs.map f)))) := by first | exact Opd.int _ _ | exact Opd.bool _ | exact Opd.nil | exact Opd.fn _ | exact Opd.str _ | (apply Opd.tmp; ((repeat apply Look.there rfl); exact Look.here)))
    (hd : d < N := by decide) (hw : W ops E g := by first | exact W.none | (apply wof rfl; ((repeat apply Look.there rfl); exact Look.here); first | assumption | exact rfl)) : Runs P ops N fin (⟨some d, .call { callee := .builtin .len, args := #[x], argTypes := #[t] }, ty, pos, after, g⟩ :: l) ⟨E, O⟩ rs := by
  have e : (xs.length : Int) = ((xs.map f).length : Nat) := by rw [List.length_map]
  rw [e] at k
  exact ln k hx hd hw
/-- Before an operation that is wanted only if a bool is so: both cases. -/
theorem gd {dst : Option Nat} {op : Op} {j t : Nat} {c x : Bool} (h1 : x = true → Runs P ops N fin (⟨dst, op, ty, pos, after, some (j, c)⟩ :: l) ⟨E, O⟩ rs) (h2 : x = false → Runs P ops N fin (⟨dst, op, ty, pos, after, some (j, c)⟩ :: l) ⟨E, O⟩ rs)
    (ht : (ops[j]?).bind (·.dst) = some t := by exact rfl) (h : Look E t (.r (.v (.b x))) := by ((repeat apply Look.there rfl); exact Look.here)) : Runs P ops N fin (⟨dst, op, ty, pos, after, some (j, c)⟩ :: l) ⟨E, O⟩ rs := by
  cases x
  · exact h2 rfl
  · exact h1 rfl
end

/-! ### Loops and joins -/
section
variable {P : Program} {N : Nat} {Q : Exit → St → Prop} {S : St}
def Wk (N : Nat) (S : St) (M : St → Prop) : Prop := ∃ S0, Weak N S S0 ∧ M S0
theorem Weak.refl (S : St) : Weak N S S := fun _ _ _ _ h => h
theorem wk {M : St → Prop} (h : M S) : Wk N S M := ⟨S, Weak.refl S, h⟩
/-- Only these temporaries are kept, and the first n entries. -/
theorem wkK {E E' : List (Nat × Slot)} {O : List Ent} {M : St → Prop} (n : Nat) (h : M ⟨E', O.take n⟩) (hk : Kept E E') (h1 : E'.all (fun x => x.2.under n) = true) (h2 : (O.take n).all (Ent.under n) = true) : Wk N ⟨E, O⟩ M :=
  ⟨_, Weak.trans (S' := ⟨E', O⟩) (weak_keep hk) (weak_take n h1 h2), h⟩
theorem look_cast {E : List (Nat × Slot)} {t : Nat} {s s' : Slot} (h : Look E t s) (e : s = s') : Look E t s' := e ▸ h
theorem own_cast {p n n' : Nat} (h : n = n') : Slot.own p n = .own p n' := by rw [h]
theorem i_cast {a b : Int} (h : a = b) : Slot.r (I a) = .r (I b) := by rw [h]
/-- The same, its side conditions by themselves. -/
theorem wx {E E' : List (Nat × Slot)} {O : List Ent} {M : St → Prop} (n : Nat) (h : M ⟨E', O.take n⟩) (hk : Kept E E' := by ((repeat refine Kept.cons (by first | ((repeat apply Look.there rfl); exact Look.here) | (apply look_cast; ((repeat apply Look.there rfl); exact Look.here); first | exact own_cast (by first | (simp; done) | omega | (simp; omega)) | exact i_cast (by first | omega | (simp; done) | (simp; omega)))) ?_); exact Kept.nil)) (h1 : E'.all (fun x => x.2.under n) = true := by exact rfl) (h2 : (O.take n).all (Ent.under n) = true := by exact rfl) : Wk N ⟨E, O⟩ M := wkK n h hk h1 h2
theorem wy {E E' : List (Nat × Slot)} {O O' : List Ent} {M : St → Prop} (n : Nat) (h : M ⟨E', O'⟩) (hO : O.take n = O') (hk : Kept E E' := by ((repeat refine Kept.cons (by first | ((repeat apply Look.there rfl); exact Look.here) | (apply look_cast; ((repeat apply Look.there rfl); exact Look.here); first | exact own_cast (by first | (simp; done) | omega | (simp; omega)) | exact i_cast (by first | omega | (simp; done) | (simp; omega)))) ?_); exact Kept.nil)) (h1 : E'.all (fun x => x.2.under n) = true := by exact rfl) (h2 : (O.take n).all (Ent.under n) = true := by exact rfl) : Wk N ⟨E, O⟩ M := by
  subst hO; exact wkK n h hk h1 h2
/-- A loop by its invariant; what is known may be less at each head. -/
theorem lp {c : Code} (I : Nat → St → Prop) (n : Nat) (h0 : Wk N S (I n)) (round : ∀ n S, I n S → AWP P N c (thenA (fun S' => ∃ m, m < n ∧ Wk N S' (I m)) Q) S) : AWP P N (.loop c) Q S := by
  obtain ⟨S0, hw, h0⟩ := h0
  exact awp_weak hw (awp_loop (fun n S => Wk N S (I n)) n (wk h0) fun n S ⟨S1, hw, h⟩ => awp_weak hw (round n S1 h))
/-- Several ways that come together. -/
theorem jn {x y : Code} (M : St → Prop) (h1 : AWP P N x (thenA (fun S => Wk N S M) Q) S) (h2 : ∀ S, M S → AWP P N y Q S) : AWP P N (.seq x y) Q S :=
  awp_seq (h1.mono fun e S' h => by
    cases e with
    | normal => obtain ⟨S0, hw, h⟩ := h; exact awp_weak hw (h2 S0 h)
    | _ => exact h)
/-- The end of a block, and of a loop. -/
theorem xbk {id : Nat} {Q : Exit → St → Prop} (h : Q .normal S) : inBlockA id Q (.exit id) S := by
  show if id = id then _ else _
  rw [if_pos rfl]; exact h
theorem xps {id id' : Nat} {Q : Exit → St → Prop} (h : Q (.exit id') S) (hne : id' ≠ id) : inBlockA id Q (.exit id') S := by
  show if id' = id then _ else _
  rw [if_neg hne]; exact h
theorem tn {next : St → Prop} {Q : Exit → St → Prop} (h : next S) : thenA next Q .normal S := h
theorem te {id : Nat} {next : St → Prop} {Q : Exit → St → Prop} (h : Q (.exit id) S) : thenA next Q (.exit id) S := h
theorem tr {next : St → Prop} {Q : Exit → St → Prop} (h : Q .ret S) : thenA next Q .ret S := h
theorem br {id : Nat} {Q : Exit → St → Prop} (h : Q .ret S) : inBlockA id Q .ret S := h
theorem bn_ {id : Nat} {Q : Exit → St → Prop} (h : Q .normal S) : inBlockA id Q .normal S := h
end
end Go.Proofs.Ytnhljpbpfaablaa.VS
