/- Value semantics, part 10: the rules again, their side conditions by themselves. Conditions: none. -/
import Derived.Test.YtnhljpbpfaablaaV9
set_option linter.unusedSimpArgs false
set_option linter.unusedVariables false
namespace Go.Proofs.Ytnhljpbpfaablaa.VS
open Go Go.RowKit

theorem wrap64_in {x : Int} (h1 : -9223372036854775808 ≤ x) (h2 : x ≤ 9223372036854775807) : IntKind.i64.wrap x = x := by
  rw [IntWalk.i64_in _ ⟨h1, h2⟩]
theorem bop_add {x y : Int} (h1 : -9223372036854775808 ≤ x + y) (h2 : x + y ≤ 9223372036854775807) : bop .add .i64 x y = some (.i .i64 (x + y)) := by simp only [bop, wrap64_in h1 h2]
theorem bop_sub {x y : Int} (h1 : -9223372036854775808 ≤ x - y) (h2 : x - y ≤ 9223372036854775807) : bop .sub .i64 x y = some (.i .i64 (x - y)) := by simp only [bop, wrap64_in h1 h2]
theorem bop_mul {x y : Int} (h1 : -9223372036854775808 ≤ x * y) (h2 : x * y ≤ 9223372036854775807) : bop .mul .i64 x y = some (.i .i64 (x * y)) := by simp only [bop, wrap64_in h1 h2]
theorem bop_quo {x y : Int} (h0 : 0 ≤ x) (h1 : x ≤ 9223372036854775807) (h2 : 0 < y) : bop .quo .i64 x y = some (.i .i64 (x / y)) := by
  have h3 : x.tdiv y = x / y := Int.tdiv_eq_ediv_of_nonneg h0
  have h4 : 0 ≤ x / y := Int.ediv_nonneg h0 (by omega)
  have h5 : x / y ≤ x := Int.ediv_le_self y h0
  simp only [bop, if_neg (show ¬ y = 0 by omega), h3, wrap64_in (show -9223372036854775808 ≤ x / y by omega) (show x / y ≤ 9223372036854775807 by omega)]
theorem bop_rem {x y : Int} (h0 : 0 ≤ x) (h2 : 0 < y) : bop .rem .i64 x y = some (.i .i64 (x % y)) := by
  simp only [bop, if_neg (show ¬ y = 0 by omega), Int.tmod_eq_emod_of_nonneg h0]
theorem wrapU64_in {x : Int} (h1 : 0 ≤ x) (h2 : x ≤ 18446744073709551615) : IntKind.u64.wrap x = x := IntWalk.u64_in x ⟨h1, h2⟩
theorem wrapU8_in {x : Int} (h1 : 0 ≤ x) (h2 : x ≤ 255) : IntKind.u8.wrap x = x := IntWalk.u8_in x ⟨h1, h2⟩
theorem bopu_add {x y : Int} (h1 : 0 ≤ x + y) (h2 : x + y ≤ 18446744073709551615) : bop .add .u64 x y = some (.i .u64 (x + y)) := by simp only [bop, wrapU64_in h1 h2]
theorem bopu_mul {x y : Int} (h1 : 0 ≤ x * y) (h2 : x * y ≤ 18446744073709551615) : bop .mul .u64 x y = some (.i .u64 (x * y)) := by simp only [bop, wrapU64_in h1 h2]
theorem bopu_quo {x y : Int} (h0 : 0 ≤ x) (h1 : x ≤ 18446744073709551615) (h2 : 0 < y) : bop .quo .u64 x y = some (.i .u64 (x / y)) := by
  have h3 : x.tdiv y = x / y := Int.tdiv_eq_ediv_of_nonneg h0
  have h4 : 0 ≤ x / y := Int.ediv_nonneg h0 (by omega)
  have h5 : x / y ≤ x := Int.ediv_le_self y h0
  simp only [bop, if_neg (show ¬ y = 0 by omega), h3, wrapU64_in h4 (show x / y ≤ 18446744073709551615 by omega)]
theorem bop_and1 (x : Int) : bop .and .i64 x 1 = some (.i .i64 (x % 2)) := by
  have h1 : (BitVec.ofInt IntKind.i64.bits x &&& BitVec.ofInt IntKind.i64.bits 1).toNat = (x % 2).toNat := by
    show (BitVec.ofInt 64 x &&& BitVec.ofInt 64 1).toNat = (x % 2).toNat
    rw [BitVec.toNat_and]
    rw [show (BitVec.ofInt 64 1).toNat = 1 from rfl, Nat.and_one_is_mod, BitVec.toNat_ofInt]
    omega
  simp only [bop, h1]
  rw [show (((x % 2).toNat : Nat) : Int) = x % 2 by omega, wrap64_in (by omega) (by omega)]
theorem get_map {α β : Type} {f : α → β} {l : List α} {i : Nat} {x : α} (h : l[i]? = some x) : (l.map f)[i]? = some (f x) := by simp [h]
/-- The cells of a variable that is a copy. -/
inductive Boxed' : List FV → List Slot → Prop
  | nil : Boxed' [] []
  | cons {c : FV} {cs : List FV} {l : List Slot} (h : Boxed' cs l) : Boxed' (c :: cs) (.r (.v c) :: l)
def Boxed (cs : List FV) (zs : List Slot) : Prop := SplAt zs 0 cs zs ∧ zs.length = cs.length
theorem Boxed.nil : Boxed [] [] := ⟨.done, rfl⟩
theorem Boxed.cons {c : FV} {cs : List FV} {l : List Slot} (h : Boxed cs l) : Boxed (c :: cs) (.r (.v c) :: l) := ⟨.here h.1, by simp [h.2]⟩

/-- The elements of a slice literal, each given, in order. -/
def rowsOf : Nat → List (Nat × RV) → Option (List (List FV))
  | _, [] => some []
  | k, (i, y) :: l => if Nat.beq i k = true then (rowsOf (k + 1) l).map (y.flat :: ·) else none
theorem rowsOf_get : ∀ {k : Nat} {pd : List (Nat × RV)} {xs : List (List FV)}, rowsOf k pd = some xs → xs = pd.map (·.2.flat) ∧ ∀ (j : Nat) (q : Nat × RV), pd[j]? = some q → q.1 = k + j
  | k, [], xs, h => by simp [rowsOf] at h; subst h; exact ⟨rfl, fun j q hj => by simp at hj⟩
  | k, (i, y) :: l, xs, h => by
    simp only [rowsOf] at h
    split at h
    · rename_i hi
      have hi : i = k := by simpa using hi
      cases hr : rowsOf (k + 1) l with
      | none => rw [hr] at h; cases h
      | some r =>
        rw [hr] at h
        simp at h
        obtain ⟨h1, h2⟩ := rowsOf_get hr
        refine ⟨by rw [← h, h1]; rfl, fun j q hj => ?_⟩
        cases j with
        | zero => simp at hj; rw [← hj]; exact hi
        | succ j => have := h2 j q (by simpa using hj); omega
    · cases h
section
variable {P : Program} {ops : Array Oper} {N : Nat} {fin : St → List Rec → Prop} {l : List Oper} {E : List (Nat × Slot)} {O O' : List Ent} {rs : List Rec} {d : Nat} {ty : TypeId} {pos : String} {after : Array Edge} {g : Option (Nat × Bool)}
theorem fill_rows {w : World} {ok : Nat → Prop} {sz : Nat} : ∀ (parts : List (Nat × Value)) (pd : List (Nat × RV)) (k : Nat) (cells : Array Value) (done : List Value),
    All2 (fun p q => p.1 = q.1 ∧ q.2.rep w ok p.2) parts pd → (∀ (j : Nat) (q : Nat × RV), pd[j]? = some q → q.1 = k + j) → (∀ q ∈ pd, q.2.flat.length = sz) → cells.toList.take (k * sz) = done → cells.size = (k + pd.length) * sz →
    ∃ out, Instr.fill (fun i => some (i * sz, sz)) cells parts = some out ∧ ∃ vss : List (List Value), All2 (All2 (FRep w ok)) (pd.map (·.2.flat)) vss ∧ out.toList = done ++ vss.flatten := by
  intro parts
  induction parts with
  | nil =>
    intro pd k cells done h _ _ hd hs
    cases h
    refine ⟨cells, rfl, [], .nil, ?_⟩
    simp only [List.length_nil, Nat.add_zero] at hs
    simp only [List.flatten_nil, List.append_nil]
    rw [← hd, List.take_of_length_le (by simp [hs])]
  | cons p parts ih =>
    intro pd k cells done h hi hl hd hs
    cases h with
    | cons h1 h2 =>
      rename_i q qs
      obtain ⟨i', v⟩ := p
      obtain ⟨i, y⟩ := q
      obtain ⟨rfl, hrep⟩ := h1
      have hk : i' = k := hi 0 _ rfl
      subst hk
      have hfl := hrep.flat
      have hvl : v.cells.size = sz := by have := hfl.length; rw [hl (i', y) (.head _)] at this; simpa using this.symm
      have hsz : cells.size = i' * sz + (qs.length + 1) * sz := by rw [hs, List.length_cons, Nat.add_mul]
      have hsz' : i' * sz + sz ≤ cells.size := by rw [hsz, Nat.succ_mul]; omega
      simp only [Instr.fill]
      have hle : ¬ (v.cells.size ≠ sz || decide (i' * sz + v.cells.size > cells.size)) = true := by simp [hvl]; omega
      rw [if_neg hle]
      have hset := foldl_set v.cells.toList (i' * sz) 0 cells (by simp [hvl]; omega)
      rw [Nat.add_zero] at hset
      rw [← Array.foldl_toList, Array.toList_zipIdx]
      generalize hc' : (v.cells.toList.zipIdx).foldl (fun cs (p : Value × Nat) => cs.setIfInBounds (i' * sz + p.2) p.1) cells = cells' at hset
      have hlen' : cells'.size = cells.size := by
        have := congrArg List.length hset
        simp only [splice, List.length_append, List.length_take, List.length_drop, Array.length_toList, hvl] at this
        omega
      obtain ⟨out, ho, vss, hA, hout⟩ := ih qs (i' + 1) cells' (done ++ v.cells.toList) h2 (fun j q hj => by have := hi (j + 1) q (by simpa using hj); omega) (fun q hq => hl q (.tail _ hq)) (by
        rw [hset, splice, ← hd, Nat.succ_mul, List.take_append_of_le_length (by simp [List.length_take, hvl]; omega), List.take_of_length_le (by simp [List.length_take, hvl]; omega)]) (by rw [hlen', hs, List.length_cons]; congr 1; omega)
      exact ⟨out, ho, v.cells.toList :: vss, .cons hfl hA, by rw [hout]; simp⟩
/-- A slice literal that is turned no more. -/
theorem rBs {t e sz b len : Nat} [Sli P t e sz b] {zs : List Slot} [Zero P e zs] {parts : Array (Nat × Operand)} {pd : List (Nat × RV)} {xs : List (List FV)} {touch : List Nat} (hp : Parts E O touch parts.toList pd) (hr : rowsOf 0 pd = some xs) (hl : xs.length = len) (hs : ∀ x ∈ xs, x.length = sz) (hz : zs.length = sz) (h24 : len * sz ≤ 16777216) (hd : d < N) (hw : W ops E g)
    (k : Runs P ops N fin l ⟨(d, .r (.v (.sl xs))) :: E, O⟩ (⟨.r (.v (.sl xs)), none, touch⟩ :: rs)) : Runs P ops N fin (⟨some d, .buildSlice t len parts, ty, pos, after, g⟩ :: l) ⟨E, O⟩ rs := by
  refine Runs.op (o := ⟨some d, .buildSlice t len parts, ty, pos, after, g⟩) (r := ⟨.r (.v (.sl xs)), none, touch⟩) ?_ hw.wants trivial k
  intro w0 ok0 ρ env' ents' a w hev ht hR K Q hK
  have hr' : ∀ x ∈ (Op.buildSlice t len parts).operands, SlotRep w (okS w0 ok0 ents' ρ) ents' ρ (ev (look E) x) (a.eval x) := fun x hx => by
    rw [show ev (look E) x = _ from (hev x hx).symm]; exact hR.ev x
  obtain ⟨i, h1, h2, h3, h4, h0⟩ := Sli.spec (P := P) t e sz b
  obtain ⟨i', z, vs, h5, h6, h7, h8⟩ := Zero.h (P := P) (t := e) (zs := zs)
  rw [h2] at h5
  cases h5
  have hrep := hp.rep (a := a) (fun p hp => hr' p.2 (by simp only [Op.operands]; simpa using ⟨p.1, by simpa using hp⟩)) ht hR.ent
  obtain ⟨hxs, hidx⟩ := rowsOf_get hr
  have hpl : pd.length = len := by rw [← hl, hxs, List.length_map]
  obtain ⟨out, ho, vss, hA, hout⟩ := fill_rows (sz := sz) _ pd 0 ((Array.range (len * sz)).map fun m => (if len * sz = 0 then #[] else z.cells)[m % (if len * sz = 0 then #[] else z.cells).size]!) [] hrep (fun j q hj => hidx j q hj) (fun q hq => hs _ (by rw [hxs]; exact List.mem_map.2 ⟨q, hq, rfl⟩)) (by simp) (by simp [hpl])
  rw [← hxs] at hA
  simp only [List.nil_append] at hout
  have hrun : (execOp a.eval ⟨some d, .buildSlice t len parts, ty, pos, after, g⟩).run P w = .ok (.value (.slice (some ⟨w.heap.size, 0, none⟩) len len)) (w.alloc (.cells out e)) := by
    have hpm : (parts.map fun (i, x) => (i, a.eval x)).toList = parts.toList.map fun p => (p.1, a.eval p.2) := by simp
    simp only [execOp, Instr.buildSlice, Sem.run_bind, run_underlying h1, Result.andThen_ok, sizeOf, typeInfo, run_program, h2, h3, Sem.run_pure]
    rw [if_neg (show ¬ len * sz > 2 ^ 24 by omega)]
    simp only [hpm]
    by_cases hlz : len * sz = 0
    · have e0 : ∀ f : Nat → Value, (Array.range 0).map f = #[] := fun f => by simp
      simp only [hlz, if_true, e0] at ho
      simp only [hlz, if_true, Sem.run_pure, Result.andThen_ok, e0, ho]
      simp [newRow, newObj, Sem.run]
    · simp only [hlz, if_false] at ho ⊢
      simp [zeroValue, typeInfo, h2, h6, ho, newRow, newObj, Sem.run]
  unfold Oper.wp
  rw [hrun]
  have hb : Below w.heap.size w (w.alloc (.cells out e)) := (Below.refl _ _).alloc (Nat.le_refl _) _
  have hR' := hR.later hb
  have hos : out.size = len * sz := by
    have := congrArg List.length hout
    rw [Array.length_toList, flat_len (hA.lens hs), ← hA.length, hl] at this
    exact this
  have hown : (w.alloc (.cells out e)).ownsRow w.heap.size e sz (.slice (some ⟨w.heap.size, 0, none⟩) len len) xs.length vss.flatten := by
    rw [hl, ← hout]
    exact World.ownsRow_lit w out len (Nat.le_refl _) (by
      simp only [maxLen]
      have : len ≤ len * sz := Nat.le_mul_of_pos_right _ h0
      omega) hos
  refine hK _ _ ⟨ρ, hR'.put (some d) (fun d' h => by cases h; exact hd) ?_⟩
  show FRep _ _ (.sl xs) _
  refine rep_of_row hown (hA.imp fun _ _ h => h.imp fun _ _ => FRep.mono (fun k hk hlt => ⟨hb.block k hlt, hk⟩)) hs h0 (fun g' hg => ?_) (row_le hown)
  cases hg
  exact ⟨fun hlt => absurd hlt (Nat.not_lt.2 hR.below.size), fun p hp hgp => absurd (hR.blk_lt hp hgp).2 (Nat.lt_irrefl _)⟩
theorem mv {x : Operand} {s : Slot} (k : Runs P ops N fin l ⟨(d, s) :: E, O⟩ (⟨s, none, []⟩ :: rs))
    (hx : Opd E x (s) := by first | exact Opd.int _ _ | exact Opd.bool _ | exact Opd.nil | exact Opd.fn _ | exact Opd.str _ | (apply Opd.tmp; ((repeat apply Look.there rfl); exact Look.here)))
    (hd : d < N := by decide)
    (hw : W ops E g := by first | exact W.none | (apply wof rfl; ((repeat apply Look.there rfl); exact Look.here); first | assumption | exact rfl)) :
    Runs P ops N fin (⟨some d, .move x, ty, pos, after, g⟩ :: l) ⟨E, O⟩ rs := rMv hx hd hw k
theorem as_ {x : Operand} {s : Slot} (k : Runs P ops N fin l ⟨(d, s) :: E, O⟩ (⟨s, none, []⟩ :: rs))
    (hx : Opd E x (s) := by first | exact Opd.int _ _ | exact Opd.bool _ | exact Opd.nil | exact Opd.fn _ | exact Opd.str _ | (apply Opd.tmp; ((repeat apply Look.there rfl); exact Look.here)))
    (hd : d < N := by decide)
    (hw : W ops E g := by first | exact W.none | (apply wof rfl; ((repeat apply Look.there rfl); exact Look.here); first | assumption | exact rfl)) :
    Runs P ops N fin (⟨some d, .assign x, ty, pos, after, g⟩ :: l) ⟨E, O⟩ rs := rAs hx hd hw k
theorem pkT {c x y : Operand} {s : Slot} {cc : Bool} (k : Runs P ops N fin l ⟨(d, s) :: E, O⟩ (⟨s, none, []⟩ :: rs))
    (hc : Opd E c (.r (.v (.b cc))) := by first | exact Opd.int _ _ | exact Opd.bool _ | exact Opd.nil | exact Opd.fn _ | exact Opd.str _ | (apply Opd.tmp; ((repeat apply Look.there rfl); exact Look.here)))
    (hcc : cc = true := by first | assumption | exact rfl)
    (hx : Opd E x (s) := by first | exact Opd.int _ _ | exact Opd.bool _ | exact Opd.nil | exact Opd.fn _ | exact Opd.str _ | (apply Opd.tmp; ((repeat apply Look.there rfl); exact Look.here)))
    (hd : d < N := by decide)
    (hw : W ops E g := by first | exact W.none | (apply wof rfl; ((repeat apply Look.there rfl); exact Look.here); first | assumption | exact rfl)) :
    Runs P ops N fin (⟨some d, .pick c x y, ty, pos, after, g⟩ :: l) ⟨E, O⟩ rs := rPkT (hcc ▸ hc) hx hd hw k
theorem pkF {c x y : Operand} {s : Slot} {cc : Bool} (k : Runs P ops N fin l ⟨(d, s) :: E, O⟩ (⟨s, none, []⟩ :: rs))
    (hc : Opd E c (.r (.v (.b cc))) := by first | exact Opd.int _ _ | exact Opd.bool _ | exact Opd.nil | exact Opd.fn _ | exact Opd.str _ | (apply Opd.tmp; ((repeat apply Look.there rfl); exact Look.here)))
    (hcc : cc = false := by first | assumption | exact rfl)
    (hy : Opd E y (s) := by first | exact Opd.int _ _ | exact Opd.bool _ | exact Opd.nil | exact Opd.fn _ | exact Opd.str _ | (apply Opd.tmp; ((repeat apply Look.there rfl); exact Look.here)))
    (hd : d < N := by decide)
    (hw : W ops E g := by first | exact W.none | (apply wof rfl; ((repeat apply Look.there rfl); exact Look.here); first | assumption | exact rfl)) :
    Runs P ops N fin (⟨some d, .pick c x y, ty, pos, after, g⟩ :: l) ⟨E, O⟩ rs := rPkF (hcc ▸ hc) hy hd hw k
theorem bo {b : BinOp} {x y : Operand} {t t' : TypeId} {kk : IntKind} {m n : Int} {z : FV} (k : Runs P ops N fin l ⟨(d, .r (.v z)) :: E, O⟩ (⟨.r (.v z), none, []⟩ :: rs))
    (hx : Opd E x (.r (.v (.i kk m))) := by first | exact Opd.int _ _ | exact Opd.bool _ | exact Opd.nil | exact Opd.fn _ | exact Opd.str _ | (apply Opd.tmp; ((repeat apply Look.there rfl); exact Look.here)))
    (hy : Opd E y (.r (.v (.i kk n))) := by first | exact Opd.int _ _ | exact Opd.bool _ | exact Opd.nil | exact Opd.fn _ | exact Opd.str _ | (apply Opd.tmp; ((repeat apply Look.there rfl); exact Look.here)))
    (hz : bop b kk m n = some z := by first | exact bop_sub (by omega) (by omega) | exact bop_add (by omega) (by omega) | exact bop_quo (by omega) (by omega) (by omega) | exact bop_rem (by omega) (by omega) | exact bop_mul (by omega) (by omega) | exact bop_and1 _ | exact bopu_add (by omega) (by omega) | exact bopu_mul (by omega) (by omega) | exact bopu_quo (by omega) (by omega) (by omega) | exact rfl)
    (hd : d < N := by decide)
    (hw : W ops E g := by first | exact W.none | (apply wof rfl; ((repeat apply Look.there rfl); exact Look.here); first | assumption | exact rfl)) :
    Runs P ops N fin (⟨some d, .binOp b t x y t', ty, pos, after, g⟩ :: l) ⟨E, O⟩ rs := rBo hx hy hz hd hw k
theorem bq {b : BinOp} {x y : Operand} {t t' : TypeId} {kk : IntKind} {m n : Int} {z : Bool} (k : ∀ c : Bool, z = c → Runs P ops N fin l ⟨(d, .r (.v (.b c))) :: E, O⟩ (⟨.r (.v (.b c)), none, []⟩ :: rs))
    (hx : Opd E x (.r (.v (.i kk m))) := by first | exact Opd.int _ _ | exact Opd.bool _ | exact Opd.nil | exact Opd.fn _ | exact Opd.str _ | (apply Opd.tmp; ((repeat apply Look.there rfl); exact Look.here)))
    (hy : Opd E y (.r (.v (.i kk n))) := by first | exact Opd.int _ _ | exact Opd.bool _ | exact Opd.nil | exact Opd.fn _ | exact Opd.str _ | (apply Opd.tmp; ((repeat apply Look.there rfl); exact Look.here)))
    (hz : bop b kk m n = some (.b z) := by exact rfl)
    (hd : d < N := by decide)
    (hw : W ops E g := by first | exact W.none | (apply wof rfl; ((repeat apply Look.there rfl); exact Look.here); first | assumption | exact rfl)) :
    Runs P ops N fin (⟨some d, .binOp b t x y t', ty, pos, after, g⟩ :: l) ⟨E, O⟩ rs := rBq hx hy hz hd hw k
theorem sh {b : BinOp} {x y : Operand} {t t' : TypeId} {kk kk' : IntKind} {m n : Int} {z : FV} (k : Runs P ops N fin l ⟨(d, .r (.v z)) :: E, O⟩ (⟨.r (.v z), none, []⟩ :: rs))
    (hx : Opd E x (.r (.v (.i kk m))) := by first | exact Opd.int _ _ | exact Opd.bool _ | exact Opd.nil | exact Opd.fn _ | exact Opd.str _ | (apply Opd.tmp; ((repeat apply Look.there rfl); exact Look.here)))
    (hy : Opd E y (.r (.v (.i kk' n))) := by first | exact Opd.int _ _ | exact Opd.bool _ | exact Opd.nil | exact Opd.fn _ | exact Opd.str _ | (apply Opd.tmp; ((repeat apply Look.there rfl); exact Look.here)))
    (hz : shop b kk m n = some z := by exact rfl)
    (hd : d < N := by decide)
    (hw : W ops E g := by first | exact W.none | (apply wof rfl; ((repeat apply Look.there rfl); exact Look.here); first | assumption | exact rfl)) :
    Runs P ops N fin (⟨some d, .binOp b t x y t', ty, pos, after, g⟩ :: l) ⟨E, O⟩ rs := rSh hx hy hz hd hw k
theorem be {x y : Operand} {t t' : TypeId} [IsBool P t] {m n : Bool} (k : Runs P ops N fin l ⟨(d, .r (.v (.b (m == n)))) :: E, O⟩ (⟨.r (.v (.b (m == n))), none, []⟩ :: rs))
    (hx : Opd E x (.r (.v (.b m))) := by first | exact Opd.int _ _ | exact Opd.bool _ | exact Opd.nil | exact Opd.fn _ | exact Opd.str _ | (apply Opd.tmp; ((repeat apply Look.there rfl); exact Look.here)))
    (hy : Opd E y (.r (.v (.b n))) := by first | exact Opd.int _ _ | exact Opd.bool _ | exact Opd.nil | exact Opd.fn _ | exact Opd.str _ | (apply Opd.tmp; ((repeat apply Look.there rfl); exact Look.here)))
    (hd : d < N := by decide)
    (hw : W ops E g := by first | exact W.none | (apply wof rfl; ((repeat apply Look.there rfl); exact Look.here); first | assumption | exact rfl)) :
    Runs P ops N fin (⟨some d, .binOp .eql t x y t', ty, pos, after, g⟩ :: l) ⟨E, O⟩ rs := rBe hx hy hd hw k
theorem bn {x y : Operand} {t t' : TypeId} [IsBool P t] {m n : Bool} (k : Runs P ops N fin l ⟨(d, .r (.v (.b (m != n)))) :: E, O⟩ (⟨.r (.v (.b (m != n))), none, []⟩ :: rs))
    (hx : Opd E x (.r (.v (.b m))) := by first | exact Opd.int _ _ | exact Opd.bool _ | exact Opd.nil | exact Opd.fn _ | exact Opd.str _ | (apply Opd.tmp; ((repeat apply Look.there rfl); exact Look.here)))
    (hy : Opd E y (.r (.v (.b n))) := by first | exact Opd.int _ _ | exact Opd.bool _ | exact Opd.nil | exact Opd.fn _ | exact Opd.str _ | (apply Opd.tmp; ((repeat apply Look.there rfl); exact Look.here)))
    (hd : d < N := by decide)
    (hw : W ops E g := by first | exact W.none | (apply wof rfl; ((repeat apply Look.there rfl); exact Look.here); first | assumption | exact rfl)) :
    Runs P ops N fin (⟨some d, .binOp .neq t x y t', ty, pos, after, g⟩ :: l) ⟨E, O⟩ rs := rBn hx hy hd hw k
theorem nt {x : Operand} {t : TypeId} {m : Bool} (k : Runs P ops N fin l ⟨(d, .r (.v (.b (!m)))) :: E, O⟩ (⟨.r (.v (.b (!m))), none, []⟩ :: rs))
    (hx : Opd E x (.r (.v (.b m))) := by first | exact Opd.int _ _ | exact Opd.bool _ | exact Opd.nil | exact Opd.fn _ | exact Opd.str _ | (apply Opd.tmp; ((repeat apply Look.there rfl); exact Look.here)))
    (hd : d < N := by decide)
    (hw : W ops E g := by first | exact W.none | (apply wof rfl; ((repeat apply Look.there rfl); exact Look.here); first | assumption | exact rfl)) :
    Runs P ops N fin (⟨some d, .unOp .not t x, ty, pos, after, g⟩ :: l) ⟨E, O⟩ rs := rNt hx hd hw k
theorem ng {x : Operand} {t : TypeId} {kk : IntKind} {m n : Int} (k : Runs P ops N fin l ⟨(d, .r (.v (.i kk n))) :: E, O⟩ (⟨.r (.v (.i kk n)), none, []⟩ :: rs))
    (hx : Opd E x (.r (.v (.i kk m))) := by first | exact Opd.int _ _ | exact Opd.bool _ | exact Opd.nil | exact Opd.fn _ | exact Opd.str _ | (apply Opd.tmp; ((repeat apply Look.there rfl); exact Look.here)))
    (hz : kk.wrap (0 - m) = n := by first | exact (wrap64_in (by omega) (by omega)).trans (Int.zero_sub _) | exact rfl)
    (hd : d < N := by decide)
    (hw : W ops E g := by first | exact W.none | (apply wof rfl; ((repeat apply Look.there rfl); exact Look.here); first | assumption | exact rfl)) :
    Runs P ops N fin (⟨some d, .unOp .neg t x, ty, pos, after, g⟩ :: l) ⟨E, O⟩ rs := rNg hx hz hd hw k
theorem cv {x : Operand} {t t' : TypeId} {kk kk' : IntKind} {m n : Int} [IsInt P t kk] [IsInt P t' kk'] (k : Runs P ops N fin l ⟨(d, .r (.v (.i kk' n))) :: E, O⟩ (⟨.r (.v (.i kk' n)), none, []⟩ :: rs))
    (hx : Opd E x (.r (.v (.i kk m))) := by first | exact Opd.int _ _ | exact Opd.bool _ | exact Opd.nil | exact Opd.fn _ | exact Opd.str _ | (apply Opd.tmp; ((repeat apply Look.there rfl); exact Look.here)))
    (hz : kk'.wrap m = n := by first | exact wrap64_in (by omega) (by omega) | exact wrapU64_in (by omega) (by omega) | exact wrapU8_in (by omega) (by omega) | exact rfl)
    (hd : d < N := by decide)
    (hw : W ops E g := by first | exact W.none | (apply wof rfl; ((repeat apply Look.there rfl); exact Look.here); first | assumption | exact rfl)) :
    Runs P ops N fin (⟨some d, .convert t t' x, ty, pos, after, g⟩ :: l) ⟨E, O⟩ rs := rCv hx hz hd hw k
theorem ex {x : Operand} {n : Nat} {xs : List RV} {y : RV} (k : Runs P ops N fin l ⟨(d, .r y) :: E, O⟩ (⟨.r y, none, []⟩ :: rs))
    (hx : Opd E x (.tup xs) := by first | exact Opd.int _ _ | exact Opd.bool _ | exact Opd.nil | exact Opd.fn _ | exact Opd.str _ | (apply Opd.tmp; ((repeat apply Look.there rfl); exact Look.here)))
    (hy : xs[n]? = some y := by exact rfl)
    (hd : d < N := by decide)
    (hw : W ops E g := by first | exact W.none | (apply wof rfl; ((repeat apply Look.there rfl); exact Look.here); first | assumption | exact rfl)) :
    Runs P ops N fin (⟨some d, .extract x n, ty, pos, after, g⟩ :: l) ⟨E, O⟩ rs := rEx hx hy hd hw k
theorem mx2 {x y : Operand} {at_ : Array TypeId} {kk : IntKind} {m n : Int} (k : Runs P ops N fin l ⟨(d, .r (.v (.i kk (mx m n)))) :: E, O⟩ (⟨.r (.v (.i kk (mx m n))), none, []⟩ :: rs))
    (hx : Opd E x (.r (.v (.i kk m))) := by first | exact Opd.int _ _ | exact Opd.bool _ | exact Opd.nil | exact Opd.fn _ | exact Opd.str _ | (apply Opd.tmp; ((repeat apply Look.there rfl); exact Look.here)))
    (hy : Opd E y (.r (.v (.i kk n))) := by first | exact Opd.int _ _ | exact Opd.bool _ | exact Opd.nil | exact Opd.fn _ | exact Opd.str _ | (apply Opd.tmp; ((repeat apply Look.there rfl); exact Look.here)))
    (hd : d < N := by decide)
    (hw : W ops E g := by first | exact W.none | (apply wof rfl; ((repeat apply Look.there rfl); exact Look.here); first | assumption | exact rfl)) :
    Runs P ops N fin (⟨some d, .call { callee := .builtin .max, args := #[x, y], argTypes := at_ }, ty, pos, after, g⟩ :: l) ⟨E, O⟩ rs := rMx2 hx hy hd hw k
theorem mn2 {x y : Operand} {at_ : Array TypeId} {kk : IntKind} {m n : Int} (k : Runs P ops N fin l ⟨(d, .r (.v (.i kk (mn m n)))) :: E, O⟩ (⟨.r (.v (.i kk (mn m n))), none, []⟩ :: rs))
    (hx : Opd E x (.r (.v (.i kk m))) := by first | exact Opd.int _ _ | exact Opd.bool _ | exact Opd.nil | exact Opd.fn _ | exact Opd.str _ | (apply Opd.tmp; ((repeat apply Look.there rfl); exact Look.here)))
    (hy : Opd E y (.r (.v (.i kk n))) := by first | exact Opd.int _ _ | exact Opd.bool _ | exact Opd.nil | exact Opd.fn _ | exact Opd.str _ | (apply Opd.tmp; ((repeat apply Look.there rfl); exact Look.here)))
    (hd : d < N := by decide)
    (hw : W ops E g := by first | exact W.none | (apply wof rfl; ((repeat apply Look.there rfl); exact Look.here); first | assumption | exact rfl)) :
    Runs P ops N fin (⟨some d, .call { callee := .builtin .min, args := #[x, y], argTypes := at_ }, ty, pos, after, g⟩ :: l) ⟨E, O⟩ rs := rMn2 hx hy hd hw k
theorem mx3 {x y z : Operand} {at_ : Array TypeId} {kk : IntKind} {m n p : Int} (k : Runs P ops N fin l ⟨(d, .r (.v (.i kk (mx (mx m n) p)))) :: E, O⟩ (⟨.r (.v (.i kk (mx (mx m n) p))), none, []⟩ :: rs))
    (hx : Opd E x (.r (.v (.i kk m))) := by first | exact Opd.int _ _ | exact Opd.bool _ | exact Opd.nil | exact Opd.fn _ | exact Opd.str _ | (apply Opd.tmp; ((repeat apply Look.there rfl); exact Look.here)))
    (hy : Opd E y (.r (.v (.i kk n))) := by first | exact Opd.int _ _ | exact Opd.bool _ | exact Opd.nil | exact Opd.fn _ | exact Opd.str _ | (apply Opd.tmp; ((repeat apply Look.there rfl); exact Look.here)))
    (hz : Opd E z (.r (.v (.i kk p))) := by first | exact Opd.int _ _ | exact Opd.bool _ | exact Opd.nil | exact Opd.fn _ | exact Opd.str _ | (apply Opd.tmp; ((repeat apply Look.there rfl); exact Look.here)))
    (hd : d < N := by decide)
    (hw : W ops E g := by first | exact W.none | (apply wof rfl; ((repeat apply Look.there rfl); exact Look.here); first | assumption | exact rfl)) :
    Runs P ops N fin (⟨some d, .call { callee := .builtin .max, args := #[x, y, z], argTypes := at_ }, ty, pos, after, g⟩ :: l) ⟨E, O⟩ rs := rMx3 hx hy hz hd hw k
theorem mn3 {x y z : Operand} {at_ : Array TypeId} {kk : IntKind} {m n p : Int} (k : Runs P ops N fin l ⟨(d, .r (.v (.i kk (mn (mn m n) p)))) :: E, O⟩ (⟨.r (.v (.i kk (mn (mn m n) p))), none, []⟩ :: rs))
    (hx : Opd E x (.r (.v (.i kk m))) := by first | exact Opd.int _ _ | exact Opd.bool _ | exact Opd.nil | exact Opd.fn _ | exact Opd.str _ | (apply Opd.tmp; ((repeat apply Look.there rfl); exact Look.here)))
    (hy : Opd E y (.r (.v (.i kk n))) := by first | exact Opd.int _ _ | exact Opd.bool _ | exact Opd.nil | exact Opd.fn _ | exact Opd.str _ | (apply Opd.tmp; ((repeat apply Look.there rfl); exact Look.here)))
    (hz : Opd E z (.r (.v (.i kk p))) := by first | exact Opd.int _ _ | exact Opd.bool _ | exact Opd.nil | exact Opd.fn _ | exact Opd.str _ | (apply Opd.tmp; ((repeat apply Look.there rfl); exact Look.here)))
    (hd : d < N := by decide)
    (hw : W ops E g := by first | exact W.none | (apply wof rfl; ((repeat apply Look.there rfl); exact Look.here); first | assumption | exact rfl)) :
    Runs P ops N fin (⟨some d, .call { callee := .builtin .min, args := #[x, y, z], argTypes := at_ }, ty, pos, after, g⟩ :: l) ⟨E, O⟩ rs := rMn3 hx hy hz hd hw k
theorem ff {x : Operand} {t f off sz : Nat} {offs : List (Nat × Nat)} [Str P t offs] {cs : List FV} (k : Runs P ops N fin l ⟨(d, .fp (cs.drop off)) :: E, O⟩ (⟨.fp (cs.drop off), none, []⟩ :: rs))
    (hx : Opd E x (.fp cs) := by first | exact Opd.int _ _ | exact Opd.bool _ | exact Opd.nil | exact Opd.fn _ | exact Opd.str _ | (apply Opd.tmp; ((repeat apply Look.there rfl); exact Look.here)))
    (ho : offs[f]? = some (off, sz) := by exact rfl)
    (hd : d < N := by decide)
    (hw : W ops E g := by first | exact W.none | (apply wof rfl; ((repeat apply Look.there rfl); exact Look.here); first | assumption | exact rfl)) :
    Runs P ops N fin (⟨some d, .fieldAddr t x f, ty, pos, after, g⟩ :: l) ⟨E, O⟩ rs := rFf hx ho hd hw k
theorem fb {x : Operand} {t f off sz p o : Nat} {offs : List (Nat × Nat)} [Str P t offs] (k : Runs P ops N fin l ⟨(d, .box p (o + off)) :: E, O⟩ (⟨.box p (o + off), none, []⟩ :: rs))
    (hx : Opd E x (.box p o) := by first | exact Opd.int _ _ | exact Opd.bool _ | exact Opd.nil | exact Opd.fn _ | exact Opd.str _ | (apply Opd.tmp; ((repeat apply Look.there rfl); exact Look.here)))
    (ho : offs[f]? = some (off, sz) := by exact rfl)
    (hd : d < N := by decide)
    (hw : W ops E g := by first | exact W.none | (apply wof rfl; ((repeat apply Look.there rfl); exact Look.here); first | assumption | exact rfl)) :
    Runs P ops N fin (⟨some d, .fieldAddr t x f, ty, pos, after, g⟩ :: l) ⟨E, O⟩ rs := rFb hx ho hd hw k
theorem fo {x : Operand} {t f off sz p n o : Nat} {offs : List (Nat × Nat)} [Str P t offs] {e s : Nat} {xs : List (List FV)} (k : Runs P ops N fin l ⟨(d, .op p n (o + off)) :: E, O⟩ (⟨.op p n (o + off), none, [p]⟩ :: rs))
    (hx : Opd E x (.op p n o) := by first | exact Opd.int _ _ | exact Opd.bool _ | exact Opd.nil | exact Opd.fn _ | exact Opd.str _ | (apply Opd.tmp; ((repeat apply Look.there rfl); exact Look.here)))
    (ho : offs[f]? = some (off, sz) := by exact rfl)
    (hp : O.getD p .gone = .row e s xs := by exact rfl)
    (hn : n = xs.length := by first | assumption | exact rfl | (simp; done) | (simp; omega) | omega)
    (hd : d < N := by decide)
    (hw : W ops E g := by first | exact W.none | (apply wof rfl; ((repeat apply Look.there rfl); exact Look.here); first | assumption | exact rfl)) :
    Runs P ops N fin (⟨some d, .fieldAddr t x f, ty, pos, after, g⟩ :: l) ⟨E, O⟩ rs := rFo hx ho hp hn hd hw k
theorem xf {x y : Operand} {t n sz : Nat} [Arr P t n sz] {cs : List FV} {kk : IntKind} {i : Int} (k : Runs P ops N fin l ⟨(d, .fp (cs.drop (i.toNat * sz))) :: E, O⟩ (⟨.fp (cs.drop (i.toNat * sz)), none, []⟩ :: rs))
    (hx : Opd E x (.fp cs) := by first | exact Opd.int _ _ | exact Opd.bool _ | exact Opd.nil | exact Opd.fn _ | exact Opd.str _ | (apply Opd.tmp; ((repeat apply Look.there rfl); exact Look.here)))
    (hy : Opd E y (.r (.v (.i kk i))) := by first | exact Opd.int _ _ | exact Opd.bool _ | exact Opd.nil | exact Opd.fn _ | exact Opd.str _ | (apply Opd.tmp; ((repeat apply Look.there rfl); exact Look.here)))
    (h0 : 0 ≤ i := by first | decide | omega | (dsimp only; omega))
    (h1 : i < n := by first | decide | omega | (dsimp only; omega))
    (hd : d < N := by decide)
    (hw : W ops E g := by first | exact W.none | (apply wof rfl; ((repeat apply Look.there rfl); exact Look.here); first | assumption | exact rfl)) :
    Runs P ops N fin (⟨some d, .indexAddr t x y, ty, pos, after, g⟩ :: l) ⟨E, O⟩ rs := rIf hx hy h0 h1 hd hw k
theorem xb {x y : Operand} {t n sz p o : Nat} [Arr P t n sz] {kk : IntKind} {i : Int} (k : Runs P ops N fin l ⟨(d, .box p (o + i.toNat * sz)) :: E, O⟩ (⟨.box p (o + i.toNat * sz), none, []⟩ :: rs))
    (hx : Opd E x (.box p o) := by first | exact Opd.int _ _ | exact Opd.bool _ | exact Opd.nil | exact Opd.fn _ | exact Opd.str _ | (apply Opd.tmp; ((repeat apply Look.there rfl); exact Look.here)))
    (hy : Opd E y (.r (.v (.i kk i))) := by first | exact Opd.int _ _ | exact Opd.bool _ | exact Opd.nil | exact Opd.fn _ | exact Opd.str _ | (apply Opd.tmp; ((repeat apply Look.there rfl); exact Look.here)))
    (h0 : 0 ≤ i := by first | decide | omega | (dsimp only; omega))
    (h1 : i < n := by first | decide | omega | (dsimp only; omega))
    (hd : d < N := by decide)
    (hw : W ops E g := by first | exact W.none | (apply wof rfl; ((repeat apply Look.there rfl); exact Look.here); first | assumption | exact rfl)) :
    Runs P ops N fin (⟨some d, .indexAddr t x y, ty, pos, after, g⟩ :: l) ⟨E, O⟩ rs := rIb hx hy h0 h1 hd hw k
theorem xoa {x y : Operand} {t n sz p m o : Nat} [Arr P t n sz] {kk : IntKind} {i : Int} {e s : Nat} {xs : List (List FV)} (k : Runs P ops N fin l ⟨(d, .op p m (o + i.toNat * sz)) :: E, O⟩ (⟨.op p m (o + i.toNat * sz), none, [p]⟩ :: rs))
    (hx : Opd E x (.op p m o) := by first | exact Opd.int _ _ | exact Opd.bool _ | exact Opd.nil | exact Opd.fn _ | exact Opd.str _ | (apply Opd.tmp; ((repeat apply Look.there rfl); exact Look.here)))
    (hy : Opd E y (.r (.v (.i kk i))) := by first | exact Opd.int _ _ | exact Opd.bool _ | exact Opd.nil | exact Opd.fn _ | exact Opd.str _ | (apply Opd.tmp; ((repeat apply Look.there rfl); exact Look.here)))
    (h0 : 0 ≤ i := by first | decide | omega | (dsimp only; omega))
    (h1 : i < n := by first | decide | omega | (dsimp only; omega))
    (hp : O.getD p .gone = .row e s xs := by exact rfl)
    (hn : m = xs.length := by first | assumption | exact rfl | (simp; done) | (simp; omega) | omega)
    (hd : d < N := by decide)
    (hw : W ops E g := by first | exact W.none | (apply wof rfl; ((repeat apply Look.there rfl); exact Look.here); first | assumption | exact rfl)) :
    Runs P ops N fin (⟨some d, .indexAddr t x y, ty, pos, after, g⟩ :: l) ⟨E, O⟩ rs := rIoa hx hy h0 h1 hp hn hd hw k
theorem xs_ {x y : Operand} {t e sz b : Nat} [Sli P t e sz b] {xs : List (List FV)} {cs : List FV} {kk : IntKind} {i : Int} (k : Runs P ops N fin l ⟨(d, .fp cs) :: E, O⟩ (⟨.fp cs, none, []⟩ :: rs))
    (hx : Opd E x (.r (.v (.sl xs))) := by first | exact Opd.int _ _ | exact Opd.bool _ | exact Opd.nil | exact Opd.fn _ | exact Opd.str _ | (apply Opd.tmp; ((repeat apply Look.there rfl); exact Look.here)))
    (hy : Opd E y (.r (.v (.i kk i))) := by first | exact Opd.int _ _ | exact Opd.bool _ | exact Opd.nil | exact Opd.fn _ | exact Opd.str _ | (apply Opd.tmp; ((repeat apply Look.there rfl); exact Look.here)))
    (h0 : 0 ≤ i := by first | decide | omega | (dsimp only; omega))
    (hc : xs[i.toNat]? = some cs := by first | exact get_map (by assumption) | assumption | exact rfl)
    (hsz : cs.length = sz := by exact rfl)
    (hd : d < N := by decide)
    (hw : W ops E g := by first | exact W.none | (apply wof rfl; ((repeat apply Look.there rfl); exact Look.here); first | assumption | exact rfl)) :
    Runs P ops N fin (⟨some d, .indexAddr t x y, ty, pos, after, g⟩ :: l) ⟨E, O⟩ rs := rIs (touch := []) hx (fun _ _ => .v _) hy h0 hc hsz hd hw k
theorem xw {x y : Operand} {t e sz b : Nat} [Sli P t e sz b] {p n : Nat} {xs : List (List FV)} {cs : List FV} {kk : IntKind} {i : Int} (k : Runs P ops N fin l ⟨(d, .fp cs) :: E, O⟩ (⟨.fp cs, none, [p]⟩ :: rs))
    (hx : Opd E x (.own p n) := by first | exact Opd.int _ _ | exact Opd.bool _ | exact Opd.nil | exact Opd.fn _ | exact Opd.str _ | (apply Opd.tmp; ((repeat apply Look.there rfl); exact Look.here)))
    (hy : Opd E y (.r (.v (.i kk i))) := by first | exact Opd.int _ _ | exact Opd.bool _ | exact Opd.nil | exact Opd.fn _ | exact Opd.str _ | (apply Opd.tmp; ((repeat apply Look.there rfl); exact Look.here)))
    (hp : O.getD p .gone = .fro xs := by exact rfl)
    (hn : n = xs.length := by first | assumption | exact rfl | (simp; done) | (simp; omega) | omega)
    (h0 : 0 ≤ i := by first | decide | omega | (dsimp only; omega))
    (hc : xs[i.toNat]? = some cs := by first | exact get_map (by assumption) | assumption | exact rfl)
    (hsz : cs.length = sz := by exact rfl)
    (hd : d < N := by decide)
    (hw : W ops E g := by first | exact W.none | (apply wof rfl; ((repeat apply Look.there rfl); exact Look.here); first | assumption | exact rfl)) :
    Runs P ops N fin (⟨some d, .indexAddr t x y, ty, pos, after, g⟩ :: l) ⟨E, O⟩ rs := rIs (touch := [p]) hx (fun _ h => .fro ((h p (by simp)).trans hp) hn) hy h0 hc hsz hd hw k
theorem xo {x y : Operand} {t e sz b : Nat} [Sli P t e sz b] {p n : Nat} {xs : List (List FV)} {kk : IntKind} {i : Int} {e' : Nat} (k : Runs P ops N fin l ⟨(d, .op p n (i.toNat * sz)) :: E, O⟩ (⟨.op p n (i.toNat * sz), none, [p]⟩ :: rs))
    (hx : Opd E x (.own p n) := by first | exact Opd.int _ _ | exact Opd.bool _ | exact Opd.nil | exact Opd.fn _ | exact Opd.str _ | (apply Opd.tmp; ((repeat apply Look.there rfl); exact Look.here)))
    (hp : O.getD p .gone = .row e' sz xs := by exact rfl)
    (hn : n = xs.length := by first | assumption | exact rfl | (simp; done) | (simp; omega) | omega)
    (hy : Opd E y (.r (.v (.i kk i))) := by first | exact Opd.int _ _ | exact Opd.bool _ | exact Opd.nil | exact Opd.fn _ | exact Opd.str _ | (apply Opd.tmp; ((repeat apply Look.there rfl); exact Look.here)))
    (h0 : 0 ≤ i := by first | decide | omega | (dsimp only; omega))
    (hi : i < xs.length := by first | omega | (simp; omega))
    (hd : d < N := by decide)
    (hw : W ops E g := by first | exact W.none | (apply wof rfl; ((repeat apply Look.there rfl); exact Look.here); first | assumption | exact rfl)) :
    Runs P ops N fin (⟨some d, .indexAddr t x y, ty, pos, after, g⟩ :: l) ⟨E, O⟩ rs := rIo hx hp hn hy h0 hi hd hw k
theorem l1f {x : Operand} {t : TypeId} [Plain P t] {c : FV} {cs : List FV} (k : Runs P ops N fin l ⟨(d, .r (.v c)) :: E, O⟩ (⟨.r (.v c), none, []⟩ :: rs))
    (hx : Opd E x (.fp (c :: cs)) := by first | exact Opd.int _ _ | exact Opd.bool _ | exact Opd.nil | exact Opd.fn _ | exact Opd.str _ | (apply Opd.tmp; ((repeat apply Look.there rfl); exact Look.here)))
    (hd : d < N := by decide)
    (hw : W ops E g := by first | exact W.none | (apply wof rfl; ((repeat apply Look.there rfl); exact Look.here); first | assumption | exact rfl)) :
    Runs P ops N fin (⟨some d, .load t x, ty, pos, after, g⟩ :: l) ⟨E, O⟩ rs := rL1f hx hd hw k
theorem lAf {x : Operand} {t n : Nat} [Agg P t n] {cs : List FV} (k : Runs P ops N fin l ⟨(d, .r (.agg (cs.take n))) :: E, O⟩ (⟨.r (.agg (cs.take n)), none, []⟩ :: rs))
    (hx : Opd E x (.fp cs) := by first | exact Opd.int _ _ | exact Opd.bool _ | exact Opd.nil | exact Opd.fn _ | exact Opd.str _ | (apply Opd.tmp; ((repeat apply Look.there rfl); exact Look.here)))
    (hn : n ≤ cs.length := by first | exact Nat.le_of_ble_eq_true rfl | simp)
    (hd : d < N := by decide)
    (hw : W ops E g := by first | exact W.none | (apply wof rfl; ((repeat apply Look.there rfl); exact Look.here); first | assumption | exact rfl)) :
    Runs P ops N fin (⟨some d, .load t x, ty, pos, after, g⟩ :: l) ⟨E, O⟩ rs := rLAf hx hn hd hw k
theorem l1b {x : Operand} {t : TypeId} [Plain P t] {p o ty' : Nat} {cs : List Slot} {s : Slot} (k : Runs P ops N fin l ⟨(d, s) :: E, O⟩ (⟨s, none, [p]⟩ :: rs))
    (hx : Opd E x (.box p o) := by first | exact Opd.int _ _ | exact Opd.bool _ | exact Opd.nil | exact Opd.fn _ | exact Opd.str _ | (apply Opd.tmp; ((repeat apply Look.there rfl); exact Look.here)))
    (hp : O.getD p .gone = .box ty' cs := by exact rfl)
    (hs : cs[o]? = some s := by exact rfl)
    (hd : d < N := by decide)
    (hw : W ops E g := by first | exact W.none | (apply wof rfl; ((repeat apply Look.there rfl); exact Look.here); first | assumption | exact rfl)) :
    Runs P ops N fin (⟨some d, .load t x, ty, pos, after, g⟩ :: l) ⟨E, O⟩ rs := rL1b hx hp hs hd hw k
theorem lAb {x : Operand} {t n : Nat} [Agg P t n] {p o ty' : Nat} {cs : List Slot} {fs : List FV} (k : Runs P ops N fin l ⟨(d, .r (.agg fs)) :: E, O⟩ (⟨.r (.agg fs), none, [p]⟩ :: rs))
    (hx : Opd E x (.box p o) := by first | exact Opd.int _ _ | exact Opd.bool _ | exact Opd.nil | exact Opd.fn _ | exact Opd.str _ | (apply Opd.tmp; ((repeat apply Look.there rfl); exact Look.here)))
    (hp : O.getD p .gone = .box ty' cs := by exact rfl)
    (hn : n ≤ (cs.drop o).length := by exact Nat.le_of_ble_eq_true rfl)
    (hf : ∀ ents', (∀ q ∈ [p], ents' q = O.getD q .gone) → All2 (IsF ents') ((cs.drop o).take n) fs := by exact fun _ _ => by ((repeat (first | apply All2.cons (IsF.v _) | apply All2.cons IsF.nil)); exact All2.nil))
    (hd : d < N := by decide)
    (hw : W ops E g := by first | exact W.none | (apply wof rfl; ((repeat apply Look.there rfl); exact Look.here); first | assumption | exact rfl)) :
    Runs P ops N fin (⟨some d, .load t x, ty, pos, after, g⟩ :: l) ⟨E, O⟩ rs := rLAb (touch := [p]) hx hp hn (by simp) hf hd hw k
theorem l1o {x : Operand} {t : TypeId} [Plain P t] {p n o e sz i j : Nat} {xs : List (List FV)} {cs : List FV} {c : FV} (k : Runs P ops N fin l ⟨(d, .r (.v c)) :: E, O⟩ (⟨.r (.v c), none, [p]⟩ :: rs))
    (hx : Opd E x (.op p n o) := by first | exact Opd.int _ _ | exact Opd.bool _ | exact Opd.nil | exact Opd.fn _ | exact Opd.str _ | (apply Opd.tmp; ((repeat apply Look.there rfl); exact Look.here)))
    (hp : O.getD p .gone = .row e sz xs := by exact rfl)
    (hn : n = xs.length := by first | assumption | exact rfl | (simp; done) | (simp; omega) | omega)
    (ho : o = i * sz + j := by exact rfl)
    (hi : xs[i]? = some cs := by first | exact get_map (by assumption) | assumption | exact rfl)
    (hc : cs[j]? = some c := by exact rfl)
    (hd : d < N := by decide)
    (hw : W ops E g := by first | exact W.none | (apply wof rfl; ((repeat apply Look.there rfl); exact Look.here); first | assumption | exact rfl)) :
    Runs P ops N fin (⟨some d, .load t x, ty, pos, after, g⟩ :: l) ⟨E, O⟩ rs := rL1o hx hp hn ho hi hc hd hw k
theorem ln {x : Operand} {t e sz b : Nat} [Sli P t e sz b] {xs : List (List FV)} (k : Runs P ops N fin l ⟨(d, .r (.v (.i .i64 xs.length))) :: E, O⟩ (⟨.r (.v (.i .i64 xs.length)), none, []⟩ :: rs))
    (hx : Opd E x (.r (.v (.sl xs))) := by first | exact Opd.int _ _ | exact Opd.bool _ | exact Opd.nil | exact Opd.fn _ | exact Opd.str _ | (apply Opd.tmp; ((repeat apply Look.there rfl); exact Look.here)))
    (hd : d < N := by decide)
    (hw : W ops E g := by first | exact W.none | (apply wof rfl; ((repeat apply Look.there rfl); exact Look.here); first | assumption | exact rfl)) :
    Runs P ops N fin (⟨some d, .call { callee := .builtin .len, args := #[x], argTypes := #[t] }, ty, pos, after, g⟩ :: l) ⟨E, O⟩ rs := rLn (touch := []) hx (fun _ _ => .v _) hd hw k
theorem lnN {x : Operand} {t e sz b : Nat} [Sli P t e sz b] (k : Runs P ops N fin l ⟨(d, .r (.v (.i .i64 0))) :: E, O⟩ (⟨.r (.v (.i .i64 0)), none, []⟩ :: rs))
    (hx : Opd E x (.nil) := by first | exact Opd.int _ _ | exact Opd.bool _ | exact Opd.nil | exact Opd.fn _ | exact Opd.str _ | (apply Opd.tmp; ((repeat apply Look.there rfl); exact Look.here)))
    (hd : d < N := by decide)
    (hw : W ops E g := by first | exact W.none | (apply wof rfl; ((repeat apply Look.there rfl); exact Look.here); first | assumption | exact rfl)) :
    Runs P ops N fin (⟨some d, .call { callee := .builtin .len, args := #[x], argTypes := #[t] }, ty, pos, after, g⟩ :: l) ⟨E, O⟩ rs := rLn (touch := []) hx (fun _ _ => .nil) hd hw k
theorem lnW {x : Operand} {t e sz b : Nat} [Sli P t e sz b] {p n : Nat} {xs : List (List FV)} (k : Runs P ops N fin l ⟨(d, .r (.v (.i .i64 xs.length))) :: E, O⟩ (⟨.r (.v (.i .i64 xs.length)), none, [p]⟩ :: rs))
    (hx : Opd E x (.own p n) := by first | exact Opd.int _ _ | exact Opd.bool _ | exact Opd.nil | exact Opd.fn _ | exact Opd.str _ | (apply Opd.tmp; ((repeat apply Look.there rfl); exact Look.here)))
    (hp : O.getD p .gone = .fro xs := by exact rfl)
    (hn : n = xs.length := by first | assumption | exact rfl | (simp; done) | (simp; omega) | omega)
    (hd : d < N := by decide)
    (hw : W ops E g := by first | exact W.none | (apply wof rfl; ((repeat apply Look.there rfl); exact Look.here); first | assumption | exact rfl)) :
    Runs P ops N fin (⟨some d, .call { callee := .builtin .len, args := #[x], argTypes := #[t] }, ty, pos, after, g⟩ :: l) ⟨E, O⟩ rs := rLn (touch := [p]) hx (fun _ h => .fro ((h p (by simp)).trans hp) hn) hd hw k
theorem lnO {x : Operand} {t e sz b e' sz' : Nat} [Sli P t e sz b] {p n : Nat} {xs : List (List FV)} (k : Runs P ops N fin l ⟨(d, .r (.v (.i .i64 n))) :: E, O⟩ (⟨.r (.v (.i .i64 n)), none, [p]⟩ :: rs))
    (hx : Opd E x (.own p n) := by first | exact Opd.int _ _ | exact Opd.bool _ | exact Opd.nil | exact Opd.fn _ | exact Opd.str _ | (apply Opd.tmp; ((repeat apply Look.there rfl); exact Look.here)))
    (hp : O.getD p .gone = .row e' sz' xs := by exact rfl)
    (hn : n = xs.length := by first | assumption | exact rfl | (simp; done) | (simp; omega) | omega)
    (hd : d < N := by decide)
    (hw : W ops E g := by first | exact W.none | (apply wof rfl; ((repeat apply Look.there rfl); exact Look.here); first | assumption | exact rfl)) :
    Runs P ops N fin (⟨some d, .call { callee := .builtin .len, args := #[x], argTypes := #[t] }, ty, pos, after, g⟩ :: l) ⟨E, O⟩ rs := rLnO hx hp hn hd hw k
theorem buS {t : TypeId} {offs : List (Nat × Nat)} {zs : List Slot} [Str P t offs] [Zero P t zs] {parts : Array (Nat × Operand)} {pd : List (Nat × RV)} {cs : List FV} (k : Runs P ops N fin l ⟨(d, .r (.agg cs)) :: E, O⟩ (⟨.r (.agg cs), none, []⟩ :: rs))
    (hp : Parts E O [] parts.toList pd := by ((repeat (apply Parts.cons (by first | exact Opd.int _ _ | exact Opd.bool _ | exact Opd.nil | exact Opd.fn _ | exact Opd.str _ | (apply Opd.tmp; ((repeat apply Look.there rfl); exact Look.here))) (by first | exact fun _ _ => IsD.f (IsF.v _) | exact fun _ _ => IsD.agg _ | exact fun _ _ => IsD.f IsF.nil))); exact Parts.nil))
    (hf : fillF (offs[·]?) (zs.map Slot.fz) pd = some cs := by exact rfl)
    (hd : d < N := by decide)
    (hw : W ops E g := by first | exact W.none | (apply wof rfl; ((repeat apply Look.there rfl); exact Look.here); first | assumption | exact rfl)) :
    Runs P ops N fin (⟨some d, .build t parts, ty, pos, after, g⟩ :: l) ⟨E, O⟩ rs := rBuS (touch := []) hp hf hd hw k
theorem buSz {t : TypeId} {offs : List (Nat × Nat)} {zs : List Slot} [Str P t offs] [Zero P t zs] {parts : Array (Nat × Operand)} {pd : List (Nat × RV)} {cs : List FV} (k : Runs P ops N fin l ⟨(d, .r (.agg cs)) :: E, O⟩ (⟨.r (.agg cs), none, []⟩ :: rs))
    (hp : Parts E O [] parts.toList pd := by ((repeat (apply Parts.cons (by first | exact Opd.int _ _ | exact Opd.bool _ | exact Opd.nil | exact Opd.fn _ | exact Opd.str _ | (apply Opd.tmp; ((repeat apply Look.there rfl); exact Look.here))) (by first | exact fun _ _ => IsD.f (IsF.v _) | exact fun _ _ => IsD.agg _ | exact fun _ _ => IsD.f IsF.nil))); exact Parts.nil))
    (hf : fillF (offs[·]?) (zs.map Slot.fzz) pd = some cs := by exact rfl)
    (hd : d < N := by decide)
    (hw : W ops E g := by first | exact W.none | (apply wof rfl; ((repeat apply Look.there rfl); exact Look.here); first | assumption | exact rfl)) :
    Runs P ops N fin (⟨some d, .build t parts, ty, pos, after, g⟩ :: l) ⟨E, O⟩ rs := rBuSz (touch := []) hp hf hd hw k
theorem buA {t n sz : Nat} {zs : List Slot} [Arr P t n sz] [Zero P t zs] {parts : Array (Nat × Operand)} {pd : List (Nat × RV)} {cs : List FV} (k : Runs P ops N fin l ⟨(d, .r (.agg cs)) :: E, O⟩ (⟨.r (.agg cs), none, []⟩ :: rs))
    (hp : Parts E O [] parts.toList pd := by ((repeat (apply Parts.cons (by first | exact Opd.int _ _ | exact Opd.bool _ | exact Opd.nil | exact Opd.fn _ | exact Opd.str _ | (apply Opd.tmp; ((repeat apply Look.there rfl); exact Look.here))) (by first | exact fun _ _ => IsD.f (IsF.v _) | exact fun _ _ => IsD.agg _ | exact fun _ _ => IsD.f IsF.nil))); exact Parts.nil))
    (hf : fillF (fun i => some (i * sz, sz)) (zs.map Slot.fz) pd = some cs := by exact rfl)
    (hd : d < N := by decide)
    (hw : W ops E g := by first | exact W.none | (apply wof rfl; ((repeat apply Look.there rfl); exact Look.here); first | assumption | exact rfl)) :
    Runs P ops N fin (⟨some d, .build t parts, ty, pos, after, g⟩ :: l) ⟨E, O⟩ rs := rBuA (touch := []) hp hf hd hw k
theorem al (p : Nat) {t : TypeId} {zs : List Slot} [Zero P t zs] (k : Runs P ops N fin l ⟨(d, .box p 0) :: E, O'⟩ (⟨.box p 0, some (p, .box t zs), [p]⟩ :: rs))
    (hO : SetAt O p (.box t zs) O' := by ((repeat apply SetAt.there); exact SetAt.new))
    (hp : O.getD p .gone = .gone := by exact rfl)
    (hd : d < N := by decide)
    (hw : W ops E g := by first | exact W.none | (apply wof rfl; ((repeat apply Look.there rfl); exact Look.here); first | assumption | exact rfl)) :
    Runs P ops N fin (⟨some d, .alloc t, ty, pos, after, g⟩ :: l) ⟨E, O⟩ rs := rAl hp hO hd hw k
theorem bx (p : Nat) {t : TypeId} {n : Nat} [Agg P t n] {x : Operand} {cs : List FV} {zs : List Slot} (k : Runs P ops N fin l ⟨(d, .box p 0) :: E, O'⟩ (⟨.box p 0, some (p, .box t zs), [p]⟩ :: rs))
    (hx : Opd E x (.r (.agg cs)) := by first | exact Opd.int _ _ | exact Opd.bool _ | exact Opd.nil | exact Opd.fn _ | exact Opd.str _ | (apply Opd.tmp; ((repeat apply Look.there rfl); exact Look.here)))
    (hz : Boxed cs zs := by ((repeat apply Boxed.cons); exact Boxed.nil))
    (hO : SetAt O p (.box t zs) O' := by ((repeat apply SetAt.there); exact SetAt.new))
    (hp : O.getD p .gone = .gone := by exact rfl)
    (hd : d < N := by decide)
    (hw : W ops E g := by first | exact W.none | (apply wof rfl; ((repeat apply Look.there rfl); exact Look.here); first | assumption | exact rfl)) :
    Runs P ops N fin (⟨some d, .box t x, ty, pos, after, g⟩ :: l) ⟨E, O⟩ rs := rBx hx hz.1 hz.2 hp hO hd hw k
theorem s1 {t : TypeId} [Plain P t] {x y : Operand} {p o t' : Nat} {cs cs' : List Slot} {s : Slot} (k : Runs P ops N fin l ⟨E, O'⟩ (⟨.undef, some (p, .box t' cs'), [p]⟩ :: rs))
    (hx : Opd E x (.box p o) := by first | exact Opd.int _ _ | exact Opd.bool _ | exact Opd.nil | exact Opd.fn _ | exact Opd.str _ | (apply Opd.tmp; ((repeat apply Look.there rfl); exact Look.here)))
    (hy : Opd E y (s) := by first | exact Opd.int _ _ | exact Opd.bool _ | exact Opd.nil | exact Opd.fn _ | exact Opd.str _ | (apply Opd.tmp; ((repeat apply Look.there rfl); exact Look.here)))
    (hs : Cellish s := by first | exact Cellish.v _ | exact Cellish.nil)
    (hp : O.getD p .gone = .box t' cs := by exact rfl)
    (hc : PutAt cs o s cs' := by ((repeat apply PutAt.there); exact PutAt.here))
    (hO : SetAt O p (.box t' cs') O' := by ((repeat apply SetAt.there); first | exact SetAt.here | exact SetAt.new))
    (hw : W ops E g := by first | exact W.none | (apply wof rfl; ((repeat apply Look.there rfl); exact Look.here); first | assumption | exact rfl)) :
    Runs P ops N fin (⟨none, .store t x y, ty, pos, after, g⟩ :: l) ⟨E, O⟩ rs := rS1 hx hy hs hp hc hO hw k
theorem s1w {t : TypeId} [Plain P t] {x y : Operand} {p o t' q n : Nat} {cs cs' : List Slot} (k : Runs P ops N fin l ⟨E, O'⟩ (⟨.undef, some (p, .box t' cs'), [p, q]⟩ :: rs))
    (hx : Opd E x (.box p o) := by first | exact Opd.int _ _ | exact Opd.bool _ | exact Opd.nil | exact Opd.fn _ | exact Opd.str _ | (apply Opd.tmp; ((repeat apply Look.there rfl); exact Look.here)))
    (hy : Opd E y (.own q n) := by first | exact Opd.int _ _ | exact Opd.bool _ | exact Opd.nil | exact Opd.fn _ | exact Opd.str _ | (apply Opd.tmp; ((repeat apply Look.there rfl); exact Look.here)))
    (hq : (O.getD q .gone).len? = some n := by first | exact rfl | simp [Ent.len?])
    (hp : O.getD p .gone = .box t' cs := by exact rfl)
    (hc : PutAt cs o (.own q n) cs' := by ((repeat apply PutAt.there); exact PutAt.here))
    (hO : SetAt O p (.box t' cs') O' := by ((repeat apply SetAt.there); first | exact SetAt.here | exact SetAt.new))
    (hw : W ops E g := by first | exact W.none | (apply wof rfl; ((repeat apply Look.there rfl); exact Look.here); first | assumption | exact rfl)) :
    Runs P ops N fin (⟨none, .store t x y, ty, pos, after, g⟩ :: l) ⟨E, O⟩ rs := rS1w hx hy hq hp hc hO hw k
theorem sA {t n : Nat} [Agg P t n] {x y : Operand} {p o t' : Nat} {cs cs' : List Slot} {fs : List FV} (k : Runs P ops N fin l ⟨E, O'⟩ (⟨.undef, some (p, .box t' cs'), [p]⟩ :: rs))
    (hx : Opd E x (.box p o) := by first | exact Opd.int _ _ | exact Opd.bool _ | exact Opd.nil | exact Opd.fn _ | exact Opd.str _ | (apply Opd.tmp; ((repeat apply Look.there rfl); exact Look.here)))
    (hy : Opd E y (.r (.agg fs)) := by first | exact Opd.int _ _ | exact Opd.bool _ | exact Opd.nil | exact Opd.fn _ | exact Opd.str _ | (apply Opd.tmp; ((repeat apply Look.there rfl); exact Look.here)))
    (hn : fs.length = n := by exact rfl)
    (hp : O.getD p .gone = .box t' cs := by exact rfl)
    (hc : SplAt cs o fs cs' := by ((repeat (first | apply SplAt.here | apply SplAt.there)); exact SplAt.done))
    (hO : SetAt O p (.box t' cs') O' := by ((repeat apply SetAt.there); first | exact SetAt.here | exact SetAt.new))
    (hw : W ops E g := by first | exact W.none | (apply wof rfl; ((repeat apply Look.there rfl); exact Look.here); first | assumption | exact rfl)) :
    Runs P ops N fin (⟨none, .store t x y, ty, pos, after, g⟩ :: l) ⟨E, O⟩ rs := rSA hx hy hn hp hc hO hw k
theorem ap {x y : Operand} {t e sz b : Nat} [Sli P t e sz b] {zs : List Slot} [Zero P e zs] {p n : Nat} {xs ys : List (List FV)} (k : Runs P ops N fin l ⟨(d, .own p (xs ++ ys).length) :: E, O'⟩ (⟨.own p (xs ++ ys).length, some (p, .row e sz (xs ++ ys)), [p]⟩ :: rs))
    (hx : Opd E x (.own p n) := by first | exact Opd.int _ _ | exact Opd.bool _ | exact Opd.nil | exact Opd.fn _ | exact Opd.str _ | (apply Opd.tmp; ((repeat apply Look.there rfl); exact Look.here)))
    (hp : O.getD p .gone = .row e sz xs := by exact rfl)
    (hn : n = xs.length := by first | assumption | exact rfl | (simp; done) | (simp; omega) | omega)
    (hy : Opd E y (.r (.v (.sl ys))) := by first | exact Opd.int _ _ | exact Opd.bool _ | exact Opd.nil | exact Opd.fn _ | exact Opd.str _ | (apply Opd.tmp; ((repeat apply Look.there rfl); exact Look.here)))
    (hys : ∀ y ∈ ys, y.length = sz := by first | (intro y hy; obtain ⟨a, _, rfl⟩ := List.mem_map.1 hy; rfl) | (intro y hy; simp at hy; subst hy; rfl) | (simp; done))
    (hb : (xs.length + ys.length) * b ≤ 140737488355328 := by first | (simp; done) | (simp; omega) | omega)
    (hz : zs.length = sz := by exact rfl)
    (h63 : xs.length + ys.length ≤ 9223372036854775807 := by first | (simp; done) | (simp; omega) | omega)
    (hO : SetAt O p (.row e sz (xs ++ ys)) O' := by ((repeat apply SetAt.there); first | exact SetAt.here | exact SetAt.new))
    (hd : d < N := by decide)
    (hw : W ops E g := by first | exact W.none | (apply wof rfl; ((repeat apply Look.there rfl); exact Look.here); first | assumption | exact rfl)) :
    Runs P ops N fin (⟨some d, .call { callee := .builtin .append, args := #[x, y], argTypes := #[t, t] }, ty, pos, after, g⟩ :: l) ⟨E, O⟩ rs := rAp (touch := []) hx hp hn hy (fun _ _ => .v _) hys hb hz h63 rfl hO hd hw k
theorem apN (p : Nat) {x y : Operand} {t e sz b : Nat} [Sli P t e sz b] {zs : List Slot} [Zero P e zs] {ys : List (List FV)} (k : Runs P ops N fin l ⟨(d, .own p ys.length) :: E, O'⟩ (⟨.own p ys.length, some (p, .row e sz ys), [p]⟩ :: rs))
    (hx : Opd E x (.nil) := by first | exact Opd.int _ _ | exact Opd.bool _ | exact Opd.nil | exact Opd.fn _ | exact Opd.str _ | (apply Opd.tmp; ((repeat apply Look.there rfl); exact Look.here)))
    (hy : Opd E y (.r (.v (.sl ys))) := by first | exact Opd.int _ _ | exact Opd.bool _ | exact Opd.nil | exact Opd.fn _ | exact Opd.str _ | (apply Opd.tmp; ((repeat apply Look.there rfl); exact Look.here)))
    (hys : ∀ y ∈ ys, y.length = sz := by first | (intro y hy; obtain ⟨a, _, rfl⟩ := List.mem_map.1 hy; rfl) | (intro y hy; simp at hy; subst hy; rfl) | (simp; done))
    (hb : ys.length * b ≤ 140737488355328 := by first | (simp; done) | (simp; omega) | omega)
    (hz : zs.length = sz := by exact rfl)
    (h63 : ys.length ≤ 9223372036854775807 := by first | (simp; done) | (simp; omega) | omega)
    (hO : SetAt O p (.row e sz ys) O' := by ((repeat apply SetAt.there); exact SetAt.new))
    (hp : O.getD p .gone = .gone := by exact rfl)
    (hd : d < N := by decide)
    (hw : W ops E g := by first | exact W.none | (apply wof rfl; ((repeat apply Look.there rfl); exact Look.here); first | assumption | exact rfl)) :
    Runs P ops N fin (⟨some d, .call { callee := .builtin .append, args := #[x, y], argTypes := #[t, t] }, ty, pos, after, g⟩ :: l) ⟨E, O⟩ rs := rApN (touch := []) hx hp hy (fun _ _ => .v _) hys hb hz h63 rfl hO hd hw k
theorem bs {t e sz b len : Nat} [Sli P t e sz b] {zs : List Slot} [Zero P e zs] {parts : Array (Nat × Operand)} {pd : List (Nat × RV)} {xs : List (List FV)} (k : Runs P ops N fin l ⟨(d, .r (.v (.sl xs))) :: E, O⟩ (⟨.r (.v (.sl xs)), none, []⟩ :: rs))
    (hp : Parts E O [] parts.toList pd := by ((repeat (apply Parts.cons (by first | exact Opd.int _ _ | exact Opd.bool _ | exact Opd.nil | exact Opd.fn _ | exact Opd.str _ | (apply Opd.tmp; ((repeat apply Look.there rfl); exact Look.here))) (by first | exact fun _ _ => IsD.f (IsF.v _) | exact fun _ _ => IsD.agg _ | exact fun _ _ => IsD.f IsF.nil))); exact Parts.nil))
    (hr : rowsOf 0 pd = some xs := by exact rfl)
    (hl : xs.length = len := by exact rfl)
    (hs : ∀ x ∈ xs, x.length = sz := by first | (intro x hx; simp at hx; subst hx; rfl) | (intro x hx; simp only [List.mem_cons, List.not_mem_nil, or_false] at hx; rcases hx with rfl | rfl <;> rfl) | decide)
    (hz : zs.length = sz := by exact rfl)
    (h24 : len * sz ≤ 16777216 := by decide)
    (hd : d < N := by decide)
    (hw : W ops E g := by first | exact W.none | (apply wof rfl; ((repeat apply Look.there rfl); exact Look.here); first | assumption | exact rfl)) :
    Runs P ops N fin (⟨some d, .buildSlice t len parts, ty, pos, after, g⟩ :: l) ⟨E, O⟩ rs := rBs (touch := []) hp hr hl hs hz h24 hd hw k
theorem cl {c : Operand} {args : Array Operand} {at_ : Array TypeId} {f : FuncId} [IsFn P f] {xs : List RV} {o : Out} (hF : Fn P f xs o) (k : Runs P ops N fin l ⟨(d, o.slot) :: E, O⟩ (⟨o.slot, none, []⟩ :: rs))
    (hc : Opd E c (.r (.v (.fn f))) := by first | exact Opd.int _ _ | exact Opd.bool _ | exact Opd.nil | exact Opd.fn _ | exact Opd.str _ | (apply Opd.tmp; ((repeat apply Look.there rfl); exact Look.here)))
    (ha : Args E O [] args.toList xs := by ((repeat (apply Args.cons (by first | exact Opd.int _ _ | exact Opd.bool _ | exact Opd.nil | exact Opd.fn _ | exact Opd.str _ | (apply Opd.tmp; ((repeat apply Look.there rfl); exact Look.here))) (by first | exact fun _ _ => IsD.f (IsF.v _) | exact fun _ _ => IsD.agg _ | exact fun _ _ => IsD.f IsF.nil))); exact Args.nil))
    (hd : d < N := by decide)
    (hw : W ops E g := by first | exact W.none | (apply wof rfl; ((repeat apply Look.there rfl); exact Look.here); first | assumption | exact rfl)) :
    Runs P ops N fin (⟨some d, .call { callee := .value c, args := args, argTypes := at_ }, ty, pos, after, g⟩ :: l) ⟨E, O⟩ rs := rCall (touch := []) hc ha hF (fun d' h => by cases h; exact hd) hw k
theorem noU {dst : Option Nat} {op : Op} {j t : Nat} {c : Bool} (k : Runs P ops N fin l ⟨putE E dst (.tup []), O⟩ (⟨.tup [], none, []⟩ :: rs))
    (ht : (ops[j]?).bind (·.dst) = some t := by exact rfl) (h : Look E t (.tup []) := by ((repeat apply Look.there rfl); exact Look.here)) (hd : ∀ d, dst = some d → d < N := by first | (intro d h; cases h; decide) | (intro d h; cases h)) :
    Runs P ops N fin (⟨dst, op, ty, pos, after, some (j, c)⟩ :: l) ⟨E, O⟩ rs := rNoU k ht h hd
theorem no {dst : Option Nat} {op : Op} {j t : Nat} {c x : Bool} (k : Runs P ops N fin l ⟨putE E dst (.tup []), O⟩ (⟨.tup [], none, []⟩ :: rs))
    (ht : (ops[j]?).bind (·.dst) = some t := by exact rfl) (h : Look E t (.r (.v (.b x))) := by ((repeat apply Look.there rfl); exact Look.here)) (hx : x = !c := by first | assumption | exact rfl) (hd : ∀ d, dst = some d → d < N := by first | (intro d h; cases h; decide) | (intro d h; cases h)) :
    Runs P ops N fin (⟨dst, op, ty, pos, after, some (j, c)⟩ :: l) ⟨E, O⟩ rs := rNo k ht (hx ▸ h) hd
end

/-! ### Code -/
section
variable {P : Program} {N : Nat} {Q : Exit → St → Prop} {S : St}
theorem sq {x y : Code} (h : AWP P N x (thenA (AWP P N y Q) Q) S) : AWP P N (.seq x y) Q S := awp_seq h
theorem sg {id : Nat} {ops : Array Oper} {y : Code} (h : Runs P ops N (fun S' _ => AWP P N y Q S') ops.toList S []) : AWP P N (.seq (.region id ops false) y) Q S := awp_seq (awp_region_text h)
theorem sd (hm : P.follows .mixedOrders = true) {id : Nat} {ops : Array Oper} {y : Code} (h : Runs P ops N (fun S' rs => okDraw ops rs = true ∧ AWP P N y Q S') ops.toList S []) : AWP P N (.seq (.region id ops true) y) Q S := awp_seq (awp_region_draw hm h)
theorem rg {id : Nat} {ops : Array Oper} (h : Runs P ops N (fun S' _ => Q .normal S') ops.toList S []) : AWP P N (.region id ops false) Q S := awp_region_text h
theorem rd (hm : P.follows .mixedOrders = true) {id : Nat} {ops : Array Oper} (h : Runs P ops N (fun S' rs => okDraw ops rs = true ∧ Q .normal S') ops.toList S []) : AWP P N (.region id ops true) Q S := awp_region_draw hm h
theorem bk {id : Nat} {c : Code} (h : AWP P N c (inBlockA id Q) S) : AWP P N (.block id c) Q S := awp_block h
theorem cn {t : Nat} {x y : Code} {c : Bool} {E : List (Nat × Slot)} {O : List Ent} (h1 : c = true → AWP P N x Q ⟨E, O⟩) (h2 : c = false → AWP P N y Q ⟨E, O⟩) (hc : Look E t (.r (.v (.b c))) := by ((repeat apply Look.there rfl); exact Look.here)) : AWP P N (.cond (.tmp t) x y) Q ⟨E, O⟩ := awp_cond c hc.eq h1 h2
/-- Only these temporaries are kept, and the first n entries. -/
theorem kp {c : Code} {E E' : List (Nat × Slot)} {O : List Ent} (n : Nat) (h : AWP P N c Q ⟨E', O.take n⟩) (hk : Kept E E') (h1 : E'.all (fun x => x.2.under n) = true) (h2 : (O.take n).all (Ent.under n) = true) : AWP P N c Q ⟨E, O⟩ :=
  awp_weak (S := ⟨E, O⟩) (S' := ⟨E', O⟩) (weak_keep hk) (awp_weak (S := ⟨E', O⟩) (weak_take n h1 h2) h)
end
end Go.Proofs.Ytnhljpbpfaablaa.VS
