/- Value semantics, part 17: arrays of whole numbers, compared. Conditions: none. -/
import Derived.Test.YtnhljpbpfaablaaV16
import Derived.ChangeKeysEq
set_option linter.unusedSimpArgs false
set_option linter.unusedVariables false
namespace Go.Proofs.Ytnhljpbpfaablaa.VS
open Go Go.RowKit

def eqAB (P : Program) (t : TypeId) (n : Nat) : Bool :=
  match P.underlying t with
  | some (.array m e) => !P.eqGuardType P.depth t && Nat.beq m n && (match P.underlying e, P.info? e with | some (.int k), some i => decide (k = .i64) && Nat.beq i.size 1 | _, _ => false)
  | _ => false
class EqA (P : Program) (t : TypeId) (n : outParam Nat) : Prop where
  h : eqAB P t n = true
section
variable {P : Program}
theorem eqItems_ints {w : World} {d e : Nat} {as bs : List Int} (hu : P.underlying e = some (.int .i64)) : ∀ (m k : Nat), as.length = k + m → bs.length = k + m →
    (Op.eqItems (d + 1) e 1 (as.map (Value.int .i64)).toArray (bs.map (Value.int .i64)).toArray (List.range' k m)).run P w = .ok (as.drop k == bs.drop k) w
  | 0, k, h1, h2 => by
    rw [List.drop_eq_nil_of_le (by omega), List.drop_eq_nil_of_le (by omega)]
    simp [Op.eqItems]
  | m + 1, k, h1, h2 => by
    obtain ⟨a, ha⟩ : ∃ a, as[k]? = some a := ⟨as[k]'(by omega), by simp⟩
    obtain ⟨b, hb⟩ : ∃ b, bs[k]? = some b := ⟨bs[k]'(by omega), by simp⟩
    have hp : ∀ (ls : List Int) (a : Int), ls[k]? = some a → (part e (ls.map (Value.int .i64)).toArray (k * 1)).run P w = .ok (.int .i64 a) w := by
      intro ls a ha
      simp only [part, Sem.run_bind, run_isAgg w hu, Result.andThen_ok, isAggB]
      simp [ha]
    have ih := eqItems_ints (w := w) (d := d) (as := as) (bs := bs) hu m (k + 1) (by omega) (by omega)
    have e1 : as.drop k = a :: as.drop (k + 1) := by rw [List.drop_eq_getElem_cons (by omega)]; congr 1; rw [List.getElem?_eq_getElem (by omega)] at ha; exact Option.some.inj ha
    have e2 : bs.drop k = b :: bs.drop (k + 1) := by rw [List.drop_eq_getElem_cons (by omega)]; congr 1; rw [List.getElem?_eq_getElem (by omega)] at hb; exact Option.some.inj hb
    rw [List.range'_succ]
    simp only [Op.eqItems, Sem.run_bind, hp as a ha, hp bs b hb, Result.andThen_ok, run_equalIn_int w d e .i64 .i64 a b hu]
    rw [e1, e2, List.cons_beq_cons]
    cases hab : (a == b)
    · simp
    · simpa using ih
theorem run_eqA {t n : Nat} [EqA P t n] {w : World} {as bs : List Int} (h1 : as.length = n) (h2 : bs.length = n) (x y : Operand) (op : BinOp) :
    (eqGuard op t x y (.agg (as.map (Value.int .i64)).toArray) (.agg (bs.map (Value.int .i64)).toArray)).run P w = .ok () w ∧ (Op.equal t (.agg (as.map (Value.int .i64)).toArray) (.agg (bs.map (Value.int .i64)).toArray)).run P w = .ok (as == bs) w := by
  have h := EqA.h (P := P) (t := t) (n := n)
  unfold eqAB at h
  split at h
  · rename_i m e hu
    simp only [Bool.and_eq_true, Bool.not_eq_true', Nat.beq_eq] at h
    obtain ⟨⟨h3, h4⟩, h5⟩ := h
    split at h5
    · rename_i k i hk hi
      simp only [Bool.and_eq_true, decide_eq_true_eq, Nat.beq_eq] at h5
      obtain ⟨rfl, h6⟩ := h5
      refine ⟨run_eqGuard_agg w op t x y _ _ h3, ?_⟩
      show (Op.equalIn (9999 + 1) t _ _).run P w = _
      have hc : P.cellsOf e = 1 := by unfold Program.cellsOf; simp [hi, h6]
      rw [run_equalIn_array (P := P) w 9999 _ _ hu hi, hc, h4, List.range_eq_range']
      have := eqItems_ints (P := P) (w := w) (d := 9998) (as := as) (bs := bs) hk n 0 (by omega) (by omega)
      simpa using this
    · cases h5
  · cases h
end
section
variable {P : Program} {ops : Array Oper} {N : Nat} {fin : St → List Rec → Prop} {l : List Oper} {E : List (Nat × Slot)} {O : List Ent} {rs : List Rec} {d : Nat} {ty : TypeId} {pos : String} {after : Array Edge} {g : Option (Nat × Bool)}
theorem rEqA {x y : Operand} {t t' n : Nat} [EqA P t n] {xs ys : List FV} {as bs : List Int} (hx : Opd E x (.r (.agg xs))) (hy : Opd E y (.r (.agg ys))) (ha : Ints xs as) (hb : Ints ys bs) (h1 : as.length = n) (h2 : bs.length = n) (hd : d < N) (hw : W ops E g)
    (k : Runs P ops N fin l ⟨(d, .r (.v (.b (as == bs)))) :: E, O⟩ (⟨.r (.v (.b (as == bs))), none, []⟩ :: rs)) : Runs P ops N fin (⟨some d, .binOp .eql t x y t', ty, pos, after, g⟩ :: l) ⟨E, O⟩ rs :=
  rPure hd hw (fun w ok ρ ents' a hr _ _ => by
    have h3 := hr x (by simp [Op.operands]); have h4 := hr y (by simp [Op.operands]); rw [hx.eq, ha.eq] at h3; rw [hy.eq, hb.eq] at h4
    have h5 := rep_ints h3; have h6 := rep_ints h4
    obtain ⟨h7, h8⟩ := run_eqA (P := P) (t := t) (w := w) h1 h2 x y .eql
    refine ⟨.bool (as == bs), ?_, FRep.b _⟩
    simp only [execOp, h5, h6, Sem.run_bind, h7, Result.andThen_ok]
    simp only [binOp, Sem.run_bind, h8, Result.andThen_ok, Sem.run_pure]) k
theorem rEqAn {x y : Operand} {t t' n : Nat} [EqA P t n] {xs ys : List FV} {as bs : List Int} (hx : Opd E x (.r (.agg xs))) (hy : Opd E y (.r (.agg ys))) (ha : Ints xs as) (hb : Ints ys bs) (h1 : as.length = n) (h2 : bs.length = n) (hd : d < N) (hw : W ops E g)
    (k : Runs P ops N fin l ⟨(d, .r (.v (.b (!(as == bs))))) :: E, O⟩ (⟨.r (.v (.b (!(as == bs)))), none, []⟩ :: rs)) : Runs P ops N fin (⟨some d, .binOp .neq t x y t', ty, pos, after, g⟩ :: l) ⟨E, O⟩ rs :=
  rPure hd hw (fun w ok ρ ents' a hr _ _ => by
    have h3 := hr x (by simp [Op.operands]); have h4 := hr y (by simp [Op.operands]); rw [hx.eq, ha.eq] at h3; rw [hy.eq, hb.eq] at h4
    have h5 := rep_ints h3; have h6 := rep_ints h4
    obtain ⟨h7, h8⟩ := run_eqA (P := P) (t := t) (w := w) h1 h2 x y .neq
    refine ⟨.bool (!(as == bs)), ?_, FRep.b _⟩
    simp only [execOp, h5, h6, Sem.run_bind, h7, Result.andThen_ok]
    simp only [binOp, Sem.run_bind, h8, Result.andThen_ok, Sem.run_pure]) k
theorem eia {x y : Operand} {t t' n : Nat} [EqA P t n] {xs ys : List FV} {as bs : List Int} (k : Runs P ops N fin l ⟨(d, .r (.v (.b (as == bs)))) :: E, O⟩ (⟨.r (.v (.b (as == bs))), none, []⟩ :: rs)) (hx : Opd E x (.r (.agg xs)) := by first | exact Opd.int _ _ | exact Opd.bool _ | exact Opd.nil | exact Opd.fn _ | exact Opd.str _ | (apply Opd.tmp; ((repeat apply Look.there rfl); exact Look.here))) (hy : Opd E y (.r (.agg ys)) := by first | exact Opd.int _ _ | exact Opd.bool _ | exact Opd.nil | exact Opd.fn _ | exact Opd.str _ | (apply Opd.tmp; ((repeat apply Look.there rfl); exact Look.here)))
    (ha : Ints xs as := by ((repeat apply Ints.cons); exact Ints.nil)) (hb : Ints ys bs := by ((repeat apply Ints.cons); exact Ints.nil)) (h1 : as.length = n := by exact rfl) (h2 : bs.length = n := by exact rfl) (hd : d < N := by decide) (hw : W ops E g := by first | exact W.none | (apply wof rfl; ((repeat apply Look.there rfl); exact Look.here); first | assumption | exact rfl)) : Runs P ops N fin (⟨some d, .binOp .eql t x y t', ty, pos, after, g⟩ :: l) ⟨E, O⟩ rs := rEqA hx hy ha hb h1 h2 hd hw k
theorem eian {x y : Operand} {t t' n : Nat} [EqA P t n] {xs ys : List FV} {as bs : List Int} (k : Runs P ops N fin l ⟨(d, .r (.v (.b (!(as == bs))))) :: E, O⟩ (⟨.r (.v (.b (!(as == bs)))), none, []⟩ :: rs)) (hx : Opd E x (.r (.agg xs)) := by first | exact Opd.int _ _ | exact Opd.bool _ | exact Opd.nil | exact Opd.fn _ | exact Opd.str _ | (apply Opd.tmp; ((repeat apply Look.there rfl); exact Look.here))) (hy : Opd E y (.r (.agg ys)) := by first | exact Opd.int _ _ | exact Opd.bool _ | exact Opd.nil | exact Opd.fn _ | exact Opd.str _ | (apply Opd.tmp; ((repeat apply Look.there rfl); exact Look.here)))
    (ha : Ints xs as := by ((repeat apply Ints.cons); exact Ints.nil)) (hb : Ints ys bs := by ((repeat apply Ints.cons); exact Ints.nil)) (h1 : as.length = n := by exact rfl) (h2 : bs.length = n := by exact rfl) (hd : d < N := by decide) (hw : W ops E g := by first | exact W.none | (apply wof rfl; ((repeat apply Look.there rfl); exact Look.here); first | assumption | exact rfl)) : Runs P ops N fin (⟨some d, .binOp .neq t x y t', ty, pos, after, g⟩ :: l) ⟨E, O⟩ rs := rEqAn hx hy ha hb h1 h2 hd hw k
end
theorem fillv_get' {l : List Int} {k : Nat} (h : k < l.length) : ((fillv l k).map Enc.c)[k]? = some [.i .i64 0] := by
  rw [List.getElem?_map, fillv_get h]; rfl
theorem fillv_put {l : List Int} {k : Nat} {x : Int} (h : l[k]? = some x) : ((fillv l k).map Enc.c).set k ([FV.i .i64 0].set 0 (.i .i64 x)) = (fillv l (k + 1)).map Enc.c := by
  rw [← fillv_set h, List.map_set]; rfl
theorem fillv_mk (l : List Int) : List.replicate l.length [FV.i .i64 0] = (fillv l 0).map Enc.c := by
  rw [fillv_zero, List.map_replicate]; rfl
theorem take_snoc {α : Type} {l : List α} {k : Nat} {x : α} (h : l[k]? = some x) : l.take (k + 1) = l.take k ++ [x] := by
  rw [List.take_add_one, h]; rfl
end Go.Proofs.Ytnhljpbpfaablaa.VS
