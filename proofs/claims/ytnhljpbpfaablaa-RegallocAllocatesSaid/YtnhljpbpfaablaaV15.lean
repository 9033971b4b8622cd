/- Value semantics, part 15: an element of an array that is a value. Conditions: none. -/
import Derived.Test.YtnhljpbpfaablaaV14
set_option linter.unusedSimpArgs false
set_option linter.unusedVariables false
namespace Go.Proofs.Ytnhljpbpfaablaa.VS
open Go Go.RowKit

def arrAggB (P : Program) (t n e sz : Nat) : Bool := match P.underlying t, P.underlying e, P.info? e with
  | some (.array n' e'), some d, some i => Nat.beq n' n && Nat.beq e' e && isAggB d && Nat.beq i.size sz
  | _, _, _ => false
/-- An array of structs or arrays. -/
class ArrA (P : Program) (t : TypeId) (n e sz : outParam Nat) : Prop where
  h : arrAggB P t n e sz = true
section
variable {P : Program} {ops : Array Oper} {N : Nat} {fin : St → List Rec → Prop} {l : List Oper} {E : List (Nat × Slot)} {O : List Ent} {rs : List Rec} {d : Nat} {ty : TypeId} {pos : String} {after : Array Edge} {g : Option (Nat × Bool)}
theorem rIxA {x y : Operand} {t n e sz : Nat} [ArrA P t n e sz] {cs : List FV} {kk : IntKind} {i : Int} (hx : Opd E x (.r (.agg cs))) (hy : Opd E y (.r (.v (.i kk i)))) (h0 : 0 ≤ i) (h1 : i < n) (hd : d < N) (hw : W ops E g)
    (k : Runs P ops N fin l ⟨(d, .r (.agg ((cs.drop (i.toNat * sz)).take sz))) :: E, O⟩ (⟨.r (.agg ((cs.drop (i.toNat * sz)).take sz)), none, []⟩ :: rs)) : Runs P ops N fin (⟨some d, .index t x y, ty, pos, after, g⟩ :: l) ⟨E, O⟩ rs :=
  rPure hd hw (fun w ok ρ ents' a hr _ _ => by
    have h3 := hr x (by simp [Op.operands]); rw [hx.eq] at h3
    have h4 := hr y (by simp [Op.operands]); rw [hy.eq] at h4
    obtain ⟨vs, hv, hA⟩ := h3
    have h4 : FRep w ok (.i kk i) (a.eval y) := h4
    have hA' : All2 (FRep w ok) ((cs.drop (i.toNat * sz)).take sz) ((vs.drop (i.toNat * sz)).take sz) := (hA.drop _).take _
    have h := ArrA.h (P := P) (t := t) (n := n) (e := e) (sz := sz)
    unfold arrAggB at h
    split at h
    · rename_i n' e' dd ii hu he hi
      simp only [Bool.and_eq_true, Nat.beq_eq] at h
      obtain ⟨⟨⟨rfl, rfl⟩, hag⟩, rfl⟩ := h
      generalize hyv : a.eval y = u at h4
      cases h4
      refine ⟨.agg ((vs.drop (i.toNat * ii.size)).take ii.size).toArray, ?_, _, rfl, hA'⟩
      simp only [execOp, hv, hyv, Instr.index, asIntOf, Sem.run_bind, Sem.run_pure, Result.andThen_ok, run_underlying hu]
      rw [if_pos ⟨h0, h1⟩]
      simp only [part, sizeOf, typeInfo, run_program, Sem.run_bind, Result.andThen_ok, hi, Sem.run_pure, run_isAgg w he, hag, if_true]
      congr 3
      simp [List.extract_eq_take_drop]
    · cases h) k
theorem ixA {x y : Operand} {t n e sz : Nat} [ArrA P t n e sz] {cs : List FV} {kk : IntKind} {i : Int} (k : Runs P ops N fin l ⟨(d, .r (.agg ((cs.drop (i.toNat * sz)).take sz))) :: E, O⟩ (⟨.r (.agg ((cs.drop (i.toNat * sz)).take sz)), none, []⟩ :: rs)) (hx : Opd E x (.r (.agg cs)) := by first | exact Opd.int _ _ | exact Opd.bool _ | exact Opd.nil | exact Opd.fn _ | exact Opd.str _ | (apply Opd.tmp; ((repeat apply Look.there rfl); exact Look.here))) (hy : Opd E y (.r (.v (.i kk i))) := by first | exact Opd.int _ _ | exact Opd.bool _ | exact Opd.nil | exact Opd.fn _ | exact Opd.str _ | (apply Opd.tmp; ((repeat apply Look.there rfl); exact Look.here))) (h0 : 0 ≤ i := by first | decide | omega | (dsimp only; omega)) (h1 : i < n := by first | decide | omega | (dsimp only; omega)) (hd : d < N := by decide) (hw : W ops E g := by first | exact W.none | (apply wof rfl; ((repeat apply Look.there rfl); exact Look.here); first | assumption | exact rfl)) :
    Runs P ops N fin (⟨some d, .index t x y, ty, pos, after, g⟩ :: l) ⟨E, O⟩ rs := rIxA hx hy h0 h1 hd hw k
end
end Go.Proofs.Ytnhljpbpfaablaa.VS
