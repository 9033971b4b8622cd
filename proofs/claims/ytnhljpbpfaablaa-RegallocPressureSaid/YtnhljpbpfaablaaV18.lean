/- Value semantics, part 18: a byte of a string. Conditions: none. -/
import Derived.Test.YtnhljpbpfaablaaV17
set_option linter.unusedSimpArgs false
set_option linter.unusedVariables false
namespace Go.Proofs.Ytnhljpbpfaablaa.VS
open Go Go.RowKit

def strTB (P : Program) (t : TypeId) : Bool := match P.underlying t with
  | some .string => true
  | _ => false
class StrT (P : Program) (t : TypeId) : Prop where
  h : strTB P t = true
section
variable {P : Program} {ops : Array Oper} {N : Nat} {fin : St → List Rec → Prop} {l : List Oper} {E : List (Nat × Slot)} {O : List Ent} {rs : List Rec} {d : Nat} {ty : TypeId} {pos : String} {after : Array Edge} {g : Option (Nat × Bool)}
theorem rIxS {x y : Operand} {t : Nat} [StrT P t] {bs : ByteArray} {kk : IntKind} {i : Int} {b : UInt8} (hx : Opd E x (.r (.v (.s bs)))) (hy : Opd E y (.r (.v (.i kk i)))) (h0 : 0 ≤ i) (hb : bs[i.toNat]? = some b) (hd : d < N) (hw : W ops E g)
    (k : Runs P ops N fin l ⟨(d, .r (.v (.i .u8 b.toNat))) :: E, O⟩ (⟨.r (.v (.i .u8 b.toNat)), none, []⟩ :: rs)) : Runs P ops N fin (⟨some d, .index t x y, ty, pos, after, g⟩ :: l) ⟨E, O⟩ rs :=
  rPure hd hw (fun w ok ρ ents' a hr _ _ => by
    have h3 := hr x (by simp [Op.operands]); rw [hx.eq] at h3
    have h4 := hr y (by simp [Op.operands]); rw [hy.eq] at h4
    have h3 := rep_str h3
    have h4 := rep_int h4
    have h := StrT.h (P := P) (t := t)
    unfold strTB at h
    split at h
    · rename_i hu
      refine ⟨.int .u8 b.toNat, ?_, FRep.i _ _⟩
      simp only [execOp, h3, h4, Instr.index, asIntOf, Sem.run_bind, Sem.run_pure, Result.andThen_ok, run_underlying hu]
      rw [if_pos h0, hb]
      simp
    · cases h) k
theorem ixS {x y : Operand} {t : Nat} [StrT P t] {bs : ByteArray} {kk : IntKind} {i : Int} {b : UInt8} (hb : bs[i.toNat]? = some b) (k : Runs P ops N fin l ⟨(d, .r (.v (.i .u8 b.toNat))) :: E, O⟩ (⟨.r (.v (.i .u8 b.toNat)), none, []⟩ :: rs))
    (hx : Opd E x (.r (.v (.s bs))) := by first | exact Opd.int _ _ | exact Opd.bool _ | exact Opd.nil | exact Opd.fn _ | exact Opd.str _ | (apply Opd.tmp; ((repeat apply Look.there rfl); exact Look.here))) (hy : Opd E y (.r (.v (.i kk i))) := by first | exact Opd.int _ _ | exact Opd.bool _ | exact Opd.nil | exact Opd.fn _ | exact Opd.str _ | (apply Opd.tmp; ((repeat apply Look.there rfl); exact Look.here))) (h0 : 0 ≤ i := by first | omega | (simp; done)) (hd : d < N := by decide) (hw : W ops E g := by first | exact W.none | (apply wof rfl; ((repeat apply Look.there rfl); exact Look.here); first | assumption | exact rfl)) : Runs P ops N fin (⟨some d, .index t x y, ty, pos, after, g⟩ :: l) ⟨E, O⟩ rs := rIxS hx hy h0 hb hd hw k
end
end Go.Proofs.Ytnhljpbpfaablaa.VS
