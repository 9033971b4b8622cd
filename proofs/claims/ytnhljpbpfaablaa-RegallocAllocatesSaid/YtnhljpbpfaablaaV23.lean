/- Value semantics, part 23: a check for nil; a slice of an array that is a variable. Conditions: none. -/
import Derived.Test.YtnhljpbpfaablaaV21
set_option linter.unusedSimpArgs false
set_option linter.unusedVariables false
namespace Go.Proofs.Ytnhljpbpfaablaa.VS
open Go Go.RowKit

section
variable {P : Program} {ops : Array Oper} {N : Nat} {fin : St → List Rec → Prop} {l : List Oper} {E : List (Nat × Slot)} {O : List Ent} {rs : List Rec} {d : Nat} {ty : TypeId} {pos : String} {after : Array Edge} {g : Option (Nat × Bool)}
theorem rNc {x : Operand} {p o : Nat} (hx : Opd E x (.box p o)) (hd : d < N) (hw : W ops E g) (k : Runs P ops N fin l ⟨(d, .box p o) :: E, O⟩ (⟨.box p o, none, []⟩ :: rs)) : Runs P ops N fin (⟨some d, .nilCheck x, ty, pos, after, g⟩ :: l) ⟨E, O⟩ rs :=
  rPure hd hw (fun w ok ρ ents' a hr _ _ => by
    have h1 := hr x (by simp [Op.operands]); rw [hx.eq] at h1
    have h2 := h1
    obtain ⟨ty', cs, gg, he, hp, hv⟩ := h1
    exact ⟨a.eval x, by simp [execOp, hv], h2⟩) k
theorem rNcF {x : Operand} {cs : List FV} (hx : Opd E x (.fp cs)) (hd : d < N) (hw : W ops E g) (k : Runs P ops N fin l ⟨(d, .fp cs) :: E, O⟩ (⟨.fp cs, none, []⟩ :: rs)) : Runs P ops N fin (⟨some d, .nilCheck x, ty, pos, after, g⟩ :: l) ⟨E, O⟩ rs :=
  rPure hd hw (fun w ok ρ ents' a hr _ _ => by
    have h1 := hr x (by simp [Op.operands]); rw [hx.eq] at h1
    have h2 := h1
    obtain ⟨ad, vs, hv, _⟩ := h1
    exact ⟨a.eval x, by simp [execOp, hv], h2⟩) k
/-- x[a:] of an array that is a variable. -/
theorem rBsl {x lo : Operand} {t n sz p a : Nat} {kk : IntKind} [Arr P t n sz] (hx : Opd E x (.box p 0)) (hlo : Opd E lo (.r (.v (.i kk (a : Int))))) (ha : a < n) (hd : d < N) (hw : W ops E g)
    (k : Runs P ops N fin l ⟨(d, .bsl p (a * sz) (n - a)) :: E, O⟩ (⟨.bsl p (a * sz) (n - a), none, []⟩ :: rs)) : Runs P ops N fin (⟨some d, .slice t x (some lo) none none, ty, pos, after, g⟩ :: l) ⟨E, O⟩ rs :=
  rPure hd hw (fun w ok ρ ents' ac hr _ _ => by
    have h1 := hr x (by simp [Op.operands]); rw [hx.eq] at h1
    have h2 := hr lo (by simp [Op.operands]); rw [hlo.eq] at h2
    obtain ⟨ty', cs, gg, he, hp, hv⟩ := h1
    obtain ⟨e, i, ht, hi, hs⟩ := Arr.spec (P := P) t n sz
    have hb : (Instr.sliceBounds false n n (some (.int kk (a : Int))) none none).run P w = .ok (a, n, n) w := by
      simp [Instr.sliceBounds, run_bound, Nat.le_of_lt ha]
    refine ⟨.slice (some ⟨gg, a * sz, none⟩) (n - a) (n - a), ?_, ty', cs, gg, n - a, he, hp, rfl, Nat.le_refl _⟩
    simp only [execOp, hv, Instr.sliceAt, Sem.run_bind, run_underlying ht, Result.andThen_ok, Option.map_none, Option.map_some, rep_int h2, Instr.sureAddr, Sem.run_pure, hb, sizeOf, typeInfo, run_program, hi, hs]
    rw [if_neg (by omega), add_lit]) k
theorem rLnS {x : Operand} {t e sz b p o n : Nat} [Sli P t e sz b] (hx : Opd E x (.bsl p o n)) (hd : d < N) (hw : W ops E g) (k : Runs P ops N fin l ⟨(d, .r (.v (.i .i64 (n : Int)))) :: E, O⟩ (⟨.r (.v (.i .i64 (n : Int))), none, []⟩ :: rs)) : Runs P ops N fin (⟨some d, .call { callee := .builtin .len, args := #[x], argTypes := #[t] }, ty, pos, after, g⟩ :: l) ⟨E, O⟩ rs :=
  rPure hd hw (fun w ok ρ ents' a hr ht hE => by
    have h1 := hr x (by simp [Op.operands, Call.operands]); rw [hx.eq] at h1
    obtain ⟨ty', cs, gg, c, he, hp, hv, hc⟩ := h1
    exact ⟨.int .i64 n, by simp [execOp, resolve, invoke, builtin, hv, run_len], FRep.i _ _⟩) k
theorem rIbs {x y : Operand} {t e sz b p o n : Nat} [Sli P t e sz b] {kk : IntKind} {i : Int} (hx : Opd E x (.bsl p o n)) (hy : Opd E y (.r (.v (.i kk i)))) (h0 : 0 ≤ i) (h1 : i < n) (hd : d < N) (hw : W ops E g)
    (k : Runs P ops N fin l ⟨(d, .box p (o + i.toNat * sz)) :: E, O⟩ (⟨.box p (o + i.toNat * sz), none, []⟩ :: rs)) : Runs P ops N fin (⟨some d, .indexAddr t x y, ty, pos, after, g⟩ :: l) ⟨E, O⟩ rs :=
  rPure hd hw (fun w ok ρ ents' a hr _ _ => by
    have e1 := hr x (by simp [Op.operands]); have e2 := hr y (by simp [Op.operands]); rw [hx.eq] at e1; rw [hy.eq] at e2
    obtain ⟨ty', cs, gg, c, he, hp, hv, hc⟩ := e1
    exact ⟨.pointer (some ((⟨gg, o, none⟩ : Addr).add (i.toNat * sz))), by simp [execOp, hv, rep_int e2, run_indexSli w t e sz b _ n c kk i h0 h1], ⟨ty', cs, gg, he, hp, by rw [Addr.add_lit]⟩⟩) k
theorem nc {x : Operand} {p o : Nat} (k : Runs P ops N fin l ⟨(d, .box p o) :: E, O⟩ (⟨.box p o, none, []⟩ :: rs)) (hx : Opd E x (.box p o) := by first | exact Opd.int _ _ | exact Opd.bool _ | exact Opd.nil | exact Opd.fn _ | exact Opd.str _ | (apply Opd.tmp; ((repeat apply Look.there rfl); exact Look.here))) (hd : d < N := by decide) (hw : W ops E g := by first | exact W.none | (apply wof rfl; ((repeat apply Look.there rfl); exact Look.here); first | assumption | exact rfl)) : Runs P ops N fin (⟨some d, .nilCheck x, ty, pos, after, g⟩ :: l) ⟨E, O⟩ rs := rNc hx hd hw k
theorem ncF {x : Operand} {cs : List FV} (k : Runs P ops N fin l ⟨(d, .fp cs) :: E, O⟩ (⟨.fp cs, none, []⟩ :: rs)) (hx : Opd E x (.fp cs) := by first | exact Opd.int _ _ | exact Opd.bool _ | exact Opd.nil | exact Opd.fn _ | exact Opd.str _ | (apply Opd.tmp; ((repeat apply Look.there rfl); exact Look.here))) (hd : d < N := by decide) (hw : W ops E g := by first | exact W.none | (apply wof rfl; ((repeat apply Look.there rfl); exact Look.here); first | assumption | exact rfl)) : Runs P ops N fin (⟨some d, .nilCheck x, ty, pos, after, g⟩ :: l) ⟨E, O⟩ rs := rNcF hx hd hw k
theorem slA (a : Nat) {x lo : Operand} {t n sz p : Nat} {kk : IntKind} [Arr P t n sz] (k : Runs P ops N fin l ⟨(d, .bsl p (a * sz) (n - a)) :: E, O⟩ (⟨.bsl p (a * sz) (n - a), none, []⟩ :: rs)) (hx : Opd E x (.box p 0) := by first | exact Opd.int _ _ | exact Opd.bool _ | exact Opd.nil | exact Opd.fn _ | exact Opd.str _ | (apply Opd.tmp; ((repeat apply Look.there rfl); exact Look.here))) (hlo : Opd E lo (.r (.v (.i kk (a : Int)))) := by first | exact Opd.int _ _ | exact Opd.bool _ | exact Opd.nil | exact Opd.fn _ | exact Opd.str _ | (apply Opd.tmp; ((repeat apply Look.there rfl); exact Look.here))) (ha : a < n := by decide) (hd : d < N := by decide) (hw : W ops E g := by first | exact W.none | (apply wof rfl; ((repeat apply Look.there rfl); exact Look.here); first | assumption | exact rfl)) :
    Runs P ops N fin (⟨some d, .slice t x (some lo) none none, ty, pos, after, g⟩ :: l) ⟨E, O⟩ rs := rBsl hx hlo ha hd hw k
theorem lnS {x : Operand} {t e sz b p o n : Nat} [Sli P t e sz b] (k : Runs P ops N fin l ⟨(d, .r (.v (.i .i64 (n : Int)))) :: E, O⟩ (⟨.r (.v (.i .i64 (n : Int))), none, []⟩ :: rs)) (hx : Opd E x (.bsl p o n) := by first | exact Opd.int _ _ | exact Opd.bool _ | exact Opd.nil | exact Opd.fn _ | exact Opd.str _ | (apply Opd.tmp; ((repeat apply Look.there rfl); exact Look.here))) (hd : d < N := by decide) (hw : W ops E g := by first | exact W.none | (apply wof rfl; ((repeat apply Look.there rfl); exact Look.here); first | assumption | exact rfl)) :
    Runs P ops N fin (⟨some d, .call { callee := .builtin .len, args := #[x], argTypes := #[t] }, ty, pos, after, g⟩ :: l) ⟨E, O⟩ rs := rLnS hx hd hw k
theorem xsl {x y : Operand} {t e sz b p o n : Nat} [Sli P t e sz b] {kk : IntKind} {i : Int} (k : Runs P ops N fin l ⟨(d, .box p (o + i.toNat * sz)) :: E, O⟩ (⟨.box p (o + i.toNat * sz), none, []⟩ :: rs)) (hx : Opd E x (.bsl p o n) := by first | exact Opd.int _ _ | exact Opd.bool _ | exact Opd.nil | exact Opd.fn _ | exact Opd.str _ | (apply Opd.tmp; ((repeat apply Look.there rfl); exact Look.here))) (hy : Opd E y (.r (.v (.i kk i))) := by first | exact Opd.int _ _ | exact Opd.bool _ | exact Opd.nil | exact Opd.fn _ | exact Opd.str _ | (apply Opd.tmp; ((repeat apply Look.there rfl); exact Look.here))) (h0 : 0 ≤ i := by first | decide | omega) (h1 : i < n := by first | decide | omega) (hd : d < N := by decide) (hw : W ops E g := by first | exact W.none | (apply wof rfl; ((repeat apply Look.there rfl); exact Look.here); first | assumption | exact rfl)) :
    Runs P ops N fin (⟨some d, .indexAddr t x y, ty, pos, after, g⟩ :: l) ⟨E, O⟩ rs := rIbs hx hy h0 h1 hd hw k
end
end Go.Proofs.Ytnhljpbpfaablaa.VS
