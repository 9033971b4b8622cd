/- Value semantics, part 19: slices of functions. Conditions: none. -/
import Derived.Test.YtnhljpbpfaablaaV17
set_option linter.unusedSimpArgs false
set_option linter.unusedVariables false
namespace Go.Proofs.Ytnhljpbpfaablaa.VS
open Go Go.RowKit

def hasZB (P : Program) (t : TypeId) : Bool := match P.info? t with
  | some i => i.zero.isSome
  | none => false
class HasZero (P : Program) (t : TypeId) : Prop where
  h : hasZB P t = true
theorem HasZero.spec {P : Program} (t : TypeId) [HasZero P t] : ∃ i z, P.info? t = some i ∧ i.zero = some z := by
  have h := HasZero.h (P := P) (t := t)
  unfold hasZB at h
  split at h
  · rename_i i hi
    obtain ⟨z, hz⟩ := Option.isSome_iff_exists.1 h
    exact ⟨i, z, hi, hz⟩
  · cases h
section
variable {P : Program} {ops : Array Oper} {N : Nat} {fin : St → List Rec → Prop} {l : List Oper} {E : List (Nat × Slot)} {O O' : List Ent} {rs : List Rec} {d : Nat} {ty : TypeId} {pos : String} {after : Array Edge} {g : Option (Nat × Bool)}
theorem rBsZ {t e sz b len : Nat} [Sli P t e sz b] [HasZero P e] {parts : Array (Nat × Operand)} {pd : List (Nat × RV)} {xs : List (List FV)} {touch : List Nat} (hp : Parts E O touch parts.toList pd) (hr : rowsOf 0 pd = some xs) (hl : xs.length = len) (hs : ∀ x ∈ xs, x.length = sz) (h24 : len * sz ≤ 16777216) (hd : d < N) (hw : W ops E g)
    (k : Runs P ops N fin l ⟨(d, .r (.v (.sl xs))) :: E, O⟩ (⟨.r (.v (.sl xs)), none, touch⟩ :: rs)) : Runs P ops N fin (⟨some d, .buildSlice t len parts, ty, pos, after, g⟩ :: l) ⟨E, O⟩ rs := by
  refine Runs.op (o := ⟨some d, .buildSlice t len parts, ty, pos, after, g⟩) (r := ⟨.r (.v (.sl xs)), none, touch⟩) ?_ hw.wants trivial k
  intro w0 ok0 ρ env' ents' a w hev ht hR K Q hK
  have hr' : ∀ x ∈ (Op.buildSlice t len parts).operands, SlotRep w (okS w0 ok0 ents' ρ) ents' ρ (ev (look E) x) (a.eval x) := fun x hx => by
    rw [show ev (look E) x = _ from (hev x hx).symm]; exact hR.ev x
  obtain ⟨i, h1, h2, h3, h4, h0⟩ := Sli.spec (P := P) t e sz b
  obtain ⟨i', z, h5, h6⟩ := HasZero.spec (P := P) e
  rw [h2] at h5
  cases h5
  have hrep := hp.rep (a := a) (fun p hp => hr' p.2 (by simp only [Op.operands]; simpa using ⟨p.1, by simpa using hp⟩)) ht hR.ent
  obtain ⟨hxs, hidx⟩ := rowsOf_get hr
  have hpl : pd.length = len := by rw [← hl, hxs, List.length_map]
  obtain ⟨out, ho, vss, hA, hout⟩ := fill_rows (sz := sz) _ pd 0 ((Array.range (len * sz)).map fun m => (if len * sz = 0 then #[] else z.cells)[m % (if len * sz = 0 then #[] else z.cells).size]!) [] hrep (fun j q hj => hidx j q hj) (fun q hq => hs _ (by rw [hxs]; exact List.mem_map.2 ⟨q, hq, rfl⟩)) (by simp) (by simp [hpl])
  rw [← hxs] at hA
  simp only [List.nil_append] at hout
  have hrun : (execOp a.eval ⟨some d, .buildSlice t len parts, ty, pos, after, g⟩).run P w = .ok (.value (.slice (some ⟨w.heap.size, 0, none⟩) len len)) (w.alloc (.cells out e)) := by
    have hpm : (parts.map fun (i, x) => (i, a.eval x)).toList = parts.toList.map fun p => (p.1, a.eval p.2) := by simp
    simp only [execOp, Instr.buildSlice, Sem.run_bind, run_underlying h1, Result.andThen_ok, sizeOf, typeInfo, run_program, h2, h3, Sem.run_pure]
    rw [if_neg (show ¬ len * sz > 2 ^ 24 by omega)]
    simp only [hpm]
    by_cases hlz : len * sz = 0
    · have e0 : ∀ f : Nat → Value, (Array.range 0).map f = #[] := fun f => by simp
      simp only [hlz, if_true, e0] at ho
      simp only [hlz, if_true, Sem.run_pure, Result.andThen_ok, e0, ho]
      simp [newRow, newObj, Sem.run]
    · simp only [hlz, if_false] at ho ⊢
      simp [zeroValue, typeInfo, h2, h6, ho, newRow, newObj, Sem.run]
  unfold Oper.wp
  rw [hrun]
  have hb : Below w.heap.size w (w.alloc (.cells out e)) := (Below.refl _ _).alloc (Nat.le_refl _) _
  have hR' := hR.later hb
  have hos : out.size = len * sz := by
    have := congrArg List.length hout
    rw [Array.length_toList, flat_len (hA.lens hs), ← hA.length, hl] at this
    exact this
  have hown : (w.alloc (.cells out e)).ownsRow w.heap.size e sz (.slice (some ⟨w.heap.size, 0, none⟩) len len) xs.length vss.flatten := by
    rw [hl, ← hout]
    exact World.ownsRow_lit w out len (Nat.le_refl _) (by
      simp only [maxLen]
      have : len ≤ len * sz := Nat.le_mul_of_pos_right _ h0
      omega) hos
  refine hK _ _ ⟨ρ, hR'.put (some d) (fun d' h => by cases h; exact hd) ?_⟩
  show FRep _ _ (.sl xs) _
  refine rep_of_row hown (hA.imp fun _ _ h => h.imp fun _ _ => FRep.mono (fun k hk hlt => ⟨hb.block k hlt, hk⟩)) hs h0 (fun g' hg => ?_) (row_le hown)
  cases hg
  exact ⟨fun hlt => absurd hlt (Nat.not_lt.2 hR.below.size), fun p hp hgp => absurd (hR.blk_lt hp hgp).2 (Nat.lt_irrefl _)⟩
theorem bsZ {t e sz b len : Nat} [Sli P t e sz b] [HasZero P e] {parts : Array (Nat × Operand)} {pd : List (Nat × RV)} {xs : List (List FV)} (k : Runs P ops N fin l ⟨(d, .r (.v (.sl xs))) :: E, O⟩ (⟨.r (.v (.sl xs)), none, []⟩ :: rs)) (hp : Parts E O [] parts.toList pd := by ((repeat (apply Parts.cons (by first | exact Opd.int _ _ | exact Opd.bool _ | exact Opd.nil | exact Opd.fn _ | exact Opd.str _ | (apply Opd.tmp; ((repeat apply Look.there rfl); exact Look.here))) (by first | exact fun _ _ => IsD.f (IsF.v _) | exact fun _ _ => IsD.agg _ | exact fun _ _ => IsD.f IsF.nil))); exact Parts.nil)) (hr : rowsOf 0 pd = some xs := by exact rfl) (hl : xs.length = len := by exact rfl)
    (hs : ∀ x ∈ xs, x.length = sz := by decide) (h24 : len * sz ≤ 16777216 := by decide) (hd : d < N := by decide) (hw : W ops E g := by first | exact W.none | (apply wof rfl; ((repeat apply Look.there rfl); exact Look.here); first | assumption | exact rfl)) : Runs P ops N fin (⟨some d, .buildSlice t len parts, ty, pos, after, g⟩ :: l) ⟨E, O⟩ rs := rBsZ (touch := []) hp hr hl hs h24 hd hw k
end
end Go.Proofs.Ytnhljpbpfaablaa.VS
