/- Value semantics, part 30: rows of whole numbers of the call's own, read and written by index. Conditions: none. -/
import Derived.Test.YtnhljpbpfaablaaV29
set_option linter.unusedSimpArgs false
set_option linter.unusedVariables false
namespace Go.Proofs.Ytnhljpbpfaablaa.VS
open Go Go.RowKit

section
variable {P : Program} {ops : Array Oper} {N : Nat} {fin : St → List Rec → Prop} {l : List Oper} {E : List (Nat × Slot)} {O O' : List Ent} {rs : List Rec} {d : Nat} {ty : TypeId} {pos : String} {after : Array Edge} {g : Option (Nat × Bool)}
theorem rowI_at {zs : List Int} {o : Nat} (h : o < zs.length) : (zs.map Enc.c)[o]? = some [.i .i64 (zs.getD o 0)] := by
  rw [List.getElem?_map, List.getElem?_eq_getElem h, List.getD_eq_getElem?_getD, List.getElem?_eq_getElem h]; rfl
theorem ldI {x : Operand} {t : TypeId} [Plain P t] {p n o e : Nat} {zs : List Int} (k : Runs P ops N fin l ⟨(d, .r (.v (.i .i64 (zs.getD o 0)))) :: E, O⟩ (⟨.r (.v (.i .i64 (zs.getD o 0))), none, [p]⟩ :: rs))
    (hx : Opd E x (.op p n o) := by (apply Opd.tmp; ((repeat apply Look.there rfl); exact Look.here))) (hp : O.getD p .gone = .row e 1 (zs.map Enc.c) := by exact rfl) (hn : n = zs.length := by first | assumption | exact rfl | (simp; done) | (simp; omega) | omega) (ho : o < zs.length := by first | assumption | omega | (simp; omega))
    (hd : d < N := by decide) (hw : W ops E g := by first | exact W.none | (apply wof rfl; ((repeat apply Look.there rfl); exact Look.here); first | assumption | exact rfl)) : Runs P ops N fin (⟨some d, .load t x, ty, pos, after, g⟩ :: l) ⟨E, O⟩ rs :=
  l1o (i := o) (j := 0) k hx hp (by rw [List.length_map]; exact hn) (by omega) (rowI_at ho) rfl hd hw
theorem soI {t : TypeId} [Plain P t] {x y : Operand} {p n o e : Nat} {zs : List Int} {v : Int} (k : Runs P ops N fin l ⟨E, O'⟩ (⟨.undef, some (p, .row e 1 ((zs.set o v).map Enc.c)), [p]⟩ :: rs))
    (hx : Opd E x (.op p n o) := by (apply Opd.tmp; ((repeat apply Look.there rfl); exact Look.here))) (hy : Opd E y (.r (I v)) := by first | exact Opd.int _ _ | (apply Opd.tmp; ((repeat apply Look.there rfl); exact Look.here))) (hp : O.getD p .gone = .row e 1 (zs.map Enc.c) := by exact rfl) (hn : n = zs.length := by first | assumption | exact rfl | (simp; done) | (simp; omega) | omega) (ho : o < zs.length := by first | assumption | omega | (simp; omega))
    (hO : SetAt O p (.row e 1 ((zs.set o v).map Enc.c)) O' := by ((repeat apply SetAt.there); first | exact SetAt.here | exact SetAt.new)) (hw : W ops E g := by first | exact W.none | (apply wof rfl; ((repeat apply Look.there rfl); exact Look.here); first | assumption | exact rfl)) : Runs P ops N fin (⟨none, .store t x y, ty, pos, after, g⟩ :: l) ⟨E, O⟩ rs := by
  have e1 : (zs.map Enc.c).set o ([FV.i .i64 (zs.getD o 0)].set 0 (.i .i64 v)) = (zs.set o v).map Enc.c := by rw [List.map_set]; rfl
  refine rSo (i := o) (j := 0) hx hy hp (by rw [List.length_map]; exact hn) (by omega) (rowI_at ho) (by show 0 < 1; omega) (by rw [e1]; exact hO) hw ?_
  rw [e1]
  exact k
end
/-- Two elements change their places. -/
theorem swap2 {α : Type} {L M R : List α} {x y : α} {i j : Nat} (hi : i = L.length) (hj : j = L.length + 1 + M.length) : ((L ++ x :: (M ++ y :: R)).set i y).set j x = L ++ y :: (M ++ x :: R) := by
  subst hi hj
  rw [List.set_append, if_neg (by omega), Nat.sub_self, List.set_cons_zero, List.set_append, if_neg (by omega), show L.length + 1 + M.length - L.length = M.length + 1 by omega, List.set_cons_succ, List.set_append, if_neg (by omega), Nat.sub_self, List.set_cons_zero]
theorem swap2' {α : Type} {L M R : List α} {x y : α} {i j : Nat} (hi : i = L.length) (hj : j = L.length + 1 + M.length) : ((L ++ x :: (M ++ y :: R)).set j x).set i y = L ++ y :: (M ++ x :: R) := by
  rw [List.set_comm _ _ (by omega)]
  exact swap2 hi hj
theorem getD_mid {L R : List Int} {x : Int} {i : Nat} (hi : i = L.length) : (L ++ x :: R).getD i 0 = x := by
  subst hi
  rw [List.getD_eq_getElem?_getD, List.getElem?_append_right (Nat.le_refl _), Nat.sub_self]; rfl
theorem getD_mid2 {L M R : List Int} {x y : Int} {j : Nat} (hj : j = L.length + 1 + M.length) : (L ++ x :: (M ++ y :: R)).getD j 0 = y := by
  have : L ++ x :: (M ++ y :: R) = (L ++ x :: M) ++ y :: R := by simp
  rw [this]
  exact getD_mid (by simp; omega)
theorem swap_eq {zs L M R : List Int} {x y : Int} {i j : Nat} (hz : zs = L ++ x :: (M ++ y :: R)) (hi : i = L.length) (hj : j = L.length + 1 + M.length) : (zs.set i (zs.getD j 0)).set j (zs.getD i 0) = L ++ y :: (M ++ x :: R) := by
  subst hz
  rw [getD_mid2 hj, getD_mid hi, swap2 hi hj]
theorem swap_eq' {zs L M R : List Int} {x y : Int} {i j : Nat} (hz : zs = L ++ x :: (M ++ y :: R)) (hi : i = L.length) (hj : j = L.length + 1 + M.length) : (zs.set j (zs.getD i 0)).set i (zs.getD j 0) = L ++ y :: (M ++ x :: R) := by
  subst hz
  rw [getD_mid2 hj, getD_mid hi, swap2' hi hj]
end Go.Proofs.Ytnhljpbpfaablaa.VS
