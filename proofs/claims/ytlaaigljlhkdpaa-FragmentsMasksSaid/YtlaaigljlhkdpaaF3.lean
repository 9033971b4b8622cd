/- The walks of functions: what each computes, by itself. Conditions: none. -/
import Derived.Test.YtlaaigljlhkdpaaF2
set_option linter.unusedVariables false
set_option linter.unusedSimpArgs false
namespace Go.Proofs.Ytlaaigljlhkdpaa.VS
open Go
structure T2 (α : Type) where
  a : α
  b : α
instance {α : Type} [Enc α] : Enc (T2 α) := ⟨fun t => Enc.c t.a ++ Enc.c t.b⟩
structure T3 (α : Type) where
  a : α
  b : α
  c : α
instance {α : Type} [Enc α] : Enc (T3 α) := ⟨fun t => Enc.c t.a ++ (Enc.c t.b ++ Enc.c t.c)⟩
structure V where
  x : Int
  y : Int
  z : Int
  w : Int
  vs : List Int
instance : Enc V := ⟨fun v => [.i .i64 v.x, .i .i64 v.y, .i .i64 v.z, .i .i64 v.w, .sl (v.vs.map Enc.c)]⟩
structure Tri where
  v : T3 V
  prim : Int
  front : Bool
instance : Enc Tri := ⟨fun t => Enc.c t.v ++ [.i .i64 t.prim, .b t.front]⟩
def pos (n : Int) : List (T2 Int) := if n = 1 then [⟨128, 128⟩] else if n = 2 then [⟨192, 192⟩, ⟨64, 64⟩] else if n = 4 then [⟨96, 32⟩, ⟨224, 96⟩, ⟨32, 160⟩, ⟨160, 224⟩] else if n = 8 then [⟨144, 80⟩, ⟨112, 176⟩, ⟨208, 144⟩, ⟨80, 48⟩, ⟨48, 208⟩, ⟨16, 112⟩, ⟨176, 240⟩, ⟨240, 16⟩] else []
theorem ex_get {α : Type} {a : List α} {k : Nat} (h : k < a.length) : ∃ x, a[k]? = some x := ⟨a[k], by simp [h]⟩
theorem pos_bd {n : Int} {p : T2 Int} (h : p ∈ pos n) : (0 ≤ p.a ∧ p.a ≤ 255) ∧ 0 ≤ p.b ∧ p.b ≤ 255 := by
  unfold pos at h
  repeat (split at h; · (simp only [List.mem_cons, List.not_mem_nil, or_false] at h; rcases h with rfl | rfl | rfl | rfl | rfl | rfl | rfl | rfl <;> decide))
  cases h
theorem pos_len (n : Int) : (pos n).length ≤ 8 := by
  unfold pos; repeat (split; · decide)
  decide
theorem pos_one {n : Int} {i : Nat} (h : i < (pos n).length) : ((pos n).length : Int) = n := by
  unfold pos at h ⊢
  repeat (split at h; · (rename_i e; subst e; rfl))
  simp at h
/-- frustum/coverage.Positions -/
theorem c36 (n : Int) : Fn Try.prog 36 [I n] (.one (L (pos n))) := by
  refine fnI Try.func36 Try.ntmps36 fun hb => ?_
  refine sg ?_
  refine as_ ?_
  refine rNil ?_
  refine sq ?_
  refine sg ?_
  refine mv ?_
  refine rNil ?_
  refine bk ?_
  refine sg ?_
  refine bo ?_
  refine as_ ?_
  refine rNil ?_
  refine cn (fun h1 => ?_) (fun h1 => ?_)
  ·
    refine sg ?_
    refine buA ?_
    refine bs ?_
    refine as_ ?_
    refine rNil ?_
    refine awp_ret ?_
    refine br ?_
    refine tr ?_
    exact ⟨.inr rfl, _, (.cons (by first | exact .v (by ((repeat apply Look.there rfl); exact Look.here)) (.f (.v _)) | exact .v (by ((repeat apply Look.there rfl); exact Look.here)) (.row rfl rfl) | exact .v (by ((repeat apply Look.there rfl); exact Look.here)) (.f .nil) | exact .a (by ((repeat apply Look.there rfl); exact Look.here)) | skip) .nil), by first | (have e := eq_of_beq h1; subst e; rfl) | (have e := eq_of_beq h2; subst e; rfl) | (have e := eq_of_beq h3; subst e; rfl) | (have e := eq_of_beq h4; subst e; rfl) | (rw [pos, if_neg (by simpa using h1), if_neg (by simpa using h2), if_neg (by simpa using h3), if_neg (by simpa using h4)]; rfl)⟩ -- LEAF 1: ret
  ·
    refine sg ?_
    refine bo ?_
    refine as_ ?_
    refine rNil ?_
    refine cn (fun h2 => ?_) (fun h2 => ?_)
    ·
      refine sg ?_
      refine buA ?_
      refine buA ?_
      refine bs ?_
      refine as_ ?_
      refine rNil ?_
      refine awp_ret ?_
      refine br ?_
      refine tr ?_
      exact ⟨.inr rfl, _, (.cons (by first | exact .v (by ((repeat apply Look.there rfl); exact Look.here)) (.f (.v _)) | exact .v (by ((repeat apply Look.there rfl); exact Look.here)) (.row rfl rfl) | exact .v (by ((repeat apply Look.there rfl); exact Look.here)) (.f .nil) | exact .a (by ((repeat apply Look.there rfl); exact Look.here)) | skip) .nil), by first | (have e := eq_of_beq h1; subst e; rfl) | (have e := eq_of_beq h2; subst e; rfl) | (have e := eq_of_beq h3; subst e; rfl) | (have e := eq_of_beq h4; subst e; rfl) | (rw [pos, if_neg (by simpa using h1), if_neg (by simpa using h2), if_neg (by simpa using h3), if_neg (by simpa using h4)]; rfl)⟩ -- LEAF 2: ret
    ·
      refine sg ?_
      refine bo ?_
      refine as_ ?_
      refine rNil ?_
      refine cn (fun h3 => ?_) (fun h3 => ?_)
      ·
        refine sg ?_
        refine buA ?_
        refine buA ?_
        refine buA ?_
        refine buA ?_
        refine bs ?_
        refine as_ ?_
        refine rNil ?_
        refine awp_ret ?_
        refine br ?_
        refine tr ?_
        exact ⟨.inr rfl, _, (.cons (by first | exact .v (by ((repeat apply Look.there rfl); exact Look.here)) (.f (.v _)) | exact .v (by ((repeat apply Look.there rfl); exact Look.here)) (.row rfl rfl) | exact .v (by ((repeat apply Look.there rfl); exact Look.here)) (.f .nil) | exact .a (by ((repeat apply Look.there rfl); exact Look.here)) | skip) .nil), by first | (have e := eq_of_beq h1; subst e; rfl) | (have e := eq_of_beq h2; subst e; rfl) | (have e := eq_of_beq h3; subst e; rfl) | (have e := eq_of_beq h4; subst e; rfl) | (rw [pos, if_neg (by simpa using h1), if_neg (by simpa using h2), if_neg (by simpa using h3), if_neg (by simpa using h4)]; rfl)⟩ -- LEAF 3: ret
      ·
        refine sg ?_
        refine bo ?_
        refine as_ ?_
        refine rNil ?_
        refine cn (fun h4 => ?_) (fun h4 => ?_)
        ·
          refine sg ?_
          refine buA ?_
          refine buA ?_
          refine buA ?_
          refine buA ?_
          refine buA ?_
          refine buA ?_
          refine buA ?_
          refine buA ?_
          refine bs ?_
          refine as_ ?_
          refine rNil ?_
          refine awp_ret ?_
          refine br ?_
          refine tr ?_
          exact ⟨.inr rfl, _, (.cons (by first | exact .v (by ((repeat apply Look.there rfl); exact Look.here)) (.f (.v _)) | exact .v (by ((repeat apply Look.there rfl); exact Look.here)) (.row rfl rfl) | exact .v (by ((repeat apply Look.there rfl); exact Look.here)) (.f .nil) | exact .a (by ((repeat apply Look.there rfl); exact Look.here)) | skip) .nil), by first | (have e := eq_of_beq h1; subst e; rfl) | (have e := eq_of_beq h2; subst e; rfl) | (have e := eq_of_beq h3; subst e; rfl) | (have e := eq_of_beq h4; subst e; rfl) | (rw [pos, if_neg (by simpa using h1), if_neg (by simpa using h2), if_neg (by simpa using h3), if_neg (by simpa using h4)]; rfl)⟩ -- LEAF 4: ret
        ·
          refine awp_skip ?_
          refine bn_ ?_
          refine tn ?_
          refine sg ?_
          refine as_ ?_
          refine rNil ?_
          refine awp_ret ?_
          exact ⟨.inr rfl, _, (.cons (by first | exact .v (by ((repeat apply Look.there rfl); exact Look.here)) (.f (.v _)) | exact .v (by ((repeat apply Look.there rfl); exact Look.here)) (.row rfl rfl) | exact .v (by ((repeat apply Look.there rfl); exact Look.here)) (.f .nil) | exact .a (by ((repeat apply Look.there rfl); exact Look.here)) | skip) .nil), by first | (have e := eq_of_beq h1; subst e; rfl) | (have e := eq_of_beq h2; subst e; rfl) | (have e := eq_of_beq h3; subst e; rfl) | (have e := eq_of_beq h4; subst e; rfl) | (rw [pos, if_neg (by simpa using h1), if_neg (by simpa using h2), if_neg (by simpa using h3), if_neg (by simpa using h4)]; rfl)⟩ -- LEAF 5: ret

/-- frustum/frustumref35.Positions -/
theorem c49 (n : Int) : Fn Try.prog 49 [I n] (.one (L (pos n))) := by
  refine fnI Try.func49 Try.ntmps49 fun hb => ?_
  refine sg ?_
  refine as_ ?_
  refine rNil ?_
  refine sq ?_
  refine sg ?_
  refine mv ?_
  refine rNil ?_
  refine bk ?_
  refine sg ?_
  refine bo ?_
  refine as_ ?_
  refine rNil ?_
  refine cn (fun h1 => ?_) (fun h1 => ?_)
  ·
    refine sg ?_
    refine buA ?_
    refine bs ?_
    refine as_ ?_
    refine rNil ?_
    refine awp_ret ?_
    refine br ?_
    refine tr ?_
    exact ⟨.inr rfl, _, (.cons (by first | exact .v (by ((repeat apply Look.there rfl); exact Look.here)) (.f (.v _)) | exact .v (by ((repeat apply Look.there rfl); exact Look.here)) (.row rfl rfl) | exact .v (by ((repeat apply Look.there rfl); exact Look.here)) (.f .nil) | exact .a (by ((repeat apply Look.there rfl); exact Look.here)) | skip) .nil), by first | (have e := eq_of_beq h1; subst e; rfl) | (have e := eq_of_beq h2; subst e; rfl) | (have e := eq_of_beq h3; subst e; rfl) | (have e := eq_of_beq h4; subst e; rfl) | (rw [pos, if_neg (by simpa using h1), if_neg (by simpa using h2), if_neg (by simpa using h3), if_neg (by simpa using h4)]; rfl)⟩ -- LEAF 1: ret
  ·
    refine sg ?_
    refine bo ?_
    refine as_ ?_
    refine rNil ?_
    refine cn (fun h2 => ?_) (fun h2 => ?_)
    ·
      refine sg ?_
      refine buA ?_
      refine buA ?_
      refine bs ?_
      refine as_ ?_
      refine rNil ?_
      refine awp_ret ?_
      refine br ?_
      refine tr ?_
      exact ⟨.inr rfl, _, (.cons (by first | exact .v (by ((repeat apply Look.there rfl); exact Look.here)) (.f (.v _)) | exact .v (by ((repeat apply Look.there rfl); exact Look.here)) (.row rfl rfl) | exact .v (by ((repeat apply Look.there rfl); exact Look.here)) (.f .nil) | exact .a (by ((repeat apply Look.there rfl); exact Look.here)) | skip) .nil), by first | (have e := eq_of_beq h1; subst e; rfl) | (have e := eq_of_beq h2; subst e; rfl) | (have e := eq_of_beq h3; subst e; rfl) | (have e := eq_of_beq h4; subst e; rfl) | (rw [pos, if_neg (by simpa using h1), if_neg (by simpa using h2), if_neg (by simpa using h3), if_neg (by simpa using h4)]; rfl)⟩ -- LEAF 2: ret
    ·
      refine sg ?_
      refine bo ?_
      refine as_ ?_
      refine rNil ?_
      refine cn (fun h3 => ?_) (fun h3 => ?_)
      ·
        refine sg ?_
        refine buA ?_
        refine buA ?_
        refine buA ?_
        refine buA ?_
        refine bs ?_
        refine as_ ?_
        refine rNil ?_
        refine awp_ret ?_
        refine br ?_
        refine tr ?_
        exact ⟨.inr rfl, _, (.cons (by first | exact .v (by ((repeat apply Look.there rfl); exact Look.here)) (.f (.v _)) | exact .v (by ((repeat apply Look.there rfl); exact Look.here)) (.row rfl rfl) | exact .v (by ((repeat apply Look.there rfl); exact Look.here)) (.f .nil) | exact .a (by ((repeat apply Look.there rfl); exact Look.here)) | skip) .nil), by first | (have e := eq_of_beq h1; subst e; rfl) | (have e := eq_of_beq h2; subst e; rfl) | (have e := eq_of_beq h3; subst e; rfl) | (have e := eq_of_beq h4; subst e; rfl) | (rw [pos, if_neg (by simpa using h1), if_neg (by simpa using h2), if_neg (by simpa using h3), if_neg (by simpa using h4)]; rfl)⟩ -- LEAF 3: ret
      ·
        refine sg ?_
        refine bo ?_
        refine as_ ?_
        refine rNil ?_
        refine cn (fun h4 => ?_) (fun h4 => ?_)
        ·
          refine sg ?_
          refine buA ?_
          refine buA ?_
          refine buA ?_
          refine buA ?_
          refine buA ?_
          refine buA ?_
          refine buA ?_
          refine buA ?_
          refine bs ?_
          refine as_ ?_
          refine rNil ?_
          refine awp_ret ?_
          refine br ?_
          refine tr ?_
          exact ⟨.inr rfl, _, (.cons (by first | exact .v (by ((repeat apply Look.there rfl); exact Look.here)) (.f (.v _)) | exact .v (by ((repeat apply Look.there rfl); exact Look.here)) (.row rfl rfl) | exact .v (by ((repeat apply Look.there rfl); exact Look.here)) (.f .nil) | exact .a (by ((repeat apply Look.there rfl); exact Look.here)) | skip) .nil), by first | (have e := eq_of_beq h1; subst e; rfl) | (have e := eq_of_beq h2; subst e; rfl) | (have e := eq_of_beq h3; subst e; rfl) | (have e := eq_of_beq h4; subst e; rfl) | (rw [pos, if_neg (by simpa using h1), if_neg (by simpa using h2), if_neg (by simpa using h3), if_neg (by simpa using h4)]; rfl)⟩ -- LEAF 4: ret
        ·
          refine awp_skip ?_
          refine bn_ ?_
          refine tn ?_
          refine sg ?_
          refine as_ ?_
          refine rNil ?_
          refine awp_ret ?_
          exact ⟨.inr rfl, _, (.cons (by first | exact .v (by ((repeat apply Look.there rfl); exact Look.here)) (.f (.v _)) | exact .v (by ((repeat apply Look.there rfl); exact Look.here)) (.row rfl rfl) | exact .v (by ((repeat apply Look.there rfl); exact Look.here)) (.f .nil) | exact .a (by ((repeat apply Look.there rfl); exact Look.here)) | skip) .nil), by first | (have e := eq_of_beq h1; subst e; rfl) | (have e := eq_of_beq h2; subst e; rfl) | (have e := eq_of_beq h3; subst e; rfl) | (have e := eq_of_beq h4; subst e; rfl) | (rw [pos, if_neg (by simpa using h1), if_neg (by simpa using h2), if_neg (by simpa using h3), if_neg (by simpa using h4)]; rfl)⟩ -- LEAF 5: ret

def spF (x y n i : Int) : Int × Int := if 0 ≤ x ∧ x < 64 ∧ 0 ≤ y ∧ y < 64 ∧ 0 ≤ i then (match (pos n)[i.toNat]? with | some p => (x * 256 + p.a, y * 256 + p.b) | none => (-1, -1)) else (-1, -1)
theorem sp_in {x y n i : Int} {p : T2 Int} (h : 0 ≤ x ∧ x < 64 ∧ 0 ≤ y ∧ y < 64 ∧ 0 ≤ i) (hp : (pos n)[i.toNat]? = some p) : spF x y n i = (x * 256 + p.a, y * 256 + p.b) := by rw [spF, if_pos h, hp]
theorem sp_out {x y n i : Int} (h : ¬ (0 ≤ x ∧ x < 64 ∧ 0 ≤ y ∧ y < 64 ∧ 0 ≤ i ∧ i < (pos n).length)) : spF x y n i = (-1, -1) := by
  unfold spF
  split
  · rw [List.getElem?_eq_none (by omega)]
  · rfl
theorem sp_bd (x y n i : Int) : (spF x y n i = (-1, -1)) ∨ ((0 ≤ (spF x y n i).1 ∧ (spF x y n i).1 ≤ 16384) ∧ 0 ≤ (spF x y n i).2 ∧ (spF x y n i).2 ≤ 16384) := by
  unfold spF
  split
  · rename_i h
    cases hp : (pos n)[i.toNat]? with
    | none => exact .inl rfl
    | some p =>
      have := pos_bd (List.mem_of_getElem? hp)
      right; simp only; omega
  · exact .inl rfl
/-- frustum/coverage.SamplePoint -/
theorem c19 (x y n i : Int) : Fn Try.prog 19 [I x, I y, I n, I i] (.many [I (spF x y n i).1, I (spF x y n i).2]) := by
  refine fnI Try.func19 Try.ntmps19 fun hb => ?_
  refine sg ?_
  refine as_ ?_
  refine as_ ?_
  refine rNil ?_
  refine sg ?_
  refine mv ?_
  refine cl (c36 _) ?_
  refine as_ ?_
  refine rNil ?_
  refine sq ?_
  refine sg ?_
  refine mv ?_
  refine bo ?_
  refine mv ?_
  refine gd (fun h1 => ?_) (fun h1 => ?_)
  ·
    refine no ?_
    refine no ?_
    refine pkT ?_
    refine mv ?_
    refine no ?_
    refine no ?_
    refine pkT ?_
    refine mv ?_
    refine no ?_
    refine no ?_
    refine pkT ?_
    refine mv ?_
    refine no ?_
    refine no ?_
    refine pkT ?_
    refine mv ?_
    refine no ?_
    refine no ?_
    refine no ?_
    refine no ?_
    refine pkT ?_
    refine rNil ?_
    refine cn (fun h2 => ?_) (fun h2 => ?_)
    ·
      refine sg ?_
      refine as_ ?_
      refine as_ ?_
      refine rNil ?_
      refine awp_ret ?_
      refine tr ?_
      exact ⟨.inr rfl, _, (.cons (by first | exact .v (by ((repeat apply Look.there rfl); exact Look.here)) (.f (.v _)) | exact .v (by ((repeat apply Look.there rfl); exact Look.here)) (.row rfl rfl) | exact .v (by ((repeat apply Look.there rfl); exact Look.here)) (.f .nil) | exact .a (by ((repeat apply Look.there rfl); exact Look.here)) | skip) (.cons (by first | exact .v (by ((repeat apply Look.there rfl); exact Look.here)) (.f (.v _)) | exact .v (by ((repeat apply Look.there rfl); exact Look.here)) (.row rfl rfl) | exact .v (by ((repeat apply Look.there rfl); exact Look.here)) (.f .nil) | exact .a (by ((repeat apply Look.there rfl); exact Look.here)) | skip) .nil)), by rw [sp_out (by simp only [decide_eq_true_eq, decide_eq_false_iff_not] at *; omega)]; rfl⟩ -- LEAF 1: ret
    ·
      exact absurd h2 (by decide)
  ·
    refine mv ?_
    refine bo ?_
    refine pkF ?_
    refine mv ?_
    refine gd (fun h3 => ?_) (fun h3 => ?_)
    ·
      refine no ?_
      refine no ?_
      refine pkT ?_
      refine mv ?_
      refine no ?_
      refine no ?_
      refine pkT ?_
      refine mv ?_
      refine no ?_
      refine no ?_
      refine pkT ?_
      refine mv ?_
      refine no ?_
      refine no ?_
      refine no ?_
      refine no ?_
      refine pkT ?_
      refine rNil ?_
      refine cn (fun h4 => ?_) (fun h4 => ?_)
      ·
        refine sg ?_
        refine as_ ?_
        refine as_ ?_
        refine rNil ?_
        refine awp_ret ?_
        refine tr ?_
        exact ⟨.inr rfl, _, (.cons (by first | exact .v (by ((repeat apply Look.there rfl); exact Look.here)) (.f (.v _)) | exact .v (by ((repeat apply Look.there rfl); exact Look.here)) (.row rfl rfl) | exact .v (by ((repeat apply Look.there rfl); exact Look.here)) (.f .nil) | exact .a (by ((repeat apply Look.there rfl); exact Look.here)) | skip) (.cons (by first | exact .v (by ((repeat apply Look.there rfl); exact Look.here)) (.f (.v _)) | exact .v (by ((repeat apply Look.there rfl); exact Look.here)) (.row rfl rfl) | exact .v (by ((repeat apply Look.there rfl); exact Look.here)) (.f .nil) | exact .a (by ((repeat apply Look.there rfl); exact Look.here)) | skip) .nil)), by rw [sp_out (by simp only [decide_eq_true_eq, decide_eq_false_iff_not] at *; omega)]; rfl⟩ -- LEAF 2: ret
      ·
        exact absurd h4 (by decide)
    ·
      refine mv ?_
      refine bo ?_
      refine pkF ?_
      refine mv ?_
      refine gd (fun h5 => ?_) (fun h5 => ?_)
      ·
        refine no ?_
        refine no ?_
        refine pkT ?_
        refine mv ?_
        refine no ?_
        refine no ?_
        refine pkT ?_
        refine mv ?_
        refine no ?_
        refine no ?_
        refine no ?_
        refine no ?_
        refine pkT ?_
        refine rNil ?_
        refine cn (fun h6 => ?_) (fun h6 => ?_)
        ·
          refine sg ?_
          refine as_ ?_
          refine as_ ?_
          refine rNil ?_
          refine awp_ret ?_
          refine tr ?_
          exact ⟨.inr rfl, _, (.cons (by first | exact .v (by ((repeat apply Look.there rfl); exact Look.here)) (.f (.v _)) | exact .v (by ((repeat apply Look.there rfl); exact Look.here)) (.row rfl rfl) | exact .v (by ((repeat apply Look.there rfl); exact Look.here)) (.f .nil) | exact .a (by ((repeat apply Look.there rfl); exact Look.here)) | skip) (.cons (by first | exact .v (by ((repeat apply Look.there rfl); exact Look.here)) (.f (.v _)) | exact .v (by ((repeat apply Look.there rfl); exact Look.here)) (.row rfl rfl) | exact .v (by ((repeat apply Look.there rfl); exact Look.here)) (.f .nil) | exact .a (by ((repeat apply Look.there rfl); exact Look.here)) | skip) .nil)), by rw [sp_out (by simp only [decide_eq_true_eq, decide_eq_false_iff_not] at *; omega)]; rfl⟩ -- LEAF 3: ret
        ·
          exact absurd h6 (by decide)
      ·
        refine mv ?_
        refine bo ?_
        refine pkF ?_
        refine mv ?_
        refine gd (fun h7 => ?_) (fun h7 => ?_)
        ·
          refine no ?_
          refine no ?_
          refine pkT ?_
          refine mv ?_
          refine no ?_
          refine no ?_
          refine no ?_
          refine no ?_
          refine pkT ?_
          refine rNil ?_
          refine cn (fun h8 => ?_) (fun h8 => ?_)
          ·
            refine sg ?_
            refine as_ ?_
            refine as_ ?_
            refine rNil ?_
            refine awp_ret ?_
            refine tr ?_
            exact ⟨.inr rfl, _, (.cons (by first | exact .v (by ((repeat apply Look.there rfl); exact Look.here)) (.f (.v _)) | exact .v (by ((repeat apply Look.there rfl); exact Look.here)) (.row rfl rfl) | exact .v (by ((repeat apply Look.there rfl); exact Look.here)) (.f .nil) | exact .a (by ((repeat apply Look.there rfl); exact Look.here)) | skip) (.cons (by first | exact .v (by ((repeat apply Look.there rfl); exact Look.here)) (.f (.v _)) | exact .v (by ((repeat apply Look.there rfl); exact Look.here)) (.row rfl rfl) | exact .v (by ((repeat apply Look.there rfl); exact Look.here)) (.f .nil) | exact .a (by ((repeat apply Look.there rfl); exact Look.here)) | skip) .nil)), by rw [sp_out (by simp only [decide_eq_true_eq, decide_eq_false_iff_not] at *; omega)]; rfl⟩ -- LEAF 4: ret
          ·
            exact absurd h8 (by decide)
        ·
          refine mv ?_
          refine bo ?_
          refine pkF ?_
          refine mv ?_
          refine gd (fun h9 => ?_) (fun h9 => ?_)
          ·
            refine no ?_
            refine no ?_
            refine no ?_
            refine no ?_
            refine pkT ?_
            refine rNil ?_
            refine cn (fun h10 => ?_) (fun h10 => ?_)
            ·
              refine sg ?_
              refine as_ ?_
              refine as_ ?_
              refine rNil ?_
              refine awp_ret ?_
              refine tr ?_
              exact ⟨.inr rfl, _, (.cons (by first | exact .v (by ((repeat apply Look.there rfl); exact Look.here)) (.f (.v _)) | exact .v (by ((repeat apply Look.there rfl); exact Look.here)) (.row rfl rfl) | exact .v (by ((repeat apply Look.there rfl); exact Look.here)) (.f .nil) | exact .a (by ((repeat apply Look.there rfl); exact Look.here)) | skip) (.cons (by first | exact .v (by ((repeat apply Look.there rfl); exact Look.here)) (.f (.v _)) | exact .v (by ((repeat apply Look.there rfl); exact Look.here)) (.row rfl rfl) | exact .v (by ((repeat apply Look.there rfl); exact Look.here)) (.f .nil) | exact .a (by ((repeat apply Look.there rfl); exact Look.here)) | skip) .nil)), by rw [sp_out (by simp only [decide_eq_true_eq, decide_eq_false_iff_not] at *; omega)]; rfl⟩ -- LEAF 5: ret
            ·
              exact absurd h10 (by decide)
          ·
            refine mv ?_
            refine mv ?_
            first | refine lnM ?_ | refine ln ?_ | refine lnO ?_ | refine lnN ?_ | refine lnW ?_
            refine bo ?_
            refine pkF ?_
            refine rNil ?_
            refine cn (fun h11 => ?_) (fun h11 => ?_)
            ·
              refine sg ?_
              refine as_ ?_
              refine as_ ?_
              refine rNil ?_
              refine awp_ret ?_
              refine tr ?_
              exact ⟨.inr rfl, _, (.cons (by first | exact .v (by ((repeat apply Look.there rfl); exact Look.here)) (.f (.v _)) | exact .v (by ((repeat apply Look.there rfl); exact Look.here)) (.row rfl rfl) | exact .v (by ((repeat apply Look.there rfl); exact Look.here)) (.f .nil) | exact .a (by ((repeat apply Look.there rfl); exact Look.here)) | skip) (.cons (by first | exact .v (by ((repeat apply Look.there rfl); exact Look.here)) (.f (.v _)) | exact .v (by ((repeat apply Look.there rfl); exact Look.here)) (.row rfl rfl) | exact .v (by ((repeat apply Look.there rfl); exact Look.here)) (.f .nil) | exact .a (by ((repeat apply Look.there rfl); exact Look.here)) | skip) .nil)), by rw [sp_out (by simp only [decide_eq_true_eq, decide_eq_false_iff_not] at *; omega)]; rfl⟩ -- LEAF 6: ret
            ·
              have g1 : 0 ≤ x := by simpa using h1
              have g2 : x < 64 := by simp at h3; omega
              have g3 : 0 ≤ y := by simpa using h5
              have g4 : y < 64 := by simp at h7; omega
              have g5 : 0 ≤ i := by simpa using h9
              have g6 : i < (pos n).length := by simpa using h11
              obtain ⟨p, hp⟩ := ex_get (a := pos n) (k := i.toNat) (by omega)
              have g7 := pos_bd (List.mem_of_getElem? hp)
              refine awp_skip ?_
              refine tn ?_
              refine sd mixO ?_
              refine mv ?_
              refine bo ?_
              refine mv ?_
              refine mv ?_
              first | refine xs_ ?_ | refine xo ?_ | refine xw ?_
              first | refine xf ?_ | refine xb ?_ | refine xoa ?_
              first | refine l1f ?_ | refine l1b ?_ | refine l1o ?_
              refine bo ?_
              refine mv ?_
              refine bo ?_
              refine mv ?_
              refine mv ?_
              first | refine xs_ ?_ | refine xo ?_ | refine xw ?_
              first | refine xf ?_ | refine xb ?_ | refine xoa ?_
              first | refine l1f ?_ | refine l1b ?_ | refine l1o ?_
              refine bo ?_
              refine as_ ?_
              refine as_ ?_
              refine rNil ⟨rfl, ?_⟩
              refine awp_ret ?_
              exact ⟨.inr rfl, _, (.cons (by first | exact .v (by ((repeat apply Look.there rfl); exact Look.here)) (.f (.v _)) | exact .v (by ((repeat apply Look.there rfl); exact Look.here)) (.row rfl rfl) | exact .v (by ((repeat apply Look.there rfl); exact Look.here)) (.f .nil) | exact .a (by ((repeat apply Look.there rfl); exact Look.here)) | skip) (.cons (by first | exact .v (by ((repeat apply Look.there rfl); exact Look.here)) (.f (.v _)) | exact .v (by ((repeat apply Look.there rfl); exact Look.here)) (.row rfl rfl) | exact .v (by ((repeat apply Look.there rfl); exact Look.here)) (.f .nil) | exact .a (by ((repeat apply Look.there rfl); exact Look.here)) | skip) .nil)), by rw [sp_in (by omega) hp]; rfl⟩ -- LEAF 7: ret

/-- frustum/frustumref35.SamplePoint -/
theorem c24 (x y n i : Int) : Fn Try.prog 24 [I x, I y, I n, I i] (.many [I (spF x y n i).1, I (spF x y n i).2]) := by
  refine fnI Try.func24 Try.ntmps24 fun hb => ?_
  refine sg ?_
  refine as_ ?_
  refine as_ ?_
  refine rNil ?_
  refine sg ?_
  refine mv ?_
  refine cl (c49 _) ?_
  refine as_ ?_
  refine rNil ?_
  refine sq ?_
  refine sg ?_
  refine mv ?_
  refine bo ?_
  refine mv ?_
  refine gd (fun h1 => ?_) (fun h1 => ?_)
  ·
    refine no ?_
    refine no ?_
    refine pkT ?_
    refine mv ?_
    refine no ?_
    refine no ?_
    refine pkT ?_
    refine mv ?_
    refine no ?_
    refine no ?_
    refine pkT ?_
    refine mv ?_
    refine no ?_
    refine no ?_
    refine pkT ?_
    refine mv ?_
    refine no ?_
    refine no ?_
    refine no ?_
    refine no ?_
    refine pkT ?_
    refine rNil ?_
    refine cn (fun h2 => ?_) (fun h2 => ?_)
    ·
      refine sg ?_
      refine as_ ?_
      refine as_ ?_
      refine rNil ?_
      refine awp_ret ?_
      refine tr ?_
      exact ⟨.inr rfl, _, (.cons (by first | exact .v (by ((repeat apply Look.there rfl); exact Look.here)) (.f (.v _)) | exact .v (by ((repeat apply Look.there rfl); exact Look.here)) (.row rfl rfl) | exact .v (by ((repeat apply Look.there rfl); exact Look.here)) (.f .nil) | exact .a (by ((repeat apply Look.there rfl); exact Look.here)) | skip) (.cons (by first | exact .v (by ((repeat apply Look.there rfl); exact Look.here)) (.f (.v _)) | exact .v (by ((repeat apply Look.there rfl); exact Look.here)) (.row rfl rfl) | exact .v (by ((repeat apply Look.there rfl); exact Look.here)) (.f .nil) | exact .a (by ((repeat apply Look.there rfl); exact Look.here)) | skip) .nil)), by rw [sp_out (by simp only [decide_eq_true_eq, decide_eq_false_iff_not] at *; omega)]; rfl⟩ -- LEAF 1: ret
    ·
      exact absurd h2 (by decide)
  ·
    refine mv ?_
    refine bo ?_
    refine pkF ?_
    refine mv ?_
    refine gd (fun h3 => ?_) (fun h3 => ?_)
    ·
      refine no ?_
      refine no ?_
      refine pkT ?_
      refine mv ?_
      refine no ?_
      refine no ?_
      refine pkT ?_
      refine mv ?_
      refine no ?_
      refine no ?_
      refine pkT ?_
      refine mv ?_
      refine no ?_
      refine no ?_
      refine no ?_
      refine no ?_
      refine pkT ?_
      refine rNil ?_
      refine cn (fun h4 => ?_) (fun h4 => ?_)
      ·
        refine sg ?_
        refine as_ ?_
        refine as_ ?_
        refine rNil ?_
        refine awp_ret ?_
        refine tr ?_
        exact ⟨.inr rfl, _, (.cons (by first | exact .v (by ((repeat apply Look.there rfl); exact Look.here)) (.f (.v _)) | exact .v (by ((repeat apply Look.there rfl); exact Look.here)) (.row rfl rfl) | exact .v (by ((repeat apply Look.there rfl); exact Look.here)) (.f .nil) | exact .a (by ((repeat apply Look.there rfl); exact Look.here)) | skip) (.cons (by first | exact .v (by ((repeat apply Look.there rfl); exact Look.here)) (.f (.v _)) | exact .v (by ((repeat apply Look.there rfl); exact Look.here)) (.row rfl rfl) | exact .v (by ((repeat apply Look.there rfl); exact Look.here)) (.f .nil) | exact .a (by ((repeat apply Look.there rfl); exact Look.here)) | skip) .nil)), by rw [sp_out (by simp only [decide_eq_true_eq, decide_eq_false_iff_not] at *; omega)]; rfl⟩ -- LEAF 2: ret
      ·
        exact absurd h4 (by decide)
    ·
      refine mv ?_
      refine bo ?_
      refine pkF ?_
      refine mv ?_
      refine gd (fun h5 => ?_) (fun h5 => ?_)
      ·
        refine no ?_
        refine no ?_
        refine pkT ?_
        refine mv ?_
        refine no ?_
        refine no ?_
        refine pkT ?_
        refine mv ?_
        refine no ?_
        refine no ?_
        refine no ?_
        refine no ?_
        refine pkT ?_
        refine rNil ?_
        refine cn (fun h6 => ?_) (fun h6 => ?_)
        ·
          refine sg ?_
          refine as_ ?_
          refine as_ ?_
          refine rNil ?_
          refine awp_ret ?_
          refine tr ?_
          exact ⟨.inr rfl, _, (.cons (by first | exact .v (by ((repeat apply Look.there rfl); exact Look.here)) (.f (.v _)) | exact .v (by ((repeat apply Look.there rfl); exact Look.here)) (.row rfl rfl) | exact .v (by ((repeat apply Look.there rfl); exact Look.here)) (.f .nil) | exact .a (by ((repeat apply Look.there rfl); exact Look.here)) | skip) (.cons (by first | exact .v (by ((repeat apply Look.there rfl); exact Look.here)) (.f (.v _)) | exact .v (by ((repeat apply Look.there rfl); exact Look.here)) (.row rfl rfl) | exact .v (by ((repeat apply Look.there rfl); exact Look.here)) (.f .nil) | exact .a (by ((repeat apply Look.there rfl); exact Look.here)) | skip) .nil)), by rw [sp_out (by simp only [decide_eq_true_eq, decide_eq_false_iff_not] at *; omega)]; rfl⟩ -- LEAF 3: ret
        ·
          exact absurd h6 (by decide)
      ·
        refine mv ?_
        refine bo ?_
        refine pkF ?_
        refine mv ?_
        refine gd (fun h7 => ?_) (fun h7 => ?_)
        ·
          refine no ?_
          refine no ?_
          refine pkT ?_
          refine mv ?_
          refine no ?_
          refine no ?_
          refine no ?_
          refine no ?_
          refine pkT ?_
          refine rNil ?_
          refine cn (fun h8 => ?_) (fun h8 => ?_)
          ·
            refine sg ?_
            refine as_ ?_
            refine as_ ?_
            refine rNil ?_
            refine awp_ret ?_
            refine tr ?_
            exact ⟨.inr rfl, _, (.cons (by first | exact .v (by ((repeat apply Look.there rfl); exact Look.here)) (.f (.v _)) | exact .v (by ((repeat apply Look.there rfl); exact Look.here)) (.row rfl rfl) | exact .v (by ((repeat apply Look.there rfl); exact Look.here)) (.f .nil) | exact .a (by ((repeat apply Look.there rfl); exact Look.here)) | skip) (.cons (by first | exact .v (by ((repeat apply Look.there rfl); exact Look.here)) (.f (.v _)) | exact .v (by ((repeat apply Look.there rfl); exact Look.here)) (.row rfl rfl) | exact .v (by ((repeat apply Look.there rfl); exact Look.here)) (.f .nil) | exact .a (by ((repeat apply Look.there rfl); exact Look.here)) | skip) .nil)), by rw [sp_out (by simp only [decide_eq_true_eq, decide_eq_false_iff_not] at *; omega)]; rfl⟩ -- LEAF 4: ret
          ·
            exact absurd h8 (by decide)
        ·
          refine mv ?_
          refine bo ?_
          refine pkF ?_
          refine mv ?_
          refine gd (fun h9 => ?_) (fun h9 => ?_)
          ·
            refine no ?_
            refine no ?_
            refine no ?_
            refine no ?_
            refine pkT ?_
            refine rNil ?_
            refine cn (fun h10 => ?_) (fun h10 => ?_)
            ·
              refine sg ?_
              refine as_ ?_
              refine as_ ?_
              refine rNil ?_
              refine awp_ret ?_
              refine tr ?_
              exact ⟨.inr rfl, _, (.cons (by first | exact .v (by ((repeat apply Look.there rfl); exact Look.here)) (.f (.v _)) | exact .v (by ((repeat apply Look.there rfl); exact Look.here)) (.row rfl rfl) | exact .v (by ((repeat apply Look.there rfl); exact Look.here)) (.f .nil) | exact .a (by ((repeat apply Look.there rfl); exact Look.here)) | skip) (.cons (by first | exact .v (by ((repeat apply Look.there rfl); exact Look.here)) (.f (.v _)) | exact .v (by ((repeat apply Look.there rfl); exact Look.here)) (.row rfl rfl) | exact .v (by ((repeat apply Look.there rfl); exact Look.here)) (.f .nil) | exact .a (by ((repeat apply Look.there rfl); exact Look.here)) | skip) .nil)), by rw [sp_out (by simp only [decide_eq_true_eq, decide_eq_false_iff_not] at *; omega)]; rfl⟩ -- LEAF 5: ret
            ·
              exact absurd h10 (by decide)
          ·
            refine mv ?_
            refine mv ?_
            first | refine lnM ?_ | refine ln ?_ | refine lnO ?_ | refine lnN ?_ | refine lnW ?_
            refine bo ?_
            refine pkF ?_
            refine rNil ?_
            refine cn (fun h11 => ?_) (fun h11 => ?_)
            ·
              refine sg ?_
              refine as_ ?_
              refine as_ ?_
              refine rNil ?_
              refine awp_ret ?_
              refine tr ?_
              exact ⟨.inr rfl, _, (.cons (by first | exact .v (by ((repeat apply Look.there rfl); exact Look.here)) (.f (.v _)) | exact .v (by ((repeat apply Look.there rfl); exact Look.here)) (.row rfl rfl) | exact .v (by ((repeat apply Look.there rfl); exact Look.here)) (.f .nil) | exact .a (by ((repeat apply Look.there rfl); exact Look.here)) | skip) (.cons (by first | exact .v (by ((repeat apply Look.there rfl); exact Look.here)) (.f (.v _)) | exact .v (by ((repeat apply Look.there rfl); exact Look.here)) (.row rfl rfl) | exact .v (by ((repeat apply Look.there rfl); exact Look.here)) (.f .nil) | exact .a (by ((repeat apply Look.there rfl); exact Look.here)) | skip) .nil)), by rw [sp_out (by simp only [decide_eq_true_eq, decide_eq_false_iff_not] at *; omega)]; rfl⟩ -- LEAF 6: ret
            ·
              have g1 : 0 ≤ x := by simpa using h1
              have g2 : x < 64 := by simp at h3; omega
              have g3 : 0 ≤ y := by simpa using h5
              have g4 : y < 64 := by simp at h7; omega
              have g5 : 0 ≤ i := by simpa using h9
              have g6 : i < (pos n).length := by simpa using h11
              obtain ⟨p, hp⟩ := ex_get (a := pos n) (k := i.toNat) (by omega)
              have g7 := pos_bd (List.mem_of_getElem? hp)
              refine awp_skip ?_
              refine tn ?_
              refine sd mixO ?_
              refine mv ?_
              refine bo ?_
              refine mv ?_
              refine mv ?_
              first | refine xs_ ?_ | refine xo ?_ | refine xw ?_
              first | refine xf ?_ | refine xb ?_ | refine xoa ?_
              first | refine l1f ?_ | refine l1b ?_ | refine l1o ?_
              refine bo ?_
              refine mv ?_
              refine bo ?_
              refine mv ?_
              refine mv ?_
              first | refine xs_ ?_ | refine xo ?_ | refine xw ?_
              first | refine xf ?_ | refine xb ?_ | refine xoa ?_
              first | refine l1f ?_ | refine l1b ?_ | refine l1o ?_
              refine bo ?_
              refine as_ ?_
              refine as_ ?_
              refine rNil ⟨rfl, ?_⟩
              refine awp_ret ?_
              exact ⟨.inr rfl, _, (.cons (by first | exact .v (by ((repeat apply Look.there rfl); exact Look.here)) (.f (.v _)) | exact .v (by ((repeat apply Look.there rfl); exact Look.here)) (.row rfl rfl) | exact .v (by ((repeat apply Look.there rfl); exact Look.here)) (.f .nil) | exact .a (by ((repeat apply Look.there rfl); exact Look.here)) | skip) (.cons (by first | exact .v (by ((repeat apply Look.there rfl); exact Look.here)) (.f (.v _)) | exact .v (by ((repeat apply Look.there rfl); exact Look.here)) (.row rfl rfl) | exact .v (by ((repeat apply Look.there rfl); exact Look.here)) (.f .nil) | exact .a (by ((repeat apply Look.there rfl); exact Look.here)) | skip) .nil)), by rw [sp_in (by omega) hp]; rfl⟩ -- LEAF 7: ret

def limF (at' size : Int) : Int × Int := if size ≤ 0 then (0, 0) else (mx at' 0, if at' ≤ 64 - size then at' + size else 64)
/-- frustum/coverage.limits -/
theorem c34 (at' size : Int) (ha : -300 ≤ at' ∧ at' ≤ 300) (hs : size ≤ 300) : Fn Try.prog 34 [I at', I size] (.many [I (limF at' size).1, I (limF at' size).2]) := by
  refine fnI Try.func34 Try.ntmps34 fun hb => ?_
  refine sg ?_
  refine as_ ?_
  refine as_ ?_
  refine rNil ?_
  refine sq ?_
  refine sg ?_
  refine mv ?_
  refine bo ?_
  refine rNil ?_
  refine cn (fun h1 => ?_) (fun h1 => ?_)
  ·
    refine sg ?_
    refine as_ ?_
    refine as_ ?_
    refine rNil ?_
    refine awp_ret ?_
    refine tr ?_
    exact ⟨.inr rfl, _, (.cons (by first | exact .v (by ((repeat apply Look.there rfl); exact Look.here)) (.f (.v _)) | exact .v (by ((repeat apply Look.there rfl); exact Look.here)) (.row rfl rfl) | exact .v (by ((repeat apply Look.there rfl); exact Look.here)) (.f .nil) | exact .a (by ((repeat apply Look.there rfl); exact Look.here)) | skip) (.cons (by first | exact .v (by ((repeat apply Look.there rfl); exact Look.here)) (.f (.v _)) | exact .v (by ((repeat apply Look.there rfl); exact Look.here)) (.row rfl rfl) | exact .v (by ((repeat apply Look.there rfl); exact Look.here)) (.f .nil) | exact .a (by ((repeat apply Look.there rfl); exact Look.here)) | skip) .nil)), by simp only [decide_eq_true_eq, decide_eq_false_iff_not] at *; first | (rw [limF, if_pos (by omega)]; rfl) | (rw [limF, if_neg (by omega), if_pos (by omega)]; rfl) | (rw [limF, if_neg (by omega), if_neg (by omega)]; rfl)⟩ -- LEAF 1: ret
  ·
    have g1 : 0 < size := by simpa using h1
    refine awp_skip ?_
    refine tn ?_
    refine sg ?_
    refine as_ ?_
    refine rNil ?_
    refine sq ?_
    refine sg ?_
    refine mv ?_
    refine mv ?_
    refine bo ?_
    refine bo ?_
    refine rNil ?_
    refine cn (fun h2 => ?_) (fun h2 => ?_)
    ·
      refine rg ?_
      refine mv ?_
      refine mv ?_
      refine bo ?_
      refine as_ ?_
      refine rNil ?_
      refine tn ?_
      refine sg ?_
      refine mv ?_
      refine mx2 ?_
      refine mv ?_
      refine as_ ?_
      refine as_ ?_
      refine rNil ?_
      refine awp_ret ?_
      exact ⟨.inr rfl, _, (.cons (by first | exact .v (by ((repeat apply Look.there rfl); exact Look.here)) (.f (.v _)) | exact .v (by ((repeat apply Look.there rfl); exact Look.here)) (.row rfl rfl) | exact .v (by ((repeat apply Look.there rfl); exact Look.here)) (.f .nil) | exact .a (by ((repeat apply Look.there rfl); exact Look.here)) | skip) (.cons (by first | exact .v (by ((repeat apply Look.there rfl); exact Look.here)) (.f (.v _)) | exact .v (by ((repeat apply Look.there rfl); exact Look.here)) (.row rfl rfl) | exact .v (by ((repeat apply Look.there rfl); exact Look.here)) (.f .nil) | exact .a (by ((repeat apply Look.there rfl); exact Look.here)) | skip) .nil)), by simp only [decide_eq_true_eq, decide_eq_false_iff_not] at *; first | (rw [limF, if_pos (by omega)]; rfl) | (rw [limF, if_neg (by omega), if_pos (by omega)]; rfl) | (rw [limF, if_neg (by omega), if_neg (by omega)]; rfl)⟩ -- LEAF 2: ret
    ·
      refine awp_skip ?_
      refine tn ?_
      refine sg ?_
      refine mv ?_
      refine mx2 ?_
      refine mv ?_
      refine as_ ?_
      refine as_ ?_
      refine rNil ?_
      refine awp_ret ?_
      exact ⟨.inr rfl, _, (.cons (by first | exact .v (by ((repeat apply Look.there rfl); exact Look.here)) (.f (.v _)) | exact .v (by ((repeat apply Look.there rfl); exact Look.here)) (.row rfl rfl) | exact .v (by ((repeat apply Look.there rfl); exact Look.here)) (.f .nil) | exact .a (by ((repeat apply Look.there rfl); exact Look.here)) | skip) (.cons (by first | exact .v (by ((repeat apply Look.there rfl); exact Look.here)) (.f (.v _)) | exact .v (by ((repeat apply Look.there rfl); exact Look.here)) (.row rfl rfl) | exact .v (by ((repeat apply Look.there rfl); exact Look.here)) (.f .nil) | exact .a (by ((repeat apply Look.there rfl); exact Look.here)) | skip) .nil)), by simp only [decide_eq_true_eq, decide_eq_false_iff_not] at *; first | (rw [limF, if_pos (by omega)]; rfl) | (rw [limF, if_neg (by omega), if_pos (by omega)]; rfl) | (rw [limF, if_neg (by omega), if_neg (by omega)]; rfl)⟩ -- LEAF 3: ret

def spanF (low size n : Int) : Bool := decide (low ≤ n ∧ n < low + size)
theorem wU (x : Int) : IntKind.u64.wrap x = x % 18446744073709551616 := by
  rw [IntKind.wrap]; simp [IntKind.bits, IntKind.signed]
theorem span_eq {low size n : Int} (hl : -300 ≤ low ∧ low ≤ 300) (hs : 0 < size ∧ size ≤ 300) (hn : 0 ≤ n ∧ n < 64) (h : low ≤ n) : decide (IntKind.u64.wrap (n - IntKind.u64.wrap low) < IntKind.u64.wrap size) = spanF low size n := by
  unfold spanF
  rw [wU, wU, wU]
  by_cases e : n < low + size
  · rw [decide_eq_true (show low ≤ n ∧ n < low + size by omega), decide_eq_true (by omega)]
  · rw [decide_eq_false (show ¬ (low ≤ n ∧ n < low + size) by omega), decide_eq_false (by omega)]
/-- frustum/frustumref35.spans -/
theorem c44 (low size n : Int) (hl : -300 ≤ low ∧ low ≤ 300) (hs : size ≤ 300) (hn : 0 ≤ n ∧ n < 64) : Fn Try.prog 44 [I low, I size, I n] (.one (B (spanF low size n))) := by
  refine fnI Try.func44 Try.ntmps44 fun hb => ?_
  refine sg ?_
  refine as_ ?_
  refine rNil ?_
  refine sg ?_
  refine mv ?_
  refine mv ?_
  refine bo ?_
  refine mv ?_
  refine gd (fun h1 => ?_) (fun h1 => ?_)
  ·
    refine mv ?_
    refine bo ?_
    refine pkT ?_
    refine mv ?_
    refine gd (fun h2 => ?_) (fun h2 => ?_)
    ·
      refine mv ?_
      refine cv ?_
      refine mv ?_
      refine cv ?_
      refine bo ?_
      refine mv ?_
      refine cv ?_
      refine bo ?_
      refine pkT ?_
      refine as_ ?_
      refine rNil ?_
      refine awp_ret ?_
      exact ⟨.inr rfl, _, (.cons (by first | exact .v (by ((repeat apply Look.there rfl); exact Look.here)) (.f (.v _)) | exact .v (by ((repeat apply Look.there rfl); exact Look.here)) (.row rfl rfl) | exact .v (by ((repeat apply Look.there rfl); exact Look.here)) (.f .nil) | exact .a (by ((repeat apply Look.there rfl); exact Look.here)) | skip) .nil), oneB (by simp only [decide_eq_true_eq, decide_eq_false_iff_not] at *; first | exact span_eq hl (by omega) hn (by omega) | (unfold spanF; exact (decide_eq_false (by omega)).symm))⟩ -- LEAF 1: ret
    ·
      refine no ?_
      refine no ?_
      refine no ?_
      refine no ?_
      refine no ?_
      refine no ?_
      refine no ?_
      refine no ?_
      refine pkF ?_
      refine as_ ?_
      refine rNil ?_
      refine awp_ret ?_
      exact ⟨.inr rfl, _, (.cons (by first | exact .v (by ((repeat apply Look.there rfl); exact Look.here)) (.f (.v _)) | exact .v (by ((repeat apply Look.there rfl); exact Look.here)) (.row rfl rfl) | exact .v (by ((repeat apply Look.there rfl); exact Look.here)) (.f .nil) | exact .a (by ((repeat apply Look.there rfl); exact Look.here)) | skip) .nil), oneB (by simp only [decide_eq_true_eq, decide_eq_false_iff_not] at *; first | exact span_eq hl (by omega) hn (by omega) | (unfold spanF; exact (decide_eq_false (by omega)).symm))⟩ -- LEAF 2: ret
  ·
    refine no ?_
    refine no ?_
    refine pkF ?_
    refine mv ?_
    refine no ?_
    refine no ?_
    refine no ?_
    refine no ?_
    refine no ?_
    refine no ?_
    refine no ?_
    refine no ?_
    refine pkF ?_
    refine as_ ?_
    refine rNil ?_
    refine awp_ret ?_
    exact ⟨.inr rfl, _, (.cons (by first | exact .v (by ((repeat apply Look.there rfl); exact Look.here)) (.f (.v _)) | exact .v (by ((repeat apply Look.there rfl); exact Look.here)) (.row rfl rfl) | exact .v (by ((repeat apply Look.there rfl); exact Look.here)) (.f .nil) | exact .a (by ((repeat apply Look.there rfl); exact Look.here)) | skip) .nil), oneB (by simp only [decide_eq_true_eq, decide_eq_false_iff_not] at *; first | exact span_eq hl (by omega) hn (by omega) | (unfold spanF; exact (decide_eq_false (by omega)).symm))⟩ -- LEAF 3: ret

def onP (v : V) : Prop := 0 ≤ v.x ∧ v.x ≤ 16384 ∧ 0 ≤ v.y ∧ v.y ≤ 16384
instance (v : V) : Decidable (onP v) := inferInstanceAs (Decidable (_ ∧ _))
def onS (v : V) : Bool := decide (onP v)
/-- frustum/frustumref35.inside -/
theorem c66 (v : V) : Fn Try.prog 66 [A v] (.one (B (onS v))) := by
  refine fnI Try.func66 Try.ntmps66 fun hb => ?_
  refine sg ?_
  refine bx _ ?_
  refine as_ ?_
  refine rNil ?_
  refine sg ?_
  first | refine ff ?_ | refine fb ?_ | refine fo ?_
  first | refine l1f ?_ | refine l1b ?_ | refine l1o ?_
  refine bo ?_
  refine mv ?_
  refine gd (fun h1 => ?_) (fun h1 => ?_)
  ·
    first | refine ff ?_ | refine fb ?_ | refine fo ?_
    first | refine l1f ?_ | refine l1b ?_ | refine l1o ?_
    refine bo ?_
    refine pkT ?_
    refine mv ?_
    refine gd (fun h2 => ?_) (fun h2 => ?_)
    ·
      first | refine ff ?_ | refine fb ?_ | refine fo ?_
      first | refine l1f ?_ | refine l1b ?_ | refine l1o ?_
      refine bo ?_
      refine pkT ?_
      refine mv ?_
      refine gd (fun h3 => ?_) (fun h3 => ?_)
      ·
        first | refine ff ?_ | refine fb ?_ | refine fo ?_
        first | refine l1f ?_ | refine l1b ?_ | refine l1o ?_
        refine bo ?_
        refine pkT ?_
        refine as_ ?_
        refine rNil ?_
        refine awp_ret ?_
        exact ⟨.inr rfl, _, (.cons (by first | exact .v (by ((repeat apply Look.there rfl); exact Look.here)) (.f (.v _)) | exact .v (by ((repeat apply Look.there rfl); exact Look.here)) (.row rfl rfl) | exact .v (by ((repeat apply Look.there rfl); exact Look.here)) (.f .nil) | exact .a (by ((repeat apply Look.there rfl); exact Look.here)) | skip) .nil), oneB (by simp only [decide_eq_true_eq, decide_eq_false_iff_not] at *; unfold onS onP; first | exact (decide_eq_true (by omega)).symm | exact (decide_eq_false (by omega)).symm | (apply decide_eq_decide.2; omega))⟩ -- LEAF 1: ret
      ·
        refine no ?_
        refine no ?_
        refine no ?_
        refine pkF ?_
        refine as_ ?_
        refine rNil ?_
        refine awp_ret ?_
        exact ⟨.inr rfl, _, (.cons (by first | exact .v (by ((repeat apply Look.there rfl); exact Look.here)) (.f (.v _)) | exact .v (by ((repeat apply Look.there rfl); exact Look.here)) (.row rfl rfl) | exact .v (by ((repeat apply Look.there rfl); exact Look.here)) (.f .nil) | exact .a (by ((repeat apply Look.there rfl); exact Look.here)) | skip) .nil), oneB (by simp only [decide_eq_true_eq, decide_eq_false_iff_not] at *; unfold onS onP; first | exact (decide_eq_true (by omega)).symm | exact (decide_eq_false (by omega)).symm | (apply decide_eq_decide.2; omega))⟩ -- LEAF 2: ret
    ·
      refine no ?_
      refine no ?_
      refine no ?_
      refine pkF ?_
      refine mv ?_
      refine no ?_
      refine no ?_
      refine no ?_
      refine pkF ?_
      refine as_ ?_
      refine rNil ?_
      refine awp_ret ?_
      exact ⟨.inr rfl, _, (.cons (by first | exact .v (by ((repeat apply Look.there rfl); exact Look.here)) (.f (.v _)) | exact .v (by ((repeat apply Look.there rfl); exact Look.here)) (.row rfl rfl) | exact .v (by ((repeat apply Look.there rfl); exact Look.here)) (.f .nil) | exact .a (by ((repeat apply Look.there rfl); exact Look.here)) | skip) .nil), oneB (by simp only [decide_eq_true_eq, decide_eq_false_iff_not] at *; unfold onS onP; first | exact (decide_eq_true (by omega)).symm | exact (decide_eq_false (by omega)).symm | (apply decide_eq_decide.2; omega))⟩ -- LEAF 3: ret
  ·
    refine no ?_
    refine no ?_
    refine no ?_
    refine pkF ?_
    refine mv ?_
    refine no ?_
    refine no ?_
    refine no ?_
    refine pkF ?_
    refine mv ?_
    refine no ?_
    refine no ?_
    refine no ?_
    refine pkF ?_
    refine as_ ?_
    refine rNil ?_
    refine awp_ret ?_
    exact ⟨.inr rfl, _, (.cons (by first | exact .v (by ((repeat apply Look.there rfl); exact Look.here)) (.f (.v _)) | exact .v (by ((repeat apply Look.there rfl); exact Look.here)) (.row rfl rfl) | exact .v (by ((repeat apply Look.there rfl); exact Look.here)) (.f .nil) | exact .a (by ((repeat apply Look.there rfl); exact Look.here)) | skip) .nil), oneB (by simp only [decide_eq_true_eq, decide_eq_false_iff_not] at *; unfold onS onP; first | exact (decide_eq_true (by omega)).symm | exact (decide_eq_false (by omega)).symm | (apply decide_eq_decide.2; omega))⟩ -- LEAF 4: ret

/-- frustum/frustumref35.side -/
theorem c67 (a b : V) (px py : Int) (ha : onP a) (hv : onP b) (hx : 0 ≤ px ∧ px ≤ 16384) (hy : 0 ≤ py ∧ py ≤ 16384) : Fn Try.prog 67 [A a, A b, I px, I py] (.one (I (crs a.x a.y b.x b.y px py))) := by
  refine fnI Try.func67 Try.ntmps67 fun hb => ?_
  unfold onP at ha hv
  have p1 := prod_bd (dif_bd (x := b.x) (y := a.x) (by omega) (by omega)) (dif_bd (x := py) (y := a.y) (by omega) (by omega))
  have p2 := prod_bd (dif_bd (x := b.y) (y := a.y) (by omega) (by omega)) (dif_bd (x := px) (y := a.x) (by omega) (by omega))
  refine sg ?_
  refine bx _ ?_
  refine bx _ ?_
  refine as_ ?_
  refine rNil ?_
  refine sg ?_
  first | refine ff ?_ | refine fb ?_ | refine fo ?_
  first | refine l1f ?_ | refine l1b ?_ | refine l1o ?_
  first | refine ff ?_ | refine fb ?_ | refine fo ?_
  first | refine l1f ?_ | refine l1b ?_ | refine l1o ?_
  refine bo ?_
  refine mv ?_
  first | refine ff ?_ | refine fb ?_ | refine fo ?_
  first | refine l1f ?_ | refine l1b ?_ | refine l1o ?_
  refine bo ?_
  refine bo ?_
  first | refine ff ?_ | refine fb ?_ | refine fo ?_
  first | refine l1f ?_ | refine l1b ?_ | refine l1o ?_
  first | refine ff ?_ | refine fb ?_ | refine fo ?_
  first | refine l1f ?_ | refine l1b ?_ | refine l1o ?_
  refine bo ?_
  refine mv ?_
  first | refine ff ?_ | refine fb ?_ | refine fo ?_
  first | refine l1f ?_ | refine l1b ?_ | refine l1o ?_
  refine bo ?_
  refine bo ?_
  refine bo ?_
  refine as_ ?_
  refine rNil ?_
  refine awp_ret ?_
  exact ⟨.inr rfl, _, (.cons (by first | exact .v (by ((repeat apply Look.there rfl); exact Look.here)) (.f (.v _)) | exact .v (by ((repeat apply Look.there rfl); exact Look.here)) (.row rfl rfl) | exact .v (by ((repeat apply Look.there rfl); exact Look.here)) (.f .nil) | exact .a (by ((repeat apply Look.there rfl); exact Look.here)) | skip) .nil), rfl⟩ -- LEAF 1: ret

theorem fn_id {a b : V} {px py : Int} (ha : onP a) (hv : onP b) (hx : 0 ≤ px ∧ px ≤ 16384) (hy : 0 ≤ py ∧ py ≤ 16384) : fn' a.x a.y b.x b.y px py = crs a.x a.y b.x b.y px py := by
  unfold onP at ha hv
  rw [fn', lim_id (by omega), lim_id (by omega), lim_id (by omega), lim_id (by omega), lim_id hx, lim_id hy]
theorem tl_id {a b : V} (ha : onP a) (hv : onP b) : tl a.x a.y b.x b.y = (decide (b.y < a.y) || (a.y == b.y && decide (b.x > a.x))) := by
  unfold onP at ha hv
  rw [tl, lim_id (by omega), lim_id (by omega), lim_id (by omega), lim_id (by omega)]
  congr 1
  · exact decide_eq_decide.2 (by omega)
  · congr 1
    · rw [Bool.eq_iff_iff]; simp; omega
    · exact decide_eq_decide.2 (by omega)
theorem acc_id {a b : V} {px py : Int} (ha : onP a) (hv : onP b) (hx : 0 ≤ px ∧ px ≤ 16384) (hy : 0 ≤ py ∧ py ≤ 16384) : acc a.x a.y b.x b.y px py = (decide (crs a.x a.y b.x b.y px py > 0) || (crs a.x a.y b.x b.y px py == 0 && (decide (b.y < a.y) || (a.y == b.y && decide (b.x > a.x))))) := by
  rw [acc, fn_id ha hv hx hy, tl_id ha hv]
/-- frustum/frustumref35.accepts -/
theorem c85 (a b : V) (px py : Int) (ha : onP a) (hv : onP b) (hx : 0 ≤ px ∧ px ≤ 16384) (hy : 0 ≤ py ∧ py ≤ 16384) : Fn Try.prog 85 [A a, A b, I px, I py] (.one (B (acc a.x a.y b.x b.y px py))) := by
  refine fnI Try.func85 Try.ntmps85 fun hb => ?_
  refine sg ?_
  refine bx _ ?_
  refine bx _ ?_
  refine as_ ?_
  refine rNil ?_
  refine sg ?_
  first | refine lAf ?_ | refine lAb ?_ | refine lAo ?_
  first | refine lAf ?_ | refine lAb ?_ | refine lAo ?_
  refine mv ?_
  refine mv ?_
  refine cl (c67 a b px py ha hv hx hy) ?_
  refine as_ ?_
  refine rNil ?_
  refine sg ?_
  first | refine ff ?_ | refine fb ?_ | refine fo ?_
  first | refine l1f ?_ | refine l1b ?_ | refine l1o ?_
  first | refine ff ?_ | refine fb ?_ | refine fo ?_
  first | refine l1f ?_ | refine l1b ?_ | refine l1o ?_
  refine bo ?_
  refine mv ?_
  refine gd (fun h1 => ?_) (fun h1 => ?_)
  ·
    first | refine ff ?_ | refine fb ?_ | refine fo ?_
    first | refine l1f ?_ | refine l1b ?_ | refine l1o ?_
    first | refine ff ?_ | refine fb ?_ | refine fo ?_
    first | refine l1f ?_ | refine l1b ?_ | refine l1o ?_
    refine bo ?_
    refine pkT ?_
    refine mv ?_
    refine gd (fun h2 => ?_) (fun h2 => ?_)
    ·
      refine no ?_
      refine no ?_
      refine no ?_
      refine no ?_
      refine no ?_
      refine pkT ?_
      refine as_ ?_
      refine rNil ?_
      refine sg ?_
      refine mv ?_
      refine bo ?_
      refine mv ?_
      refine gd (fun h3 => ?_) (fun h3 => ?_)
      ·
        refine no ?_
        refine no ?_
        refine no ?_
        refine noU ?_
        refine no ?_
        refine pkT ?_
        refine as_ ?_
        refine rNil ?_
        refine awp_ret ?_
        exact ⟨.inr rfl, _, (.cons (by first | exact .v (by ((repeat apply Look.there rfl); exact Look.here)) (.f (.v _)) | exact .v (by ((repeat apply Look.there rfl); exact Look.here)) (.row rfl rfl) | exact .v (by ((repeat apply Look.there rfl); exact Look.here)) (.f .nil) | exact .a (by ((repeat apply Look.there rfl); exact Look.here)) | skip) .nil), oneB (by rw [acc_id ha hv hx hy]; simp_all)⟩ -- LEAF 1: ret
      ·
        refine mv ?_
        refine bo ?_
        refine mv ?_
        refine gd (fun h4 => ?_) (fun h4 => ?_)
        ·
          refine mv ?_
          refine pkT ?_
          refine pkF ?_
          refine as_ ?_
          refine rNil ?_
          refine awp_ret ?_
          exact ⟨.inr rfl, _, (.cons (by first | exact .v (by ((repeat apply Look.there rfl); exact Look.here)) (.f (.v _)) | exact .v (by ((repeat apply Look.there rfl); exact Look.here)) (.row rfl rfl) | exact .v (by ((repeat apply Look.there rfl); exact Look.here)) (.f .nil) | exact .a (by ((repeat apply Look.there rfl); exact Look.here)) | skip) .nil), oneB (by rw [acc_id ha hv hx hy]; simp_all)⟩ -- LEAF 2: ret
        ·
          refine no ?_
          refine pkF ?_
          refine pkF ?_
          refine as_ ?_
          refine rNil ?_
          refine awp_ret ?_
          exact ⟨.inr rfl, _, (.cons (by first | exact .v (by ((repeat apply Look.there rfl); exact Look.here)) (.f (.v _)) | exact .v (by ((repeat apply Look.there rfl); exact Look.here)) (.row rfl rfl) | exact .v (by ((repeat apply Look.there rfl); exact Look.here)) (.f .nil) | exact .a (by ((repeat apply Look.there rfl); exact Look.here)) | skip) .nil), oneB (by rw [acc_id ha hv hx hy]; simp_all)⟩ -- LEAF 3: ret
    ·
      first | refine ff ?_ | refine fb ?_ | refine fo ?_
      first | refine l1f ?_ | refine l1b ?_ | refine l1o ?_
      first | refine ff ?_ | refine fb ?_ | refine fo ?_
      first | refine l1f ?_ | refine l1b ?_ | refine l1o ?_
      refine bo ?_
      refine pkF ?_
      refine as_ ?_
      refine rNil ?_
      refine sg ?_
      refine mv ?_
      refine bo ?_
      refine mv ?_
      refine gd (fun h5 => ?_) (fun h5 => ?_)
      ·
        refine no ?_
        refine no ?_
        refine no ?_
        refine noU ?_
        refine no ?_
        refine pkT ?_
        refine as_ ?_
        refine rNil ?_
        refine awp_ret ?_
        exact ⟨.inr rfl, _, (.cons (by first | exact .v (by ((repeat apply Look.there rfl); exact Look.here)) (.f (.v _)) | exact .v (by ((repeat apply Look.there rfl); exact Look.here)) (.row rfl rfl) | exact .v (by ((repeat apply Look.there rfl); exact Look.here)) (.f .nil) | exact .a (by ((repeat apply Look.there rfl); exact Look.here)) | skip) .nil), oneB (by rw [acc_id ha hv hx hy]; simp_all)⟩ -- LEAF 4: ret
      ·
        refine mv ?_
        refine bo ?_
        refine mv ?_
        refine gd (fun h6 => ?_) (fun h6 => ?_)
        ·
          refine mv ?_
          refine pkT ?_
          refine pkF ?_
          refine as_ ?_
          refine rNil ?_
          refine awp_ret ?_
          exact ⟨.inr rfl, _, (.cons (by first | exact .v (by ((repeat apply Look.there rfl); exact Look.here)) (.f (.v _)) | exact .v (by ((repeat apply Look.there rfl); exact Look.here)) (.row rfl rfl) | exact .v (by ((repeat apply Look.there rfl); exact Look.here)) (.f .nil) | exact .a (by ((repeat apply Look.there rfl); exact Look.here)) | skip) .nil), oneB (by rw [acc_id ha hv hx hy]; simp_all)⟩ -- LEAF 5: ret
        ·
          refine no ?_
          refine pkF ?_
          refine pkF ?_
          refine as_ ?_
          refine rNil ?_
          refine awp_ret ?_
          exact ⟨.inr rfl, _, (.cons (by first | exact .v (by ((repeat apply Look.there rfl); exact Look.here)) (.f (.v _)) | exact .v (by ((repeat apply Look.there rfl); exact Look.here)) (.row rfl rfl) | exact .v (by ((repeat apply Look.there rfl); exact Look.here)) (.f .nil) | exact .a (by ((repeat apply Look.there rfl); exact Look.here)) | skip) .nil), oneB (by rw [acc_id ha hv hx hy]; simp_all)⟩ -- LEAF 6: ret
  ·
    refine no ?_
    refine no ?_
    refine no ?_
    refine no ?_
    refine no ?_
    refine pkF ?_
    refine mv ?_
    first | refine ff ?_ | refine fb ?_ | refine fo ?_
    first | refine l1f ?_ | refine l1b ?_ | refine l1o ?_
    first | refine ff ?_ | refine fb ?_ | refine fo ?_
    first | refine l1f ?_ | refine l1b ?_ | refine l1o ?_
    refine bo ?_
    refine pkF ?_
    refine as_ ?_
    refine rNil ?_
    refine sg ?_
    refine mv ?_
    refine bo ?_
    refine mv ?_
    refine gd (fun h7 => ?_) (fun h7 => ?_)
    ·
      refine no ?_
      refine no ?_
      refine no ?_
      refine noU ?_
      refine no ?_
      refine pkT ?_
      refine as_ ?_
      refine rNil ?_
      refine awp_ret ?_
      exact ⟨.inr rfl, _, (.cons (by first | exact .v (by ((repeat apply Look.there rfl); exact Look.here)) (.f (.v _)) | exact .v (by ((repeat apply Look.there rfl); exact Look.here)) (.row rfl rfl) | exact .v (by ((repeat apply Look.there rfl); exact Look.here)) (.f .nil) | exact .a (by ((repeat apply Look.there rfl); exact Look.here)) | skip) .nil), oneB (by rw [acc_id ha hv hx hy]; simp_all)⟩ -- LEAF 7: ret
    ·
      refine mv ?_
      refine bo ?_
      refine mv ?_
      refine gd (fun h8 => ?_) (fun h8 => ?_)
      ·
        refine mv ?_
        refine pkT ?_
        refine pkF ?_
        refine as_ ?_
        refine rNil ?_
        refine awp_ret ?_
        exact ⟨.inr rfl, _, (.cons (by first | exact .v (by ((repeat apply Look.there rfl); exact Look.here)) (.f (.v _)) | exact .v (by ((repeat apply Look.there rfl); exact Look.here)) (.row rfl rfl) | exact .v (by ((repeat apply Look.there rfl); exact Look.here)) (.f .nil) | exact .a (by ((repeat apply Look.there rfl); exact Look.here)) | skip) .nil), oneB (by rw [acc_id ha hv hx hy]; simp_all)⟩ -- LEAF 8: ret
      ·
        refine no ?_
        refine pkF ?_
        refine pkF ?_
        refine as_ ?_
        refine rNil ?_
        refine awp_ret ?_
        exact ⟨.inr rfl, _, (.cons (by first | exact .v (by ((repeat apply Look.there rfl); exact Look.here)) (.f (.v _)) | exact .v (by ((repeat apply Look.there rfl); exact Look.here)) (.row rfl rfl) | exact .v (by ((repeat apply Look.there rfl); exact Look.here)) (.f .nil) | exact .a (by ((repeat apply Look.there rfl); exact Look.here)) | skip) .nil), oneB (by rw [acc_id ha hv hx hy]; simp_all)⟩ -- LEAF 9: ret

end Go.Proofs.Ytlaaigljlhkdpaa.VS
