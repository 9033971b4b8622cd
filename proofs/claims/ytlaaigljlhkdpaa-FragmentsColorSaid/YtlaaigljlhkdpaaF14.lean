/- The walks of functions: what each computes, by itself. Conditions: none. -/
import Derived.Test.YtlaaigljlhkdpaaF11
import Derived.Test.YtlaaigljlhkdpaaV18
set_option linter.unusedVariables false
set_option linter.unusedSimpArgs false
namespace Go.Proofs.Ytlaaigljlhkdpaa.VS
open Go
structure Q4 where
  x : Int
  y : Int
  z : Int
  w : Int
instance : Enc Q4 := ⟨fun v => [.i .i64 v.x, .i .i64 v.y, .i .i64 v.z, .i .i64 v.w]⟩
def withF (v : Q4) (i x : Int) : Q4 := if i = 0 then ⟨x, v.y, v.z, v.w⟩ else if i = 1 then ⟨v.x, x, v.z, v.w⟩ else if i = 2 then ⟨v.x, v.y, x, v.w⟩ else if i = 3 then ⟨v.x, v.y, v.z, x⟩ else v
def qof (l : List Int) : Q4 := ⟨l[0]?.getD 0, l[1]?.getD 0, l[2]?.getD 0, l[3]?.getD 0⟩
theorem qof_snoc {l : List Int} {k : Nat} {x : Int} (h : l[k]? = some x) : withF (qof (l.take k)) k x = qof (l.take (k + 1)) := by
  unfold withF qof
  simp only [List.getElem?_take]
  rcases (show k = 0 ∨ k = 1 ∨ k = 2 ∨ k = 3 ∨ 4 ≤ k by omega) with e | e | e | e | e
  · subst e; simp [h]
  · subst e; simp [h]
  · subst e; simp [h]
  · subst e; simp [h]
  · rw [if_neg (by omega), if_neg (by omega), if_neg (by omega), if_neg (by omega)]
    simp only [if_pos (show 0 < k by omega), if_pos (show 1 < k by omega), if_pos (show 2 < k by omega), if_pos (show 3 < k by omega), if_pos (show 0 < k + 1 by omega), if_pos (show 1 < k + 1 by omega), if_pos (show 2 < k + 1 by omega), if_pos (show 3 < k + 1 by omega)]
theorem qof_big {l : List Int} {k : Nat} (h : 4 ≤ k) : qof (l.take k) = qof l := by
  unfold qof
  simp only [List.getElem?_take, if_pos (show 0 < k by omega), if_pos (show 1 < k by omega), if_pos (show 2 < k by omega), if_pos (show 3 < k by omega)]
def satQ (v : Q4) : Q4 := ⟨sat v.x, sat v.y, sat v.z, sat v.w⟩
theorem sat_sat (x : Int) : sat (sat x) = sat x := by
  have h := sat_bd x
  generalize sat x = y at *
  unfold sat clamp mx mn; repeat (first | omega | split)
theorem fadd0 (x : Int) : fadd x 0 = sat x := by
  unfold fadd
  rw [show sat 0 = 0 by decide, Int.add_zero, sat_sat]
/-- frustum/vec.With -/
theorem c53 (v : Q4) (i x : Int) : Fn Try.prog 53 [A v, I i, I x] (.one (A (withF v i x))) := by
  refine fnI Try.func53 Try.ntmps53 fun hb => ?_
  refine sg ?_
  refine bx _ ?_
  refine al _ ?_
  refine rNil ?_
  refine sq ?_
  refine sg ?_
  refine mv ?_
  refine rNil ?_
  refine bk ?_
  refine sg ?_
  refine bo ?_
  refine as_ ?_
  refine rNil ?_
  refine cn (fun h1 => ?_) (fun h1 => ?_)
  ·
    refine rg ?_
    refine mv ?_
    first | refine ff ?_ | refine fb ?_ | refine fo ?_
    first | refine s1 ?_ | refine s1w ?_
    refine rNil ?_
    refine bn_ ?_
    refine tn ?_
    refine sg ?_
    first | refine lAf ?_ | refine lAb ?_ | refine lAo ?_
    refine sA ?_
    refine rNil ?_
    refine awp_ret ?_
    exact ⟨.inr rfl, _, (.cons (resC (by ((repeat apply Look.there rfl); exact Look.here)) (by exact rfl) (by exact rfl) (by ((repeat (apply All2.cons; first | exact .f (.v _) | exact .row rfl (by first | exact rfl | simp) | exact .f .nil | exact .f (.fro rfl (by first | exact rfl | simp)))); exact All2.nil))) .nil), by first | (rw [withF, if_pos (by simpa using h1)]; rfl) | (rw [withF, if_neg (by simpa using h1), if_pos (by simpa using h2)]; rfl) | (rw [withF, if_neg (by simpa using h1), if_neg (by simpa using h2), if_pos (by simpa using h3)]; rfl) | (rw [withF, if_neg (by simpa using h1), if_neg (by simpa using h2), if_neg (by simpa using h3), if_pos (by simpa using h4)]; rfl) | (rw [withF, if_neg (by simpa using h1), if_neg (by simpa using h2), if_neg (by simpa using h3), if_neg (by simpa using h4)]; rfl)⟩ -- LEAF 1: ret
  ·
    refine sg ?_
    refine bo ?_
    refine as_ ?_
    refine rNil ?_
    refine cn (fun h2 => ?_) (fun h2 => ?_)
    ·
      refine rg ?_
      refine mv ?_
      first | refine ff ?_ | refine fb ?_ | refine fo ?_
      first | refine s1 ?_ | refine s1w ?_
      refine rNil ?_
      refine bn_ ?_
      refine tn ?_
      refine sg ?_
      first | refine lAf ?_ | refine lAb ?_ | refine lAo ?_
      refine sA ?_
      refine rNil ?_
      refine awp_ret ?_
      exact ⟨.inr rfl, _, (.cons (resC (by ((repeat apply Look.there rfl); exact Look.here)) (by exact rfl) (by exact rfl) (by ((repeat (apply All2.cons; first | exact .f (.v _) | exact .row rfl (by first | exact rfl | simp) | exact .f .nil | exact .f (.fro rfl (by first | exact rfl | simp)))); exact All2.nil))) .nil), by first | (rw [withF, if_pos (by simpa using h1)]; rfl) | (rw [withF, if_neg (by simpa using h1), if_pos (by simpa using h2)]; rfl) | (rw [withF, if_neg (by simpa using h1), if_neg (by simpa using h2), if_pos (by simpa using h3)]; rfl) | (rw [withF, if_neg (by simpa using h1), if_neg (by simpa using h2), if_neg (by simpa using h3), if_pos (by simpa using h4)]; rfl) | (rw [withF, if_neg (by simpa using h1), if_neg (by simpa using h2), if_neg (by simpa using h3), if_neg (by simpa using h4)]; rfl)⟩ -- LEAF 2: ret
    ·
      refine sg ?_
      refine bo ?_
      refine as_ ?_
      refine rNil ?_
      refine cn (fun h3 => ?_) (fun h3 => ?_)
      ·
        refine rg ?_
        refine mv ?_
        first | refine ff ?_ | refine fb ?_ | refine fo ?_
        first | refine s1 ?_ | refine s1w ?_
        refine rNil ?_
        refine bn_ ?_
        refine tn ?_
        refine sg ?_
        first | refine lAf ?_ | refine lAb ?_ | refine lAo ?_
        refine sA ?_
        refine rNil ?_
        refine awp_ret ?_
        exact ⟨.inr rfl, _, (.cons (resC (by ((repeat apply Look.there rfl); exact Look.here)) (by exact rfl) (by exact rfl) (by ((repeat (apply All2.cons; first | exact .f (.v _) | exact .row rfl (by first | exact rfl | simp) | exact .f .nil | exact .f (.fro rfl (by first | exact rfl | simp)))); exact All2.nil))) .nil), by first | (rw [withF, if_pos (by simpa using h1)]; rfl) | (rw [withF, if_neg (by simpa using h1), if_pos (by simpa using h2)]; rfl) | (rw [withF, if_neg (by simpa using h1), if_neg (by simpa using h2), if_pos (by simpa using h3)]; rfl) | (rw [withF, if_neg (by simpa using h1), if_neg (by simpa using h2), if_neg (by simpa using h3), if_pos (by simpa using h4)]; rfl) | (rw [withF, if_neg (by simpa using h1), if_neg (by simpa using h2), if_neg (by simpa using h3), if_neg (by simpa using h4)]; rfl)⟩ -- LEAF 3: ret
      ·
        refine sg ?_
        refine bo ?_
        refine as_ ?_
        refine rNil ?_
        refine cn (fun h4 => ?_) (fun h4 => ?_)
        ·
          refine rg ?_
          refine mv ?_
          first | refine ff ?_ | refine fb ?_ | refine fo ?_
          first | refine s1 ?_ | refine s1w ?_
          refine rNil ?_
          refine bn_ ?_
          refine tn ?_
          refine sg ?_
          first | refine lAf ?_ | refine lAb ?_ | refine lAo ?_
          refine sA ?_
          refine rNil ?_
          refine awp_ret ?_
          exact ⟨.inr rfl, _, (.cons (resC (by ((repeat apply Look.there rfl); exact Look.here)) (by exact rfl) (by exact rfl) (by ((repeat (apply All2.cons; first | exact .f (.v _) | exact .row rfl (by first | exact rfl | simp) | exact .f .nil | exact .f (.fro rfl (by first | exact rfl | simp)))); exact All2.nil))) .nil), by first | (rw [withF, if_pos (by simpa using h1)]; rfl) | (rw [withF, if_neg (by simpa using h1), if_pos (by simpa using h2)]; rfl) | (rw [withF, if_neg (by simpa using h1), if_neg (by simpa using h2), if_pos (by simpa using h3)]; rfl) | (rw [withF, if_neg (by simpa using h1), if_neg (by simpa using h2), if_neg (by simpa using h3), if_pos (by simpa using h4)]; rfl) | (rw [withF, if_neg (by simpa using h1), if_neg (by simpa using h2), if_neg (by simpa using h3), if_neg (by simpa using h4)]; rfl)⟩ -- LEAF 4: ret
        ·
          refine awp_skip ?_
          refine bn_ ?_
          refine tn ?_
          refine sg ?_
          first | refine lAf ?_ | refine lAb ?_ | refine lAo ?_
          refine sA ?_
          refine rNil ?_
          refine awp_ret ?_
          exact ⟨.inr rfl, _, (.cons (resC (by ((repeat apply Look.there rfl); exact Look.here)) (by exact rfl) (by exact rfl) (by ((repeat (apply All2.cons; first | exact .f (.v _) | exact .row rfl (by first | exact rfl | simp) | exact .f .nil | exact .f (.fro rfl (by first | exact rfl | simp)))); exact All2.nil))) .nil), by first | (rw [withF, if_pos (by simpa using h1)]; rfl) | (rw [withF, if_neg (by simpa using h1), if_pos (by simpa using h2)]; rfl) | (rw [withF, if_neg (by simpa using h1), if_neg (by simpa using h2), if_pos (by simpa using h3)]; rfl) | (rw [withF, if_neg (by simpa using h1), if_neg (by simpa using h2), if_neg (by simpa using h3), if_pos (by simpa using h4)]; rfl) | (rw [withF, if_neg (by simpa using h1), if_neg (by simpa using h2), if_neg (by simpa using h3), if_neg (by simpa using h4)]; rfl)⟩ -- LEAF 5: ret

/-- frustum/frustumref03.With -/
theorem c55 (v : Q4) (i x : Int) : Fn Try.prog 55 [A v, I i, I x] (.one (A (withF v i x))) := by
  refine fnI Try.func55 Try.ntmps55 fun hb => ?_
  refine sg ?_
  refine bx _ ?_
  refine al _ ?_
  refine rNil ?_
  refine sq ?_
  refine sg ?_
  refine mv ?_
  refine rNil ?_
  refine bk ?_
  refine sg ?_
  refine bo ?_
  refine as_ ?_
  refine rNil ?_
  refine cn (fun h1 => ?_) (fun h1 => ?_)
  ·
    refine rg ?_
    refine mv ?_
    first | refine ff ?_ | refine fb ?_ | refine fo ?_
    first | refine s1 ?_ | refine s1w ?_
    refine rNil ?_
    refine bn_ ?_
    refine tn ?_
    refine sg ?_
    first | refine lAf ?_ | refine lAb ?_ | refine lAo ?_
    refine sA ?_
    refine rNil ?_
    refine awp_ret ?_
    exact ⟨.inr rfl, _, (.cons (resC (by ((repeat apply Look.there rfl); exact Look.here)) (by exact rfl) (by exact rfl) (by ((repeat (apply All2.cons; first | exact .f (.v _) | exact .row rfl (by first | exact rfl | simp) | exact .f .nil | exact .f (.fro rfl (by first | exact rfl | simp)))); exact All2.nil))) .nil), by first | (rw [withF, if_pos (by simpa using h1)]; rfl) | (rw [withF, if_neg (by simpa using h1), if_pos (by simpa using h2)]; rfl) | (rw [withF, if_neg (by simpa using h1), if_neg (by simpa using h2), if_pos (by simpa using h3)]; rfl) | (rw [withF, if_neg (by simpa using h1), if_neg (by simpa using h2), if_neg (by simpa using h3), if_pos (by simpa using h4)]; rfl) | (rw [withF, if_neg (by simpa using h1), if_neg (by simpa using h2), if_neg (by simpa using h3), if_neg (by simpa using h4)]; rfl)⟩ -- LEAF 1: ret
  ·
    refine sg ?_
    refine bo ?_
    refine as_ ?_
    refine rNil ?_
    refine cn (fun h2 => ?_) (fun h2 => ?_)
    ·
      refine rg ?_
      refine mv ?_
      first | refine ff ?_ | refine fb ?_ | refine fo ?_
      first | refine s1 ?_ | refine s1w ?_
      refine rNil ?_
      refine bn_ ?_
      refine tn ?_
      refine sg ?_
      first | refine lAf ?_ | refine lAb ?_ | refine lAo ?_
      refine sA ?_
      refine rNil ?_
      refine awp_ret ?_
      exact ⟨.inr rfl, _, (.cons (resC (by ((repeat apply Look.there rfl); exact Look.here)) (by exact rfl) (by exact rfl) (by ((repeat (apply All2.cons; first | exact .f (.v _) | exact .row rfl (by first | exact rfl | simp) | exact .f .nil | exact .f (.fro rfl (by first | exact rfl | simp)))); exact All2.nil))) .nil), by first | (rw [withF, if_pos (by simpa using h1)]; rfl) | (rw [withF, if_neg (by simpa using h1), if_pos (by simpa using h2)]; rfl) | (rw [withF, if_neg (by simpa using h1), if_neg (by simpa using h2), if_pos (by simpa using h3)]; rfl) | (rw [withF, if_neg (by simpa using h1), if_neg (by simpa using h2), if_neg (by simpa using h3), if_pos (by simpa using h4)]; rfl) | (rw [withF, if_neg (by simpa using h1), if_neg (by simpa using h2), if_neg (by simpa using h3), if_neg (by simpa using h4)]; rfl)⟩ -- LEAF 2: ret
    ·
      refine sg ?_
      refine bo ?_
      refine as_ ?_
      refine rNil ?_
      refine cn (fun h3 => ?_) (fun h3 => ?_)
      ·
        refine rg ?_
        refine mv ?_
        first | refine ff ?_ | refine fb ?_ | refine fo ?_
        first | refine s1 ?_ | refine s1w ?_
        refine rNil ?_
        refine bn_ ?_
        refine tn ?_
        refine sg ?_
        first | refine lAf ?_ | refine lAb ?_ | refine lAo ?_
        refine sA ?_
        refine rNil ?_
        refine awp_ret ?_
        exact ⟨.inr rfl, _, (.cons (resC (by ((repeat apply Look.there rfl); exact Look.here)) (by exact rfl) (by exact rfl) (by ((repeat (apply All2.cons; first | exact .f (.v _) | exact .row rfl (by first | exact rfl | simp) | exact .f .nil | exact .f (.fro rfl (by first | exact rfl | simp)))); exact All2.nil))) .nil), by first | (rw [withF, if_pos (by simpa using h1)]; rfl) | (rw [withF, if_neg (by simpa using h1), if_pos (by simpa using h2)]; rfl) | (rw [withF, if_neg (by simpa using h1), if_neg (by simpa using h2), if_pos (by simpa using h3)]; rfl) | (rw [withF, if_neg (by simpa using h1), if_neg (by simpa using h2), if_neg (by simpa using h3), if_pos (by simpa using h4)]; rfl) | (rw [withF, if_neg (by simpa using h1), if_neg (by simpa using h2), if_neg (by simpa using h3), if_neg (by simpa using h4)]; rfl)⟩ -- LEAF 3: ret
      ·
        refine sg ?_
        refine bo ?_
        refine as_ ?_
        refine rNil ?_
        refine cn (fun h4 => ?_) (fun h4 => ?_)
        ·
          refine rg ?_
          refine mv ?_
          first | refine ff ?_ | refine fb ?_ | refine fo ?_
          first | refine s1 ?_ | refine s1w ?_
          refine rNil ?_
          refine bn_ ?_
          refine tn ?_
          refine sg ?_
          first | refine lAf ?_ | refine lAb ?_ | refine lAo ?_
          refine sA ?_
          refine rNil ?_
          refine awp_ret ?_
          exact ⟨.inr rfl, _, (.cons (resC (by ((repeat apply Look.there rfl); exact Look.here)) (by exact rfl) (by exact rfl) (by ((repeat (apply All2.cons; first | exact .f (.v _) | exact .row rfl (by first | exact rfl | simp) | exact .f .nil | exact .f (.fro rfl (by first | exact rfl | simp)))); exact All2.nil))) .nil), by first | (rw [withF, if_pos (by simpa using h1)]; rfl) | (rw [withF, if_neg (by simpa using h1), if_pos (by simpa using h2)]; rfl) | (rw [withF, if_neg (by simpa using h1), if_neg (by simpa using h2), if_pos (by simpa using h3)]; rfl) | (rw [withF, if_neg (by simpa using h1), if_neg (by simpa using h2), if_neg (by simpa using h3), if_pos (by simpa using h4)]; rfl) | (rw [withF, if_neg (by simpa using h1), if_neg (by simpa using h2), if_neg (by simpa using h3), if_neg (by simpa using h4)]; rfl)⟩ -- LEAF 4: ret
        ·
          refine awp_skip ?_
          refine bn_ ?_
          refine tn ?_
          refine sg ?_
          first | refine lAf ?_ | refine lAb ?_ | refine lAo ?_
          refine sA ?_
          refine rNil ?_
          refine awp_ret ?_
          exact ⟨.inr rfl, _, (.cons (resC (by ((repeat apply Look.there rfl); exact Look.here)) (by exact rfl) (by exact rfl) (by ((repeat (apply All2.cons; first | exact .f (.v _) | exact .row rfl (by first | exact rfl | simp) | exact .f .nil | exact .f (.fro rfl (by first | exact rfl | simp)))); exact All2.nil))) .nil), by first | (rw [withF, if_pos (by simpa using h1)]; rfl) | (rw [withF, if_neg (by simpa using h1), if_pos (by simpa using h2)]; rfl) | (rw [withF, if_neg (by simpa using h1), if_neg (by simpa using h2), if_pos (by simpa using h3)]; rfl) | (rw [withF, if_neg (by simpa using h1), if_neg (by simpa using h2), if_neg (by simpa using h3), if_pos (by simpa using h4)]; rfl) | (rw [withF, if_neg (by simpa using h1), if_neg (by simpa using h2), if_neg (by simpa using h3), if_neg (by simpa using h4)]; rfl)⟩ -- LEAF 5: ret

/-- frustum/vec.Of -/
theorem c28 (l : List Int) : Fn Try.prog 28 [L l] (.one (A (qof l))) := by
  refine fnI Try.func28 Try.ntmps28 fun hb => ?_
  have hla := bd_L (f := Enc.c) (l := l) hb (by simp)
  refine sg ?_
  refine al _ ?_
  refine rNil ?_
  refine sg ?_
  refine al _ ?_
  refine rNil ?_
  refine sq ?_
  refine sg ?_
  refine mv ?_
  first | refine lnM ?_ | refine ln ?_ | refine lnO ?_ | refine lnN ?_ | refine lnW ?_
  refine mv ?_
  refine rNil ?_
  refine bk ?_
  refine lp (fun n S => ∃ k : Nat, n = l.length - k ∧ k ≤ l.length ∧ S = ⟨[(8, .r (I k)), (7, .r (I l.length)), (6, .r (L l)), (3, .box 1 0), (2, .box 0 0)], [.box 43 [.r (I 0), .r (I 0), .r (I 0), .r (I 0)], .box 43 [.r (I (qof (l.take k)).x), .r (I (qof (l.take k)).y), .r (I (qof (l.take k)).z), .r (I (qof (l.take k)).w)]]⟩) l.length ?_ ?_
  · exact wx 2 ⟨0, by omega, by omega, rfl⟩
  rintro n S ⟨k, hn, hk, rfl⟩
  refine sg ?_
  refine bo ?_
  refine rNil ?_
  refine sq ?_
  refine cn (fun h1 => ?_) (fun h1 => ?_)
  ·
    have hk1 : k < l.length := by simpa using h1
    obtain ⟨x, hx⟩ := ex_get hk1
    have hq := qof_snoc hx
    refine awp_skip ?_
    refine tn ?_
    refine sq ?_
    refine bk ?_
    refine sg ?_
    refine mv ?_
    first | refine xs_ ?_ | refine xo ?_ | refine xw ?_
    first | refine l1f ?_ | refine l1b ?_ | refine l1o ?_
    refine as_ ?_
    refine as_ ?_
    refine rNil ?_
    refine rg ?_
    first | refine lAf ?_ | refine lAb ?_ | refine lAo ?_
    refine mv ?_
    refine mv ?_
    refine cl (c53 (qof (l.take k)) k x) ?_
    refine sA ?_
    refine rNil ?_
    refine bn_ ?_
    refine tn ?_
    refine rg ?_
    refine bo ?_
    refine mv ?_
    refine rNil ?_
    refine tn ?_
    exact ⟨l.length - (k + 1), by omega, wx 2 ⟨k + 1, by omega, by omega, by rw [← hq]; rfl⟩⟩ -- LEAF 1: round of loop 1
  ·
    refine awp_exit ?_
    refine te ?_
    refine te ?_
    refine xbk ?_
    refine tn ?_
    refine sg ?_
    first | refine lAf ?_ | refine lAb ?_ | refine lAo ?_
    refine sA ?_
    refine rNil ?_
    refine awp_ret ?_
    have hkk : k = l.length := by simp at h1; omega
    subst hkk
    rw [List.take_length]
    exact ⟨.inr rfl, _, (.cons (resC (by ((repeat apply Look.there rfl); exact Look.here)) (by exact rfl) (by exact rfl) (by ((repeat (apply All2.cons; first | exact .f (.v _) | exact .row rfl (by first | exact rfl | simp) | exact .f .nil | exact .f (.fro rfl (by first | exact rfl | simp)))); exact All2.nil))) .nil), rfl⟩ -- LEAF 2: ret

/-- frustum/frustumref03.Of -/
theorem c30 (l : List Int) : Fn Try.prog 30 [L l] (.one (A (qof l))) := by
  refine fnI Try.func30 Try.ntmps30 fun hb => ?_
  have hla := bd_L (f := Enc.c) (l := l) hb (by simp)
  refine sg ?_
  refine al _ ?_
  refine rNil ?_
  refine sg ?_
  refine buS ?_
  refine al _ ?_
  refine sA ?_
  refine rNil ?_
  refine sq ?_
  refine sg ?_
  refine as_ ?_
  refine rNil ?_
  refine bk ?_
  refine lp (fun n S => ∃ k : Nat, n = l.length - k ∧ k ≤ l.length ∧ S = ⟨[(4, .r (I k)), (0, .r (L l)), (3, .box 1 0), (2, .box 0 0)], [.box 43 [.r (I 0), .r (I 0), .r (I 0), .r (I 0)], .box 43 [.r (I (qof (l.take k)).x), .r (I (qof (l.take k)).y), .r (I (qof (l.take k)).z), .r (I (qof (l.take k)).w)]]⟩) l.length ?_ ?_
  · exact wx 2 ⟨0, by omega, by omega, rfl⟩
  rintro n S ⟨k, hn, hk, rfl⟩
  refine sq ?_
  refine sg ?_
  refine mv ?_
  refine mv ?_
  first | refine lnM ?_ | refine ln ?_ | refine lnO ?_ | refine lnN ?_ | refine lnW ?_
  refine bo ?_
  refine mv ?_
  refine gd (fun h1 => ?_) (fun h1 => ?_)
  ·
    have hk1 : k < l.length := by simpa using h1
    obtain ⟨x, hx⟩ := ex_get hk1
    have hq := qof_snoc hx
    refine mv ?_
    refine bo ?_
    refine pkT ?_
    refine rNil ?_
    refine cn (fun h2 => ?_) (fun h2 => ?_)
    ·
      refine awp_skip ?_
      refine tn ?_
      refine sq ?_
      refine bk ?_
      refine rd mixO ?_
      first | refine lAf ?_ | refine lAb ?_ | refine lAo ?_
      refine mv ?_
      refine mv ?_
      refine mv ?_
      first | refine xs_ ?_ | refine xo ?_ | refine xw ?_
      first | refine l1f ?_ | refine l1b ?_ | refine l1o ?_
      refine cl (c55 (qof (l.take k)) k x) ?_
      refine sA ?_
      refine rNil ⟨rfl, ?_⟩
      refine bn_ ?_
      refine tn ?_
      refine rg ?_
      refine mv ?_
      refine bo ?_
      refine as_ ?_
      refine rNil ?_
      refine tn ?_
      exact ⟨l.length - (k + 1), by omega, wx 2 ⟨k + 1, by omega, by omega, by rw [← hq]; rfl⟩⟩ -- LEAF 1: round of loop 1
    ·
      refine awp_exit ?_
      refine te ?_
      refine te ?_
      refine xbk ?_
      refine tn ?_
      refine sg ?_
      first | refine lAf ?_ | refine lAb ?_ | refine lAo ?_
      refine sA ?_
      refine rNil ?_
      refine awp_ret ?_
      rw [qof_big (show 4 ≤ k by simp at h2; omega)]
      exact ⟨.inr rfl, _, (.cons (resC (by ((repeat apply Look.there rfl); exact Look.here)) (by exact rfl) (by exact rfl) (by ((repeat (apply All2.cons; first | exact .f (.v _) | exact .row rfl (by first | exact rfl | simp) | exact .f .nil | exact .f (.fro rfl (by first | exact rfl | simp)))); exact All2.nil))) .nil), rfl⟩ -- LEAF 2: ret
  ·
    have hkk : k = l.length := by simp at h1; omega
    subst hkk
    rw [List.take_length]
    refine no ?_
    refine no ?_
    refine pkF ?_
    refine rNil ?_
    refine cn (fun h3 => ?_) (fun h3 => ?_)
    ·
      exact absurd h3 (by decide)
    ·
      refine awp_exit ?_
      refine te ?_
      refine te ?_
      refine xbk ?_
      refine tn ?_
      refine sg ?_
      first | refine lAf ?_ | refine lAb ?_ | refine lAo ?_
      refine sA ?_
      refine rNil ?_
      refine awp_ret ?_
      exact ⟨.inr rfl, _, (.cons (resC (by ((repeat apply Look.there rfl); exact Look.here)) (by exact rfl) (by exact rfl) (by ((repeat (apply All2.cons; first | exact .f (.v _) | exact .row rfl (by first | exact rfl | simp) | exact .f .nil | exact .f (.fro rfl (by first | exact rfl | simp)))); exact All2.nil))) .nil), rfl⟩ -- LEAF 3: ret

/-- frustum/vec.Add -/
theorem c29 (v : Q4) : Fn Try.prog 29 [A v, A (⟨0, 0, 0, 0⟩ : Q4)] (.one (A (satQ v))) := by
  refine fnI Try.func29 Try.ntmps29 fun hb => ?_
  refine sg ?_
  refine bx _ ?_
  refine bx _ ?_
  refine al _ ?_
  refine rNil ?_
  refine sd mixO ?_
  first | refine ff ?_ | refine fb ?_ | refine fo ?_
  first | refine l1f ?_ | refine l1b ?_ | refine l1o ?_
  first | refine ff ?_ | refine fb ?_ | refine fo ?_
  first | refine l1f ?_ | refine l1b ?_ | refine l1o ?_
  refine cl (c54 _ _) ?_
  first | refine ff ?_ | refine fb ?_ | refine fo ?_
  first | refine l1f ?_ | refine l1b ?_ | refine l1o ?_
  first | refine ff ?_ | refine fb ?_ | refine fo ?_
  first | refine l1f ?_ | refine l1b ?_ | refine l1o ?_
  refine cl (c54 _ _) ?_
  first | refine ff ?_ | refine fb ?_ | refine fo ?_
  first | refine l1f ?_ | refine l1b ?_ | refine l1o ?_
  first | refine ff ?_ | refine fb ?_ | refine fo ?_
  first | refine l1f ?_ | refine l1b ?_ | refine l1o ?_
  refine cl (c54 _ _) ?_
  first | refine ff ?_ | refine fb ?_ | refine fo ?_
  first | refine l1f ?_ | refine l1b ?_ | refine l1o ?_
  first | refine ff ?_ | refine fb ?_ | refine fo ?_
  first | refine l1f ?_ | refine l1b ?_ | refine l1o ?_
  refine cl (c54 _ _) ?_
  refine buS ?_
  refine sA ?_
  refine rNil ⟨rfl, ?_⟩
  refine awp_ret ?_
  exact ⟨.inr rfl, _, (.cons (resC (by ((repeat apply Look.there rfl); exact Look.here)) (by exact rfl) (by exact rfl) (by ((repeat (apply All2.cons; first | exact .f (.v _) | exact .row rfl (by first | exact rfl | simp) | exact .f .nil | exact .f (.fro rfl (by first | exact rfl | simp)))); exact All2.nil))) .nil), by rw [fadd0, fadd0, fadd0, fadd0]; rfl⟩ -- LEAF 1: ret

structure LR where
  outs : List Int
  disc : Bool
  em : List (List Int)
  cuts : List Int
instance : Enc LR := ⟨fun r => [.sl (r.outs.map Enc.c), .b r.disc, .sl (r.em.map Enc.c), .sl (r.cuts.map Enc.c)]⟩
/-- frustum/fragments.ColorOf -/
theorem c14 (r : LR) : Fn Try.prog 14 [A r] (.one (A (satQ (qof r.outs)))) := by
  refine fnI Try.func14 Try.ntmps14 fun hb => ?_
  refine sg ?_
  refine bx _ ?_
  refine al _ ?_
  refine rNil ?_
  refine sg ?_
  first | refine ff ?_ | refine fb ?_ | refine fo ?_
  first | refine l1f ?_ | refine l1b ?_ | refine l1o ?_
  refine cl (c28 r.outs) ?_
  refine al _ ?_
  refine sA ?_
  refine rNil ?_
  refine sg ?_
  first | refine lAf ?_ | refine lAb ?_ | refine lAo ?_
  refine buS ?_
  refine cl (c29 (qof r.outs)) ?_
  refine sA ?_
  refine rNil ?_
  refine awp_ret ?_
  exact ⟨.inr rfl, _, (.cons (resC (by ((repeat apply Look.there rfl); exact Look.here)) (by exact rfl) (by exact rfl) (by ((repeat (apply All2.cons; first | exact .f (.v _) | exact .row rfl (by first | exact rfl | simp) | exact .f .nil | exact .f (.fro rfl (by first | exact rfl | simp)))); exact All2.nil))) .nil), rfl⟩ -- LEAF 1: ret

/-- frustum/frustumref45.ColorOf -/
theorem c15 (r : LR) : Fn Try.prog 15 [A r] (.one (A (satQ (qof r.outs)))) := by
  refine fnI Try.func15 Try.ntmps15 fun hb => ?_
  refine sg ?_
  refine bx _ ?_
  refine al _ ?_
  refine rNil ?_
  refine sg ?_
  first | refine ff ?_ | refine fb ?_ | refine fo ?_
  first | refine l1f ?_ | refine l1b ?_ | refine l1o ?_
  refine cl (c30 r.outs) ?_
  refine al _ ?_
  refine sA ?_
  refine rNil ?_
  refine sd mixO ?_
  first | refine ff ?_ | refine fb ?_ | refine fo ?_
  first | refine l1f ?_ | refine l1b ?_ | refine l1o ?_
  refine cl (c31 _) ?_
  first | refine ff ?_ | refine fb ?_ | refine fo ?_
  first | refine l1f ?_ | refine l1b ?_ | refine l1o ?_
  refine cl (c31 _) ?_
  first | refine ff ?_ | refine fb ?_ | refine fo ?_
  first | refine l1f ?_ | refine l1b ?_ | refine l1o ?_
  refine cl (c31 _) ?_
  first | refine ff ?_ | refine fb ?_ | refine fo ?_
  first | refine l1f ?_ | refine l1b ?_ | refine l1o ?_
  refine cl (c31 _) ?_
  refine buS ?_
  refine sA ?_
  refine rNil ⟨rfl, ?_⟩
  refine awp_ret ?_
  exact ⟨.inr rfl, _, (.cons (resC (by ((repeat apply Look.there rfl); exact Look.here)) (by exact rfl) (by exact rfl) (by ((repeat (apply All2.cons; first | exact .f (.v _) | exact .row rfl (by first | exact rfl | simp) | exact .f .nil | exact .f (.fro rfl (by first | exact rfl | simp)))); exact All2.nil))) .nil), rfl⟩ -- LEAF 1: ret

def cnt8 (m : Int) : Int := 0 + m.fdiv (2 ^ (min (Int.toNat 0) 64)) % 2 + m.fdiv (2 ^ (min (Int.toNat (0 + 1)) 64)) % 2 + m.fdiv (2 ^ (min (Int.toNat (0 + 1 + 1)) 64)) % 2 + m.fdiv (2 ^ (min (Int.toNat (0 + 1 + 1 + 1)) 64)) % 2 + m.fdiv (2 ^ (min (Int.toNat (0 + 1 + 1 + 1 + 1)) 64)) % 2 + m.fdiv (2 ^ (min (Int.toNat (0 + 1 + 1 + 1 + 1 + 1)) 64)) % 2 + m.fdiv (2 ^ (min (Int.toNat (0 + 1 + 1 + 1 + 1 + 1 + 1)) 64)) % 2 + m.fdiv (2 ^ (min (Int.toNat (0 + 1 + 1 + 1 + 1 + 1 + 1 + 1)) 64)) % 2
theorem cnt8_bd (m : Int) : 0 ≤ cnt8 m ∧ cnt8 m ≤ 8 := by unfold cnt8; omega
set_option maxHeartbeats 1000000 in
/-- frustum/frustumref35.Count -/
theorem c33 (m : Int) : Fn Try.prog 33 [I m] (.one (I (cnt8 m))) := by
  refine fnI Try.func33 Try.ntmps33 fun hb => ?_
  refine sg ?_
  refine as_ ?_
  refine rNil ?_
  refine sg ?_
  refine as_ ?_
  refine rNil ?_
  refine sq ?_
  refine sg ?_
  refine as_ ?_
  refine rNil ?_
  refine bk ?_
  refine lu ?_
  refine lr ?_
  refine sq ?_
  refine sg ?_
  refine mv ?_
  refine bo ?_
  refine rNil ?_
  refine cn (fun h1 => ?_) (fun h1 => ?_)
  ·
    refine awp_skip ?_
    refine tn ?_
    refine sq ?_
    refine bk ?_
    refine rg ?_
    refine mv ?_
    refine mv ?_
    refine mv ?_
    refine cv ?_
    refine sh ?_
    refine bo ?_
    refine bo ?_
    refine as_ ?_
    refine rNil ?_
    refine bn_ ?_
    refine tn ?_
    refine rg ?_
    refine mv ?_
    refine bo ?_
    refine as_ ?_
    refine rNil ?_
    refine tn ?_
    refine lr ?_
    refine sq ?_
    refine sg ?_
    refine mv ?_
    refine bo ?_
    refine rNil ?_
    refine cn (fun h2 => ?_) (fun h2 => ?_)
    ·
      refine awp_skip ?_
      refine tn ?_
      refine sq ?_
      refine bk ?_
      refine rg ?_
      refine mv ?_
      refine mv ?_
      refine mv ?_
      refine cv ?_
      refine sh ?_
      refine bo ?_
      refine bo ?_
      refine as_ ?_
      refine rNil ?_
      refine bn_ ?_
      refine tn ?_
      refine rg ?_
      refine mv ?_
      refine bo ?_
      refine as_ ?_
      refine rNil ?_
      refine tn ?_
      refine lr ?_
      refine sq ?_
      refine sg ?_
      refine mv ?_
      refine bo ?_
      refine rNil ?_
      refine cn (fun h3 => ?_) (fun h3 => ?_)
      ·
        refine awp_skip ?_
        refine tn ?_
        refine sq ?_
        refine bk ?_
        refine rg ?_
        refine mv ?_
        refine mv ?_
        refine mv ?_
        refine cv ?_
        refine sh ?_
        refine bo ?_
        refine bo ?_
        refine as_ ?_
        refine rNil ?_
        refine bn_ ?_
        refine tn ?_
        refine rg ?_
        refine mv ?_
        refine bo ?_
        refine as_ ?_
        refine rNil ?_
        refine tn ?_
        refine lr ?_
        refine sq ?_
        refine sg ?_
        refine mv ?_
        refine bo ?_
        refine rNil ?_
        refine cn (fun h4 => ?_) (fun h4 => ?_)
        ·
          refine awp_skip ?_
          refine tn ?_
          refine sq ?_
          refine bk ?_
          refine rg ?_
          refine mv ?_
          refine mv ?_
          refine mv ?_
          refine cv ?_
          refine sh ?_
          refine bo ?_
          refine bo ?_
          refine as_ ?_
          refine rNil ?_
          refine bn_ ?_
          refine tn ?_
          refine rg ?_
          refine mv ?_
          refine bo ?_
          refine as_ ?_
          refine rNil ?_
          refine tn ?_
          refine lr ?_
          refine sq ?_
          refine sg ?_
          refine mv ?_
          refine bo ?_
          refine rNil ?_
          refine cn (fun h5 => ?_) (fun h5 => ?_)
          ·
            refine awp_skip ?_
            refine tn ?_
            refine sq ?_
            refine bk ?_
            refine rg ?_
            refine mv ?_
            refine mv ?_
            refine mv ?_
            refine cv ?_
            refine sh ?_
            refine bo ?_
            refine bo ?_
            refine as_ ?_
            refine rNil ?_
            refine bn_ ?_
            refine tn ?_
            refine rg ?_
            refine mv ?_
            refine bo ?_
            refine as_ ?_
            refine rNil ?_
            refine tn ?_
            refine lr ?_
            refine sq ?_
            refine sg ?_
            refine mv ?_
            refine bo ?_
            refine rNil ?_
            refine cn (fun h6 => ?_) (fun h6 => ?_)
            ·
              refine awp_skip ?_
              refine tn ?_
              refine sq ?_
              refine bk ?_
              refine rg ?_
              refine mv ?_
              refine mv ?_
              refine mv ?_
              refine cv ?_
              refine sh ?_
              refine bo ?_
              refine bo ?_
              refine as_ ?_
              refine rNil ?_
              refine bn_ ?_
              refine tn ?_
              refine rg ?_
              refine mv ?_
              refine bo ?_
              refine as_ ?_
              refine rNil ?_
              refine tn ?_
              refine lr ?_
              refine sq ?_
              refine sg ?_
              refine mv ?_
              refine bo ?_
              refine rNil ?_
              refine cn (fun h7 => ?_) (fun h7 => ?_)
              ·
                refine awp_skip ?_
                refine tn ?_
                refine sq ?_
                refine bk ?_
                refine rg ?_
                refine mv ?_
                refine mv ?_
                refine mv ?_
                refine cv ?_
                refine sh ?_
                refine bo ?_
                refine bo ?_
                refine as_ ?_
                refine rNil ?_
                refine bn_ ?_
                refine tn ?_
                refine rg ?_
                refine mv ?_
                refine bo ?_
                refine as_ ?_
                refine rNil ?_
                refine tn ?_
                refine lr ?_
                refine sq ?_
                refine sg ?_
                refine mv ?_
                refine bo ?_
                refine rNil ?_
                refine cn (fun h8 => ?_) (fun h8 => ?_)
                ·
                  refine awp_skip ?_
                  refine tn ?_
                  refine sq ?_
                  refine bk ?_
                  refine rg ?_
                  refine mv ?_
                  refine mv ?_
                  refine mv ?_
                  refine cv ?_
                  refine sh ?_
                  refine bo ?_
                  refine bo ?_
                  refine as_ ?_
                  refine rNil ?_
                  refine bn_ ?_
                  refine tn ?_
                  refine rg ?_
                  refine mv ?_
                  refine bo ?_
                  refine as_ ?_
                  refine rNil ?_
                  refine tn ?_
                  refine lr ?_
                  refine sq ?_
                  refine sg ?_
                  refine mv ?_
                  refine bo ?_
                  refine rNil ?_
                  refine cn (fun h9 => ?_) (fun h9 => ?_)
                  ·
                    exact absurd h9 (by decide)
                  ·
                    refine awp_exit ?_
                    refine te ?_
                    refine te ?_
                    refine xbk ?_
                    refine tn ?_
                    refine sg ?_
                    refine mv ?_
                    refine as_ ?_
                    refine rNil ?_
                    refine awp_ret ?_
                    exact ⟨.inr rfl, _, (.cons (by first | exact .v (by ((repeat apply Look.there rfl); exact Look.here)) (.f (.v _)) | exact .v (by ((repeat apply Look.there rfl); exact Look.here)) (.row rfl rfl) | exact .v (by ((repeat apply Look.there rfl); exact Look.here)) (.f .nil) | exact .a (by ((repeat apply Look.there rfl); exact Look.here)) | skip) .nil), rfl⟩ -- LEAF 1: ret
                ·
                  exact absurd h8 (by decide)
              ·
                exact absurd h7 (by decide)
            ·
              exact absurd h6 (by decide)
          ·
            exact absurd h5 (by decide)
        ·
          exact absurd h4 (by decide)
      ·
        exact absurd h3 (by decide)
    ·
      exact absurd h2 (by decide)
  ·
    exact absurd h1 (by decide)

def tab : ByteArray := { data := (([0, 1, 1, 2, 1, 2, 2, 3, 1, 2, 2, 3, 2, 3, 3, 4, 1, 2, 2, 3, 2, 3, 3, 4, 2, 3, 3, 4, 3, 4, 4, 5, 1, 2, 2, 3, 2, 3, 3, 4, 2, 3, 3, 4, 3, 4, 4, 5, 2, 3, 3, 4, 3, 4, 4, 5, 3, 4, 4, 5, 4, 5, 5, 6].append [1, 2, 2, 3, 2, 3, 3, 4, 2, 3, 3, 4, 3, 4, 4, 5, 2, 3, 3, 4, 3, 4, 4, 5, 3, 4, 4, 5, 4, 5, 5, 6, 2, 3, 3, 4, 3, 4, 4, 5, 3, 4, 4, 5, 4, 5, 5, 6, 3, 4, 4, 5, 4, 5, 5, 6, 4, 5, 5, 6, 5, 6, 6, 7]).append ([1, 2, 2, 3, 2, 3, 3, 4, 2, 3, 3, 4, 3, 4, 4, 5, 2, 3, 3, 4, 3, 4, 4, 5, 3, 4, 4, 5, 4, 5, 5, 6, 2, 3, 3, 4, 3, 4, 4, 5, 3, 4, 4, 5, 4, 5, 5, 6, 3, 4, 4, 5, 4, 5, 5, 6, 4, 5, 5, 6, 5, 6, 6, 7].append [2, 3, 3, 4, 3, 4, 4, 5, 3, 4, 4, 5, 4, 5, 5, 6, 3, 4, 4, 5, 4, 5, 5, 6, 4, 5, 5, 6, 5, 6, 6, 7, 3, 4, 4, 5, 4, 5, 5, 6, 4, 5, 5, 6, 5, 6, 6, 7, 4, 5, 5, 6, 5, 6, 6, 7, 5, 6, 6, 7, 6, 7, 7, 8])).toArray }
theorem tab_all : (List.range 256).all (fun x => match tab[x]? with | some b => decide ((b.toNat : Int) = cnt8 x) | none => false) = true := by decide +kernel
theorem tab_get {x : Nat} (h : x < 256) : ∃ b, tab[x]? = some b ∧ (b.toNat : Int) = cnt8 x := by
  have := List.all_eq_true.1 tab_all x (List.mem_range.2 h)
  split at this
  · rename_i b hb; exact ⟨b, hb, of_decide_eq_true this⟩
  · cases this
instance : StrT Try.prog 9 := ⟨by kernel_rfl⟩
set_option maxRecDepth 100000 in
/-- math/bits.OnesCount8 -/
theorem c56 (x : Nat) (h : x < 256) : Fn Try.prog 56 [.v (.i .u8 (x : Int))] (.one (I (cnt8 x))) := by
  refine fnI Try.func56 Try.ntmps56 fun hb => ?_
  obtain ⟨b, hb1, hb2⟩ := tab_get h
  have hbd := cnt8_bd x
  refine sg ?_
  refine as_ ?_
  refine rNil ?_
  refine sg ?_
  refine mv ?_
  refine ixS (bs := tab) (b := b) (i := (x : Int)) hb1 ?_
  refine cv ?_
  refine as_ ?_
  refine rNil ?_
  refine awp_ret ?_
  exact ⟨.inr rfl, _, (.cons (by first | exact .v (by ((repeat apply Look.there rfl); exact Look.here)) (.f (.v _)) | exact .v (by ((repeat apply Look.there rfl); exact Look.here)) (.row rfl rfl) | exact .v (by ((repeat apply Look.there rfl); exact Look.here)) (.f .nil) | exact .a (by ((repeat apply Look.there rfl); exact Look.here)) | skip) .nil), oneI hb2⟩ -- LEAF 1: ret

theorem cnt8_mod (m : Int) : cnt8 (m % 256) = cnt8 m := by
  unfold cnt8
  simp only [Int.fdiv_eq_ediv_of_nonneg _ (show (0 : Int) ≤ 2 ^ (min (Int.toNat 0) 64) by decide), Int.fdiv_eq_ediv_of_nonneg _ (show (0 : Int) ≤ 2 ^ (min (Int.toNat (0 + 1)) 64) by decide), Int.fdiv_eq_ediv_of_nonneg _ (show (0 : Int) ≤ 2 ^ (min (Int.toNat (0 + 1 + 1)) 64) by decide), Int.fdiv_eq_ediv_of_nonneg _ (show (0 : Int) ≤ 2 ^ (min (Int.toNat (0 + 1 + 1 + 1)) 64) by decide), Int.fdiv_eq_ediv_of_nonneg _ (show (0 : Int) ≤ 2 ^ (min (Int.toNat (0 + 1 + 1 + 1 + 1)) 64) by decide), Int.fdiv_eq_ediv_of_nonneg _ (show (0 : Int) ≤ 2 ^ (min (Int.toNat (0 + 1 + 1 + 1 + 1 + 1)) 64) by decide), Int.fdiv_eq_ediv_of_nonneg _ (show (0 : Int) ≤ 2 ^ (min (Int.toNat (0 + 1 + 1 + 1 + 1 + 1 + 1)) 64) by decide), Int.fdiv_eq_ediv_of_nonneg _ (show (0 : Int) ≤ 2 ^ (min (Int.toNat (0 + 1 + 1 + 1 + 1 + 1 + 1 + 1)) 64) by decide)]
  rw [show (2 : Int) ^ (min (Int.toNat 0) 64) = 1 by decide, show (2 : Int) ^ (min (Int.toNat (0 + 1)) 64) = 2 by decide, show (2 : Int) ^ (min (Int.toNat (0 + 1 + 1)) 64) = 4 by decide, show (2 : Int) ^ (min (Int.toNat (0 + 1 + 1 + 1)) 64) = 8 by decide, show (2 : Int) ^ (min (Int.toNat (0 + 1 + 1 + 1 + 1)) 64) = 16 by decide, show (2 : Int) ^ (min (Int.toNat (0 + 1 + 1 + 1 + 1 + 1)) 64) = 32 by decide, show (2 : Int) ^ (min (Int.toNat (0 + 1 + 1 + 1 + 1 + 1 + 1)) 64) = 64 by decide, show (2 : Int) ^ (min (Int.toNat (0 + 1 + 1 + 1 + 1 + 1 + 1 + 1)) 64) = 128 by decide]
  omega
theorem wU8 (x : Int) : IntKind.u8.wrap x = x % 256 := by
  rw [IntKind.wrap]; simp [IntKind.bits, IntKind.signed]
/-- frustum/coverage.Count -/
theorem c32 (m : Int) : Fn Try.prog 32 [I m] (.one (I (cnt8 m))) := by
  refine fnI Try.func32 Try.ntmps32 fun hb => ?_
  obtain ⟨x, hx⟩ : ∃ x : Nat, m % 256 = x := ⟨(m % 256).toNat, by omega⟩
  have hc : Fn Try.prog 56 [.v (.i .u8 (IntKind.u8.wrap m))] (.one (I (cnt8 m))) := by
    have h := c56 x (by omega)
    rw [wU8, hx, ← cnt8_mod m, hx]; exact h
  refine sg ?_
  refine as_ ?_
  refine rNil ?_
  refine sg ?_
  refine mv ?_
  refine cv ?_
  refine cl (hc) ?_
  refine as_ ?_
  refine rNil ?_
  refine awp_ret ?_
  exact ⟨.inr rfl, _, (.cons (by first | exact .v (by ((repeat apply Look.there rfl); exact Look.here)) (.f (.v _)) | exact .v (by ((repeat apply Look.there rfl); exact Look.here)) (.row rfl rfl) | exact .v (by ((repeat apply Look.there rfl); exact Look.here)) (.f .nil) | exact .a (by ((repeat apply Look.there rfl); exact Look.here)) | skip) .nil), rfl⟩ -- LEAF 1: ret

def sumC (l : List Frag) : Int := (l.map fun f => cnt8 f.mask).sum
theorem sumC_snoc {l : List Frag} {k : Nat} {x : Frag} (h : l[k]? = some x) : sumC (l.take (k + 1)) = sumC (l.take k) + cnt8 x.mask := by
  rw [take_snoc h, sumC, List.map_append, List.sum_append]; simp [sumC]
theorem sumC_bd (l : List Frag) : 0 ≤ sumC l ∧ sumC l ≤ 8 * l.length := by
  induction l with
  | nil => decide
  | cons a l ih =>
    have := cnt8_bd a.mask
    have e : sumC (a :: l) = cnt8 a.mask + sumC l := by simp [sumC]
    rw [e, List.length_cons]; omega
/-- frustum/fragments.Samples -/
theorem c16 (l : List Frag) (hl : l.length ≤ 1000) : Fn Try.prog 16 [L l] (.one (I (sumC l))) := by
  refine fnI Try.func16 Try.ntmps16 fun hb => ?_
  refine sg ?_
  refine as_ ?_
  refine rNil ?_
  refine sg ?_
  refine as_ ?_
  refine rNil ?_
  refine sq ?_
  refine sg ?_
  refine mv ?_
  first | refine lnM ?_ | refine ln ?_ | refine lnO ?_ | refine lnN ?_ | refine lnW ?_
  refine mv ?_
  refine rNil ?_
  refine bk ?_
  refine lp (fun n S => ∃ k : Nat, n = l.length - k ∧ k ≤ l.length ∧ S = ⟨[(8, .r (I k)), (7, .r (I l.length)), (6, .r (L l)), (3, .r (I (sumC (l.take k))))], []⟩) l.length ?_ ?_
  · exact wx 0 ⟨0, by omega, by omega, rfl⟩
  rintro n S ⟨k, hn, hk, rfl⟩
  have hsb := sumC_bd (l.take k)
  rw [List.length_take] at hsb
  refine sg ?_
  refine bo ?_
  refine rNil ?_
  refine sq ?_
  refine cn (fun h1 => ?_) (fun h1 => ?_)
  ·
    have hk1 : k < l.length := by simpa using h1
    obtain ⟨x, hx⟩ := ex_get hk1
    have hq := sumC_snoc hx
    have hcb := cnt8_bd x.mask
    refine awp_skip ?_
    refine tn ?_
    refine sq ?_
    refine bk ?_
    refine sg ?_
    first | refine xs_ ?_ | refine xo ?_ | refine xw ?_
    first | refine lAf ?_ | refine lAb ?_ | refine lAo ?_
    refine al _ ?_
    refine sA ?_
    refine rNil ?_
    refine rg ?_
    refine mv ?_
    first | refine ff ?_ | refine fb ?_ | refine fo ?_
    first | refine l1f ?_ | refine l1b ?_ | refine l1o ?_
    refine cl (c32 _) ?_
    refine bo ?_
    refine as_ ?_
    refine rNil ?_
    refine bn_ ?_
    refine tn ?_
    refine rg ?_
    refine bo ?_
    refine mv ?_
    refine rNil ?_
    refine tn ?_
    exact ⟨l.length - (k + 1), by omega, wx 0 ⟨k + 1, by omega, by omega, by rw [hq]; rfl⟩⟩ -- LEAF 1: round of loop 1
  ·
    refine awp_exit ?_
    refine te ?_
    refine te ?_
    refine xbk ?_
    refine tn ?_
    refine sg ?_
    refine mv ?_
    refine as_ ?_
    refine rNil ?_
    refine awp_ret ?_
    have hkk : k = l.length := by simp at h1; omega
    subst hkk
    rw [List.take_length]
    exact ⟨.inr rfl, _, (.cons (by first | exact .v (by ((repeat apply Look.there rfl); exact Look.here)) (.f (.v _)) | exact .v (by ((repeat apply Look.there rfl); exact Look.here)) (.row rfl rfl) | exact .v (by ((repeat apply Look.there rfl); exact Look.here)) (.f .nil) | exact .a (by ((repeat apply Look.there rfl); exact Look.here)) | skip) .nil), rfl⟩ -- LEAF 2: ret

/-- frustum/frustumref45.Samples -/
theorem c17 (l : List Frag) (hl : l.length ≤ 1000) : Fn Try.prog 17 [L l] (.one (I (sumC l))) := by
  refine fnI Try.func17 Try.ntmps17 fun hb => ?_
  refine sg ?_
  refine as_ ?_
  refine rNil ?_
  refine sg ?_
  refine as_ ?_
  refine rNil ?_
  refine sq ?_
  refine sg ?_
  refine as_ ?_
  refine rNil ?_
  refine bk ?_
  refine lp (fun n S => ∃ k : Nat, n = l.length - k ∧ k ≤ l.length ∧ S = ⟨[(4, .r (I k)), (0, .r (L l)), (3, .r (I (sumC (l.take k))))], []⟩) l.length ?_ ?_
  · exact wx 0 ⟨0, by omega, by omega, rfl⟩
  rintro n S ⟨k, hn, hk, rfl⟩
  have hsb := sumC_bd (l.take k)
  rw [List.length_take] at hsb
  refine sq ?_
  refine sg ?_
  refine mv ?_
  refine mv ?_
  first | refine lnM ?_ | refine ln ?_ | refine lnO ?_ | refine lnN ?_ | refine lnW ?_
  refine bo ?_
  refine rNil ?_
  refine cn (fun h1 => ?_) (fun h1 => ?_)
  ·
    have hk1 : k < l.length := by simpa using h1
    obtain ⟨x, hx⟩ := ex_get hk1
    have hq := sumC_snoc hx
    have hcb := cnt8_bd x.mask
    refine awp_skip ?_
    refine tn ?_
    refine sq ?_
    refine bk ?_
    refine rg ?_
    refine mv ?_
    refine mv ?_
    refine mv ?_
    first | refine xs_ ?_ | refine xo ?_ | refine xw ?_
    first | refine ff ?_ | refine fb ?_ | refine fo ?_
    first | refine l1f ?_ | refine l1b ?_ | refine l1o ?_
    refine cl (c33 _) ?_
    refine bo ?_
    refine as_ ?_
    refine rNil ?_
    refine bn_ ?_
    refine tn ?_
    refine rg ?_
    refine mv ?_
    refine bo ?_
    refine as_ ?_
    refine rNil ?_
    refine tn ?_
    exact ⟨l.length - (k + 1), by omega, wx 0 ⟨k + 1, by omega, by omega, by rw [hq]; rfl⟩⟩ -- LEAF 1: round of loop 1
  ·
    refine awp_exit ?_
    refine te ?_
    refine te ?_
    refine xbk ?_
    refine tn ?_
    refine sg ?_
    refine mv ?_
    refine as_ ?_
    refine rNil ?_
    refine awp_ret ?_
    have hkk : k = l.length := by simp at h1; omega
    subst hkk
    rw [List.take_length]
    exact ⟨.inr rfl, _, (.cons (by first | exact .v (by ((repeat apply Look.there rfl); exact Look.here)) (.f (.v _)) | exact .v (by ((repeat apply Look.there rfl); exact Look.here)) (.row rfl rfl) | exact .v (by ((repeat apply Look.there rfl); exact Look.here)) (.f .nil) | exact .a (by ((repeat apply Look.there rfl); exact Look.here)) | skip) .nil), rfl⟩ -- LEAF 2: ret

/-- frustum/frustumlaw45.FragmentsColor -/
theorem c6 (r : LR) (l : List Frag) : Fn Try.prog 6 [A r, L l] (.one (B true)) := by
  refine fnI Try.func6 Try.ntmps6 fun hb => ?_
  have hla := bd_L (f := Enc.c) (l := l) hb (by simp)
  refine sg ?_
  refine bx _ ?_
  refine as_ ?_
  refine rNil ?_
  refine sq ?_
  refine sg ?_
  refine mv ?_
  first | refine lnM ?_ | refine ln ?_ | refine lnO ?_ | refine lnN ?_ | refine lnW ?_
  refine bo ?_
  refine rNil ?_
  refine cn (fun h1 => ?_) (fun h1 => ?_)
  ·
    refine sg ?_
    refine cl (c8) ?_
    refine as_ ?_
    refine rNil ?_
    refine awp_ret ?_
    refine tr ?_
    exact ⟨.inr rfl, _, (.cons (by first | exact .v (by ((repeat apply Look.there rfl); exact Look.here)) (.f (.v _)) | exact .v (by ((repeat apply Look.there rfl); exact Look.here)) (.row rfl rfl) | exact .v (by ((repeat apply Look.there rfl); exact Look.here)) (.f .nil) | exact .a (by ((repeat apply Look.there rfl); exact Look.here)) | skip) .nil), rfl⟩ -- LEAF 1: ret
  ·
    have hl : l.length ≤ 1000 := by simp at h1; omega
    refine awp_skip ?_
    refine tn ?_
    refine sq ?_
    refine sg ?_
    refine as_ ?_
    refine rNil ?_
    refine bk ?_
    refine lp (fun n S => ∃ k : Nat, n = l.length - k ∧ k ≤ l.length ∧ S = ⟨[(5, .r (I k)), (1, .r (L l)), (2, .box 0 0)], [.box 41 [.r (.v (.sl (r.outs.map Enc.c))), .r (B r.disc), .r (.v (.sl (r.em.map Enc.c))), .r (.v (.sl (r.cuts.map Enc.c)))]]⟩) l.length ?_ ?_
    · exact wx 1 ⟨0, by omega, by omega, rfl⟩
    rintro n S ⟨k, hn, hk, rfl⟩
    refine sq ?_
    refine sg ?_
    refine mv ?_
    refine mv ?_
    first | refine lnM ?_ | refine ln ?_ | refine lnO ?_ | refine lnN ?_ | refine lnW ?_
    refine bo ?_
    refine rNil ?_
    refine cn (fun h2 => ?_) (fun h2 => ?_)
    ·
      have hk1 : k < l.length := by simpa using h2
      obtain ⟨x, hx⟩ := ex_get hk1
      obtain ⟨x0, hx0⟩ := ex_get (show 0 < l.length by omega)
      refine awp_skip ?_
      refine tn ?_
      refine sq ?_
      refine bk ?_
      refine sd mixO ?_
      refine mv ?_
      refine mv ?_
      first | refine xs_ ?_ | refine xo ?_ | refine xw ?_
      first | refine lAf ?_ | refine lAb ?_ | refine lAo ?_
      refine mv ?_
      refine mv ?_
      first | refine xs_ ?_ | refine xo ?_ | refine xw ?_
      first | refine lAf ?_ | refine lAb ?_ | refine lAo ?_
      refine cl (c13 x x) ?_
      refine nt ?_
      refine mv ?_
      refine gd (fun h3 => ?_) (fun h3 => ?_)
      ·
        rw [eqF_refl] at h3; cases h3 -- END
      ·
        refine mv ?_
        first | refine xs_ ?_ | refine xo ?_ | refine xw ?_
        first | refine lAf ?_ | refine lAb ?_ | refine lAo ?_
        refine mv ?_
        refine mv ?_
        first | refine xs_ ?_ | refine xo ?_ | refine xw ?_
        first | refine lAf ?_ | refine lAb ?_ | refine lAo ?_
        refine cl (c13 x0 x) ?_
        refine mv ?_
        first | refine xs_ ?_ | refine xo ?_ | refine xw ?_
        first | refine lAf ?_ | refine lAb ?_ | refine lAo ?_
        refine mv ?_
        refine mv ?_
        first | refine xs_ ?_ | refine xo ?_ | refine xw ?_
        first | refine lAf ?_ | refine lAb ?_ | refine lAo ?_
        refine cl (c12 x0 x) ?_
        refine bn ?_
        refine pkF ?_
        refine rNil ⟨rfl, ?_⟩
        refine cn (fun h4 => ?_) (fun h4 => ?_)
        ·
          simp at h4 -- END
        ·
          refine awp_skip ?_
          refine bn_ ?_
          refine tn ?_
          refine rg ?_
          refine mv ?_
          refine bo ?_
          refine as_ ?_
          refine rNil ?_
          refine tn ?_
          exact ⟨l.length - (k + 1), by omega, wx 1 ⟨k + 1, by omega, by omega, rfl⟩⟩ -- LEAF 2: round of loop 1
    ·
      refine awp_exit ?_
      refine te ?_
      refine te ?_
      refine xbk ?_
      refine tn ?_
      refine sd mixO ?_
      first | refine lAf ?_ | refine lAb ?_ | refine lAo ?_
      refine cl (c14 r) ?_
      first | refine lAf ?_ | refine lAb ?_ | refine lAo ?_
      refine cl (c15 r) ?_
      refine ei ?_
      refine mv ?_
      refine gd (fun h5 => ?_) (fun h5 => ?_)
      ·
        refine mv ?_
        refine cl (c16 l hl) ?_
        refine mv ?_
        refine cl (c17 l hl) ?_
        refine bo ?_
        refine pkT ?_
        refine mv ?_
        refine gd (fun h6 => ?_) (fun h6 => ?_)
        ·
          refine cl (c8) ?_
          refine pkT ?_
          refine as_ ?_
          refine rNil ⟨rfl, ?_⟩
          refine awp_ret ?_
          exact ⟨.inr rfl, _, (.cons (by first | exact .v (by ((repeat apply Look.there rfl); exact Look.here)) (.f (.v _)) | exact .v (by ((repeat apply Look.there rfl); exact Look.here)) (.row rfl rfl) | exact .v (by ((repeat apply Look.there rfl); exact Look.here)) (.f .nil) | exact .a (by ((repeat apply Look.there rfl); exact Look.here)) | skip) .nil), rfl⟩ -- LEAF 3: ret
        ·
          simp at h6 -- END
      ·
        simp at h5 -- END

end Go.Proofs.Ytlaaigljlhkdpaa.VS
