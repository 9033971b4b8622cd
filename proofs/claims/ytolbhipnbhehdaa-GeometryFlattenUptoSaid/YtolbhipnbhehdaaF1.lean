/- The walks of functions: what each computes, by itself. Conditions: none. -/
import Derived.Test.YtolbhipnbhehdaaT
import Derived.Test.YtolbhipnbhehdaaV15
set_option linter.unusedVariables false
set_option linter.unusedSimpArgs false
namespace Go.Proofs.Ytolbhipnbhehdaa.VS
open Go
def clamp (x lo hi : Int) : Int := mx (mn x hi) lo
/-- frustum/fixed.Clamp -/
theorem c38 (x lo hi : Int) : Fn Try.prog 38 [I x, I lo, I hi] (.one (I (clamp x lo hi))) := by
  refine fnI Try.func38 Try.ntmps38 fun hb => ?_
  refine sg ?_
  refine as_ ?_
  refine rNil ?_
  refine sg ?_
  refine mv ?_
  refine mv ?_
  refine mn2 ?_
  refine mv ?_
  refine mx2 ?_
  refine as_ ?_
  refine rNil ?_
  refine awp_ret ?_
  exact ⟨.inr rfl, _, (.cons (by first | exact .v (by ((repeat apply Look.there rfl); exact Look.here)) (.f (.v _)) | exact .v (by ((repeat apply Look.there rfl); exact Look.here)) (.row rfl rfl) | exact .v (by ((repeat apply Look.there rfl); exact Look.here)) (.f .nil) | exact .a (by ((repeat apply Look.there rfl); exact Look.here)) | skip) .nil), rfl⟩ -- LEAF 1: ret

abbrev sat (x : Int) : Int := clamp x (-536870911) 536870911
/-- frustum/fixed.Saturate -/
theorem c29 (x : Int) : Fn Try.prog 29 [I x] (.one (I (sat x))) := by
  refine fnI Try.func29 Try.ntmps29 fun hb => ?_
  refine sg ?_
  refine as_ ?_
  refine rNil ?_
  refine sg ?_
  refine mv ?_
  refine cl (c38 _ _ _) ?_
  refine as_ ?_
  refine rNil ?_
  refine awp_ret ?_
  exact ⟨.inr rfl, _, (.cons (by first | exact .v (by ((repeat apply Look.there rfl); exact Look.here)) (.f (.v _)) | exact .v (by ((repeat apply Look.there rfl); exact Look.here)) (.row rfl rfl) | exact .v (by ((repeat apply Look.there rfl); exact Look.here)) (.f .nil) | exact .a (by ((repeat apply Look.there rfl); exact Look.here)) | skip) .nil), rfl⟩ -- LEAF 1: ret

/-- frustum/frustumref01.Clamp -/
theorem c39 (x lo hi : Int) : Fn Try.prog 39 [I x, I lo, I hi] (.one (I (clamp x lo hi))) := by
  refine fnI Try.func39 Try.ntmps39 fun hb => ?_
  refine sg ?_
  refine as_ ?_
  refine rNil ?_
  refine sq ?_
  refine sg ?_
  refine mv ?_
  refine mv ?_
  refine bo ?_
  refine mv ?_
  refine gd (fun h1 => ?_) (fun h1 => ?_)
  ·
    refine no ?_
    refine no ?_
    refine no ?_
    refine pkT ?_
    refine rNil ?_
    refine cn (fun h2 => ?_) (fun h2 => ?_)
    ·
      refine sg ?_
      refine mv ?_
      refine as_ ?_
      refine rNil ?_
      refine awp_ret ?_
      refine tr ?_
      exact ⟨.inr rfl, _, (.cons (by first | exact .v (by ((repeat apply Look.there rfl); exact Look.here)) (.f (.v _)) | exact .v (by ((repeat apply Look.there rfl); exact Look.here)) (.row rfl rfl) | exact .v (by ((repeat apply Look.there rfl); exact Look.here)) (.f .nil) | exact .a (by ((repeat apply Look.there rfl); exact Look.here)) | skip) .nil), oneI (by simp only [clamp, mx, mn, decide_eq_true_eq, decide_eq_false_iff_not] at *; repeat (first | omega | split))⟩ -- LEAF 1: ret
    ·
      exact absurd h2 (by decide)
  ·
    refine mv ?_
    refine mv ?_
    refine bo ?_
    refine pkF ?_
    refine rNil ?_
    refine cn (fun h3 => ?_) (fun h3 => ?_)
    ·
      refine sg ?_
      refine mv ?_
      refine as_ ?_
      refine rNil ?_
      refine awp_ret ?_
      refine tr ?_
      exact ⟨.inr rfl, _, (.cons (by first | exact .v (by ((repeat apply Look.there rfl); exact Look.here)) (.f (.v _)) | exact .v (by ((repeat apply Look.there rfl); exact Look.here)) (.row rfl rfl) | exact .v (by ((repeat apply Look.there rfl); exact Look.here)) (.f .nil) | exact .a (by ((repeat apply Look.there rfl); exact Look.here)) | skip) .nil), oneI (by simp only [clamp, mx, mn, decide_eq_true_eq, decide_eq_false_iff_not] at *; repeat (first | omega | split))⟩ -- LEAF 2: ret
    ·
      refine awp_skip ?_
      refine tn ?_
      refine sq ?_
      refine sg ?_
      refine mv ?_
      refine mv ?_
      refine bo ?_
      refine rNil ?_
      refine cn (fun h4 => ?_) (fun h4 => ?_)
      ·
        refine sg ?_
        refine mv ?_
        refine as_ ?_
        refine rNil ?_
        refine awp_ret ?_
        refine tr ?_
        exact ⟨.inr rfl, _, (.cons (by first | exact .v (by ((repeat apply Look.there rfl); exact Look.here)) (.f (.v _)) | exact .v (by ((repeat apply Look.there rfl); exact Look.here)) (.row rfl rfl) | exact .v (by ((repeat apply Look.there rfl); exact Look.here)) (.f .nil) | exact .a (by ((repeat apply Look.there rfl); exact Look.here)) | skip) .nil), oneI (by simp only [clamp, mx, mn, decide_eq_true_eq, decide_eq_false_iff_not] at *; repeat (first | omega | split))⟩ -- LEAF 3: ret
      ·
        refine awp_skip ?_
        refine tn ?_
        refine sg ?_
        refine mv ?_
        refine as_ ?_
        refine rNil ?_
        refine awp_ret ?_
        exact ⟨.inr rfl, _, (.cons (by first | exact .v (by ((repeat apply Look.there rfl); exact Look.here)) (.f (.v _)) | exact .v (by ((repeat apply Look.there rfl); exact Look.here)) (.row rfl rfl) | exact .v (by ((repeat apply Look.there rfl); exact Look.here)) (.f .nil) | exact .a (by ((repeat apply Look.there rfl); exact Look.here)) | skip) .nil), oneI (by simp only [clamp, mx, mn, decide_eq_true_eq, decide_eq_false_iff_not] at *; repeat (first | omega | split))⟩ -- LEAF 4: ret

/-- frustum/frustumref01.Saturate -/
theorem c30 (x : Int) : Fn Try.prog 30 [I x] (.one (I (sat x))) := by
  refine fnI Try.func30 Try.ntmps30 fun hb => ?_
  refine sg ?_
  refine as_ ?_
  refine rNil ?_
  refine sg ?_
  refine mv ?_
  refine cl (c39 _ _ _) ?_
  refine as_ ?_
  refine rNil ?_
  refine awp_ret ?_
  exact ⟨.inr rfl, _, (.cons (by first | exact .v (by ((repeat apply Look.there rfl); exact Look.here)) (.f (.v _)) | exact .v (by ((repeat apply Look.there rfl); exact Look.here)) (.row rfl rfl) | exact .v (by ((repeat apply Look.there rfl); exact Look.here)) (.f .nil) | exact .a (by ((repeat apply Look.there rfl); exact Look.here)) | skip) .nil), rfl⟩ -- LEAF 1: ret

theorem take_get {α : Type} {a b : List α} {k : Nat} {x y : α} (h : a.take k = b.take k) (ha : a[k]? = some x) (hb : b[k]? = some y) (e : x = y) : a.take (k + 1) = b.take (k + 1) := by
  rw [List.take_add_one, List.take_add_one, h, ha, hb, e]
theorem ne_get {α : Type} {a b : List α} {k : Nat} {x y : α} (ha : a[k]? = some x) (hb : b[k]? = some y) (e : x ≠ y) : a ≠ b := by
  rintro rfl; rw [ha] at hb; exact e (Option.some.inj hb)
theorem ex_get {α : Type} {a : List α} {k : Nat} (h : k < a.length) : ∃ x, a[k]? = some x := ⟨a[k], by simp [h]⟩
theorem take_all {α : Type} {a b : List α} {k : Nat} (h : a.take k = b.take k) (h1 : a.length ≤ k) (h2 : b.length ≤ k) : a = b := by
  rwa [List.take_of_length_le h1, List.take_of_length_le h2] at h
/-- frustum/frustumref05.SameInts -/
theorem c28 (a b : List Int) : Fn Try.prog 28 [L a, L b] (.one (B (a == b))) := by
  refine fnI Try.func28 Try.ntmps28 fun hb => ?_
  have hla := bd_L (f := Enc.c) (l := a) hb (by simp)
  have hlb := bd_L (f := Enc.c) (l := b) hb (by simp)
  refine sg ?_
  refine as_ ?_
  refine rNil ?_
  refine sq ?_
  refine sg ?_
  refine mv ?_
  first | refine lnM ?_ | refine ln ?_ | refine lnO ?_ | refine lnN ?_ | refine lnW ?_
  refine mv ?_
  first | refine lnM ?_ | refine ln ?_ | refine lnO ?_ | refine lnN ?_ | refine lnW ?_
  refine bo ?_
  refine rNil ?_
  refine cn (fun h1 => ?_) (fun h1 => ?_)
  ·
    refine sg ?_
    refine as_ ?_
    refine rNil ?_
    refine awp_ret ?_
    refine tr ?_
    exact ⟨.inr rfl, _, .cons (.v (by ((repeat apply Look.there rfl); exact Look.here)) (.f (.v _))) .nil, oneB (by
      have : a ≠ b := by rintro rfl; simp at h1
      simp [this])⟩ -- LEAF 1: ret
  ·
    refine awp_skip ?_
    refine tn ?_
    refine sq ?_
    refine sg ?_
    refine as_ ?_
    refine rNil ?_
    refine bk ?_
    have hl : a.length = b.length := by simp at h1; omega
    refine lp (fun n S => ∃ k : Nat, n = a.length - k ∧ k ≤ a.length ∧ a.take k = b.take k ∧ S = ⟨[(5, .r (I k)), (0, .r (L a)), (1, .r (L b))], []⟩) a.length ?_ ?_
    · exact wx 0 ⟨0, rfl, by omega, rfl, rfl⟩
    rintro n S ⟨k, hn, hk, ht, rfl⟩
    refine sq ?_
    refine sg ?_
    refine mv ?_
    refine mv ?_
    first | refine lnM ?_ | refine ln ?_ | refine lnO ?_ | refine lnN ?_ | refine lnW ?_
    refine bo ?_
    refine rNil ?_
    refine cn (fun h2 => ?_) (fun h2 => ?_)
    ·
      have hk' : k < a.length := by simp at h2; omega
      obtain ⟨x, hx⟩ := ex_get hk'
      obtain ⟨y, hy⟩ := ex_get (show k < b.length by omega)
      refine awp_skip ?_
      refine tn ?_
      refine sq ?_
      refine bk ?_
      refine sd mixO ?_
      refine mv ?_
      refine mv ?_
      first | refine xs_ ?_ | refine xo ?_ | refine xw ?_
      first | refine l1f ?_ | refine l1b ?_ | refine l1o ?_
      refine mv ?_
      refine mv ?_
      first | refine xs_ ?_ | refine xo ?_ | refine xw ?_
      first | refine l1f ?_ | refine l1b ?_ | refine l1o ?_
      refine bo ?_
      refine rNil ⟨rfl, ?_⟩
      refine cn (fun h3 => ?_) (fun h3 => ?_)
      ·
        refine sg ?_
        refine as_ ?_
        refine rNil ?_
        refine awp_ret ?_
        refine br ?_
        refine tr ?_
        refine tr ?_
        refine br ?_
        refine tr ?_
        exact ⟨.inr rfl, _, .cons (.v (by ((repeat apply Look.there rfl); exact Look.here)) (.f (.v _))) .nil, oneB (by
          have : a ≠ b := ne_get hx hy (by simpa using h3)
          simp [this])⟩ -- LEAF 2: ret
      ·
        refine awp_skip ?_
        refine bn_ ?_
        refine tn ?_
        refine rg ?_
        refine mv ?_
        refine bo ?_
        refine as_ ?_
        refine rNil ?_
        refine tn ?_
        exact ⟨a.length - (k + 1), by omega, wx 0 ⟨k + 1, rfl, by omega, take_get ht hx hy (by simpa using h3), rfl⟩⟩ -- LEAF 3: round of loop 1
    ·
      refine awp_exit ?_
      refine te ?_
      refine te ?_
      refine xbk ?_
      refine tn ?_
      refine sg ?_
      refine as_ ?_
      refine rNil ?_
      refine awp_ret ?_
      exact ⟨.inr rfl, _, .cons (.v (by ((repeat apply Look.there rfl); exact Look.here)) (.f (.v _))) .nil, oneB (by
        have : a = b := take_all ht (by simp at h2; omega) (by simp at h2; omega)
        simp [this])⟩ -- LEAF 4: ret

/-- slices.Equal[[]int,int] -/
theorem c31 (a b : List Int) : Fn Try.prog 31 [L a, L b] (.one (B (a == b))) := by
  refine fnI Try.func31 Try.ntmps31 fun hb => ?_
  have hla := bd_L (f := Enc.c) (l := a) hb (by simp)
  have hlb := bd_L (f := Enc.c) (l := b) hb (by simp)
  refine sg ?_
  refine as_ ?_
  refine rNil ?_
  refine sq ?_
  refine sg ?_
  refine mv ?_
  first | refine lnM ?_ | refine ln ?_ | refine lnO ?_ | refine lnN ?_ | refine lnW ?_
  refine mv ?_
  first | refine lnM ?_ | refine ln ?_ | refine lnO ?_ | refine lnN ?_ | refine lnW ?_
  refine bo ?_
  refine rNil ?_
  refine cn (fun h1 => ?_) (fun h1 => ?_)
  ·
    refine sg ?_
    refine as_ ?_
    refine rNil ?_
    refine awp_ret ?_
    refine tr ?_
    exact ⟨.inr rfl, _, .cons (.v (by ((repeat apply Look.there rfl); exact Look.here)) (.f (.v _))) .nil, oneB (by
      have : a ≠ b := by rintro rfl; simp at h1
      simp [this])⟩ -- LEAF 1: ret
  ·
    refine awp_skip ?_
    refine tn ?_
    refine sq ?_
    refine sg ?_
    refine mv ?_
    first | refine lnM ?_ | refine ln ?_ | refine lnO ?_ | refine lnN ?_ | refine lnW ?_
    refine mv ?_
    refine rNil ?_
    refine bk ?_
    have hl : a.length = b.length := by simp at h1; omega
    refine lp (fun n S => ∃ k : Nat, n = a.length - k ∧ k ≤ a.length ∧ a.take k = b.take k ∧ S = ⟨[(13, .r (I k)), (12, .r (I a.length)), (0, .r (L a)), (1, .r (L b))], []⟩) a.length ?_ ?_
    · exact wx 0 ⟨0, rfl, by omega, rfl, rfl⟩
    rintro n S ⟨k, hn, hk, ht, rfl⟩
    refine sg ?_
    refine bo ?_
    refine rNil ?_
    refine sq ?_
    refine cn (fun h2 => ?_) (fun h2 => ?_)
    ·
      have hk' : k < a.length := by simp at h2; omega
      obtain ⟨x, hx⟩ := ex_get hk'
      obtain ⟨y, hy⟩ := ex_get (show k < b.length by omega)
      refine awp_skip ?_
      refine tn ?_
      refine sq ?_
      refine bk ?_
      refine sg ?_
      refine mv ?_
      refine as_ ?_
      refine rNil ?_
      refine sd mixO ?_
      refine mv ?_
      refine mv ?_
      first | refine xs_ ?_ | refine xo ?_ | refine xw ?_
      first | refine l1f ?_ | refine l1b ?_ | refine l1o ?_
      refine mv ?_
      refine mv ?_
      first | refine xs_ ?_ | refine xo ?_ | refine xw ?_
      first | refine l1f ?_ | refine l1b ?_ | refine l1o ?_
      refine bo ?_
      refine rNil ⟨rfl, ?_⟩
      refine cn (fun h3 => ?_) (fun h3 => ?_)
      ·
        refine sg ?_
        refine as_ ?_
        refine rNil ?_
        refine awp_ret ?_
        refine br ?_
        refine tr ?_
        refine tr ?_
        refine br ?_
        refine tr ?_
        exact ⟨.inr rfl, _, .cons (.v (by ((repeat apply Look.there rfl); exact Look.here)) (.f (.v _))) .nil, oneB (by
          have : a ≠ b := ne_get hx hy (by simpa using h3)
          simp [this])⟩ -- LEAF 2: ret
      ·
        refine awp_skip ?_
        refine bn_ ?_
        refine tn ?_
        refine rg ?_
        refine bo ?_
        refine mv ?_
        refine rNil ?_
        refine tn ?_
        exact ⟨a.length - (k + 1), by omega, wx 0 ⟨k + 1, rfl, by omega, take_get ht hx hy (by simpa using h3), rfl⟩⟩ -- LEAF 3: round of loop 1
    ·
      refine awp_exit ?_
      refine te ?_
      refine te ?_
      refine xbk ?_
      refine tn ?_
      refine sg ?_
      refine as_ ?_
      refine rNil ?_
      refine awp_ret ?_
      exact ⟨.inr rfl, _, .cons (.v (by ((repeat apply Look.there rfl); exact Look.here)) (.f (.v _))) .nil, oneB (by
        have : a = b := take_all ht (by simp at h2; omega) (by simp at h2; omega)
        simp [this])⟩ -- LEAF 4: ret

structure V where
  x : Int
  y : Int
  z : Int
  w : Int
  vs : List Int
instance : Enc V := ⟨fun v => [.i .i64 v.x, .i .i64 v.y, .i .i64 v.z, .i .i64 v.w, .sl (v.vs.map Enc.c)]⟩
def eqV (a b : V) : Bool := ([a.x, a.y, a.z, a.w] == [b.x, b.y, b.z, b.w]) && (a.vs == b.vs)
theorem eqV_iff {a b : V} : eqV a b = true ↔ a = b := by
  obtain ⟨x, y, z, w, vs⟩ := a
  obtain ⟨x', y', z', w', vs'⟩ := b
  simp [eqV]
  constructor
  · rintro ⟨⟨rfl, rfl, rfl, rfl⟩, rfl⟩; exact ⟨rfl, rfl, rfl, rfl, rfl⟩
  · rintro ⟨rfl, rfl, rfl, rfl, rfl⟩; exact ⟨⟨rfl, rfl, rfl, rfl⟩, rfl⟩
/-- frustum/frustumref29.Equal -/
theorem c9 (a b : V) : Fn Try.prog 9 [A a, A b] (.one (B (eqV a b))) := by
  refine fnI Try.func9 Try.ntmps9 fun hb => ?_
  refine sg ?_
  refine bx _ ?_
  refine bx _ ?_
  refine as_ ?_
  refine rNil ?_
  refine sg ?_
  first | refine ff ?_ | refine fb ?_ | refine fo ?_
  first | refine lAf ?_ | refine lAb ?_ | refine lAo ?_
  first | refine ff ?_ | refine fb ?_ | refine fo ?_
  first | refine lAf ?_ | refine lAb ?_ | refine lAo ?_
  refine ei ?_
  refine mv ?_
  refine gd (fun h1 => ?_) (fun h1 => ?_)
  ·
    first | refine ff ?_ | refine fb ?_ | refine fo ?_
    first | refine l1f ?_ | refine l1b ?_ | refine l1o ?_
    first | refine ff ?_ | refine fb ?_ | refine fo ?_
    first | refine l1f ?_ | refine l1b ?_ | refine l1o ?_
    refine cl (c28 _ _) ?_
    refine pkT ?_
    refine as_ ?_
    refine rNil ?_
    refine awp_ret ?_
    exact ⟨.inr rfl, _, (.cons (by first | exact .v (by ((repeat apply Look.there rfl); exact Look.here)) (.f (.v _)) | exact .v (by ((repeat apply Look.there rfl); exact Look.here)) (.row rfl rfl) | exact .v (by ((repeat apply Look.there rfl); exact Look.here)) (.f .nil) | exact .a (by ((repeat apply Look.there rfl); exact Look.here)) | skip) .nil), oneB (by simp only [eqV, h1, Bool.true_and, Bool.false_and])⟩ -- LEAF 1: ret
  ·
    refine no ?_
    refine no ?_
    refine no ?_
    refine no ?_
    refine no ?_
    refine pkF ?_
    refine as_ ?_
    refine rNil ?_
    refine awp_ret ?_
    exact ⟨.inr rfl, _, (.cons (by first | exact .v (by ((repeat apply Look.there rfl); exact Look.here)) (.f (.v _)) | exact .v (by ((repeat apply Look.there rfl); exact Look.here)) (.row rfl rfl) | exact .v (by ((repeat apply Look.there rfl); exact Look.here)) (.f .nil) | exact .a (by ((repeat apply Look.there rfl); exact Look.here)) | skip) .nil), oneB (by simp only [eqV, h1, Bool.true_and, Bool.false_and])⟩ -- LEAF 2: ret

/-- frustum/vertexstage.Equal -/
theorem c12 (a b : V) : Fn Try.prog 12 [A a, A b] (.one (B (eqV a b))) := by
  refine fnI Try.func12 Try.ntmps12 fun hb => ?_
  refine sg ?_
  refine bx _ ?_
  refine bx _ ?_
  refine as_ ?_
  refine rNil ?_
  refine sg ?_
  first | refine ff ?_ | refine fb ?_ | refine fo ?_
  first | refine lAf ?_ | refine lAb ?_ | refine lAo ?_
  first | refine ff ?_ | refine fb ?_ | refine fo ?_
  first | refine lAf ?_ | refine lAb ?_ | refine lAo ?_
  refine ei ?_
  refine mv ?_
  refine gd (fun h1 => ?_) (fun h1 => ?_)
  ·
    first | refine ff ?_ | refine fb ?_ | refine fo ?_
    first | refine l1f ?_ | refine l1b ?_ | refine l1o ?_
    first | refine ff ?_ | refine fb ?_ | refine fo ?_
    first | refine l1f ?_ | refine l1b ?_ | refine l1o ?_
    refine cl (c31 _ _) ?_
    refine pkT ?_
    refine as_ ?_
    refine rNil ?_
    refine awp_ret ?_
    exact ⟨.inr rfl, _, (.cons (by first | exact .v (by ((repeat apply Look.there rfl); exact Look.here)) (.f (.v _)) | exact .v (by ((repeat apply Look.there rfl); exact Look.here)) (.row rfl rfl) | exact .v (by ((repeat apply Look.there rfl); exact Look.here)) (.f .nil) | exact .a (by ((repeat apply Look.there rfl); exact Look.here)) | skip) .nil), oneB (by simp only [eqV, h1, Bool.true_and, Bool.false_and])⟩ -- LEAF 1: ret
  ·
    refine no ?_
    refine no ?_
    refine no ?_
    refine no ?_
    refine no ?_
    refine pkF ?_
    refine as_ ?_
    refine rNil ?_
    refine awp_ret ?_
    exact ⟨.inr rfl, _, (.cons (by first | exact .v (by ((repeat apply Look.there rfl); exact Look.here)) (.f (.v _)) | exact .v (by ((repeat apply Look.there rfl); exact Look.here)) (.row rfl rfl) | exact .v (by ((repeat apply Look.there rfl); exact Look.here)) (.f .nil) | exact .a (by ((repeat apply Look.there rfl); exact Look.here)) | skip) .nil), oneB (by simp only [eqV, h1, Bool.true_and, Bool.false_and])⟩ -- LEAF 2: ret

theorem len2 {α : Type} {p : List α} (h : p.length = 2) : ∃ a b, p = [a, b] := by
  match p, h with
  | [a, b], _ => exact ⟨a, b, rfl⟩
theorem len3 {α : Type} {p : List α} (h : p.length = 3) : ∃ a b c, p = [a, b, c] := by
  match p, h with
  | [a, b, c], _ => exact ⟨a, b, c, rfl⟩
theorem len4 {α : Type} {p : List α} (h : 4 ≤ p.length) : ∃ a b c d r, p = a :: b :: c :: d :: r := by
  match p, h with
  | a :: b :: c :: d :: r, _ => exact ⟨a, b, c, d, r, rfl⟩
  | [a, b, c], h => simp at h
  | [a, b], h => simp at h
  | [a], h => simp at h
  | [], h => simp at h
def vof (l : List Int) : V := ⟨l.getD 0 0, l.getD 1 0, l.getD 2 0, l.getD 3 0, l.drop 4⟩
/-- frustum/vertexstage.VertexOf -/
theorem c10 (l : List Int) (hl : l.length ≤ 17592186044416) : Fn Try.prog 10 [L l] (.one (A (vof (l.map sat)))) := by
  refine fnI Try.func10 Try.ntmps10 fun hb => ?_
  refine sg ?_
  refine al _ ?_
  refine rNil ?_
  refine sg ?_
  refine al _ ?_
  refine rNil ?_
  refine sq ?_
  refine sg ?_
  refine mv ?_
  first | refine lnM ?_ | refine ln ?_ | refine lnO ?_ | refine lnN ?_ | refine lnW ?_
  refine mv ?_
  refine rNil ?_
  refine bk ?_
  refine adB 2 1 3 1 4 26 ?_
  refine lp (fun n S => ∃ (p q : List Int) (k : Nat), l.map sat = p ++ q ∧ n = q.length ∧ p.length = k ∧ S = ⟨[(8, .r (I k)), (7, .r (I l.length)), (6, .r (L l)), (2, .box 0 0), (3, .box 1 0)],
    [.box 26 [.r (I 0), .r (I 0), .r (I 0), .r (I 0), .nil], .box 26 [.r (I (p.getD 0 0)), .r (I (p.getD 1 0)), .r (I (p.getD 2 0)), .r (I (p.getD 3 0)), .own 2 (p.drop 4).length], .row 3 1 ((p.drop 4).map Enc.c)]⟩) l.length ?_ ?_
  · exact wx 3 ⟨[], l.map sat, 0, rfl, by simp, rfl, rfl⟩
  rintro n S ⟨p, q, k, hpq, hn, hk, rfl⟩
  have hlen : l.length = p.length + q.length := by have := congrArg List.length hpq; simpa using this
  refine sg ?_
  refine bo ?_
  refine rNil ?_
  refine sq ?_
  refine cn (fun h1 => ?_) (fun h1 => ?_)
  ·
    obtain ⟨v, q, rfl⟩ : ∃ v q', q = v :: q' := by
      cases q with
      | nil => simp at h1 hlen; omega
      | cons v q => exact ⟨v, q, rfl⟩
    simp only [List.length_cons] at hlen hn
    obtain ⟨x, hx, hv⟩ : ∃ x, l[k]? = some x ∧ sat x = v := by
      have : (l.map sat)[k]? = some v := by rw [hpq, ← hk]; simp
      simpa using this
    have hq' : l.map sat = (p ++ [v]) ++ q := by rw [hpq]; simp
    refine awp_skip ?_
    refine tn ?_
    refine sq ?_
    refine bk ?_
    refine sg ?_
    refine mv ?_
    first | refine xs_ ?_ | refine xo ?_ | refine xw ?_
    first | refine l1f ?_ | refine l1b ?_ | refine l1o ?_
    refine as_ ?_
    refine as_ ?_
    refine rNil ?_
    refine sg ?_
    refine mv ?_
    refine cl (c29 _) ?_
    refine as_ ?_
    refine rNil ?_
    refine sg ?_
    refine mv ?_
    refine rNil ?_
    refine bk ?_
    refine sg ?_
    refine bo ?_
    refine as_ ?_
    refine rNil ?_
    refine cn (fun h2 => ?_) (fun h2 => ?_)
    ·
      obtain rfl : p = [] := by have : p.length = 0 := by simp at h2; omega
                                exact List.eq_nil_of_length_eq_zero this
      refine rg ?_
      refine mv ?_
      first | refine ff ?_ | refine fb ?_ | refine fo ?_
      first | refine ff ?_ | refine fb ?_ | refine fo ?_
      first | refine s1 ?_ | refine s1w ?_
      refine rNil ?_
      refine bn_ ?_
      refine bn_ ?_
      refine tn ?_
      refine rg ?_
      refine bo ?_
      refine mv ?_
      refine rNil ?_
      refine tn ?_
      subst hv
      exact ⟨q.length, by omega, wx 3 ⟨[sat x], q, k + 1, hq', rfl, by simp at hk ⊢; omega, rfl⟩⟩ -- LEAF 1: round of loop 1
    ·
      refine sg ?_
      refine bo ?_
      refine as_ ?_
      refine rNil ?_
      refine cn (fun h3 => ?_) (fun h3 => ?_)
      ·
        obtain ⟨a, rfl⟩ : ∃ a, p = [a] := by
          have : p.length = 1 := by simp at h3; omega
          exact List.length_eq_one_iff.1 this
        refine rg ?_
        refine mv ?_
        first | refine ff ?_ | refine fb ?_ | refine fo ?_
        first | refine ff ?_ | refine fb ?_ | refine fo ?_
        first | refine s1 ?_ | refine s1w ?_
        refine rNil ?_
        refine bn_ ?_
        refine bn_ ?_
        refine tn ?_
        refine rg ?_
        refine bo ?_
        refine mv ?_
        refine rNil ?_
        refine tn ?_
        subst hv
        exact ⟨q.length, by omega, wx 3 ⟨[a, sat x], q, k + 1, hq', rfl, by simp at hk ⊢; omega, rfl⟩⟩ -- LEAF 2: round of loop 1
      ·
        refine sg ?_
        refine bo ?_
        refine as_ ?_
        refine rNil ?_
        refine cn (fun h4 => ?_) (fun h4 => ?_)
        ·
          obtain ⟨a, b, rfl⟩ : ∃ a b, p = [a, b] := by
            have : p.length = 2 := by simp at h4; omega
            exact len2 this
          refine rg ?_
          refine mv ?_
          first | refine ff ?_ | refine fb ?_ | refine fo ?_
          first | refine ff ?_ | refine fb ?_ | refine fo ?_
          first | refine s1 ?_ | refine s1w ?_
          refine rNil ?_
          refine bn_ ?_
          refine bn_ ?_
          refine tn ?_
          refine rg ?_
          refine bo ?_
          refine mv ?_
          refine rNil ?_
          refine tn ?_
          subst hv
          exact ⟨q.length, by omega, wx 3 ⟨[a, b, sat x], q, k + 1, hq', rfl, by simp at hk ⊢; omega, rfl⟩⟩ -- LEAF 3: round of loop 1
        ·
          refine sg ?_
          refine bo ?_
          refine as_ ?_
          refine rNil ?_
          refine cn (fun h5 => ?_) (fun h5 => ?_)
          ·
            obtain ⟨a, b, c, rfl⟩ : ∃ a b c, p = [a, b, c] := by
              have : p.length = 3 := by simp at h5; omega
              exact len3 this
            refine rg ?_
            refine mv ?_
            first | refine ff ?_ | refine fb ?_ | refine fo ?_
            first | refine ff ?_ | refine fb ?_ | refine fo ?_
            first | refine s1 ?_ | refine s1w ?_
            refine rNil ?_
            refine bn_ ?_
            refine bn_ ?_
            refine tn ?_
            refine rg ?_
            refine bo ?_
            refine mv ?_
            refine rNil ?_
            refine tn ?_
            subst hv
            exact ⟨q.length, by omega, wx 3 ⟨[a, b, c, sat x], q, k + 1, hq', rfl, by simp at hk ⊢; omega, rfl⟩⟩ -- LEAF 4: round of loop 1
          ·
            obtain ⟨a, b, c, d, r, rfl⟩ : ∃ a b c d r, p = a :: b :: c :: d :: r := by
              simp at h2 h3 h4 h5
              exact len4 (by omega)
            simp only [List.length_cons] at hlen hk
            show AWP _ _ _ _ ⟨_, [_, .box 26 [.r (I a), .r (I b), .r (I c), .r (I d), .own 2 r.length], .row 3 1 (r.map Enc.c)]⟩
            refine rg ?_
            first | refine ff ?_ | refine fb ?_ | refine fo ?_
            first | refine l1f ?_ | refine l1b ?_ | refine l1o ?_
            refine mv ?_
            refine bs ?_
            first | refine ap ?_ | refine (apN _) ?_
            first | refine ff ?_ | refine fb ?_ | refine fo ?_
            first | refine s1 ?_ | refine s1w ?_
            refine rNil ?_
            refine bn_ ?_
            refine bn_ ?_
            refine tn ?_
            refine rg ?_
            refine bo ?_
            refine mv ?_
            refine rNil ?_
            refine tn ?_
            subst hv
            exact ⟨q.length, by omega, wy 3 ⟨a :: b :: c :: d :: (r ++ [sat x]), q, k + 1, hq', rfl, by simp at hk ⊢; omega, rfl⟩ (by simp [Enc.c, RV.flat])⟩ -- LEAF 5: round of loop 1
  ·
    refine awp_exit ?_
    refine te ?_
    refine te ?_
    refine xbk ?_
    refine tn ?_
    refine fz 2 ?_
    refine sg ?_
    refine lAbF 1 [2] ?_
    refine sA ?_
    refine rNil ?_
    refine awp_ret ?_
    obtain rfl : q = [] := by
      have : q.length = 0 := by simp at h1; omega
      exact List.eq_nil_of_length_eq_zero this
    rw [List.append_nil] at hpq
    exact ⟨.inr rfl, _, (.cons (resC (by ((repeat apply Look.there rfl); exact Look.here)) (by exact rfl) (by exact rfl) (by ((repeat (apply All2.cons; first | exact .f (.v _) | exact .row rfl (by first | exact rfl | simp) | exact .f .nil | exact .f (.fro rfl (by first | exact rfl | simp)))); exact All2.nil))) .nil), by rw [hpq]; rfl⟩ -- LEAF 6: ret

def pad (m : List Int) : List Int := m ++ List.replicate (4 - m.length) 0
theorem pad_eq (m : List Int) : ∃ a b c d r, pad m = a :: b :: c :: d :: r ∧ vof m = ⟨a, b, c, d, r⟩ := by
  match m with
  | a :: b :: c :: d :: r => exact ⟨a, b, c, d, r, by simp [pad], rfl⟩
  | [a, b, c] => exact ⟨a, b, c, 0, [], rfl, rfl⟩
  | [a, b] => exact ⟨a, b, 0, 0, [], rfl, rfl⟩
  | [a] => exact ⟨a, 0, 0, 0, [], rfl, rfl⟩
  | [] => exact ⟨0, 0, 0, 0, [], rfl, rfl⟩
theorem take_snoc {α : Type} {l : List α} {k : Nat} {x : α} (h : l[k]? = some x) : l.take (k + 1) = l.take k ++ [x] := by
  rw [List.take_add_one, h]; rfl
/-- frustum/frustumref29.VertexOf -/
theorem c11 (l : List Int) (hl : l.length ≤ 17592186044412) : Fn Try.prog 11 [L l] (.one (A (vof (l.map sat)))) := by
  refine fnI Try.func11 Try.ntmps11 fun hb => ?_
  refine sg ?_
  refine al _ ?_
  refine rNil ?_
  refine sg ?_
  refine (bsO _) ?_
  refine as_ ?_
  refine rNil ?_
  refine sq ?_
  refine sg ?_
  refine as_ ?_
  refine rNil ?_
  refine bk ?_
  refine lp (fun n S => ∃ (k : Nat), n = l.length - k ∧ k ≤ l.length ∧ S = ⟨[(4, .r (I k)), (3, .own 1 k), (0, .r (L l)), (2, .box 0 0)],
    [.box 26 [.r (I 0), .r (I 0), .r (I 0), .r (I 0), .nil], .row 3 1 (((l.take k).map sat).map Enc.c)]⟩) l.length ?_ ?_
  · exact wx 2 ⟨0, by omega, by omega, rfl⟩
  rintro n S ⟨k, hn, hk, rfl⟩
  refine sq ?_
  refine sg ?_
  refine mv ?_
  refine mv ?_
  first | refine lnM ?_ | refine ln ?_ | refine lnO ?_ | refine lnN ?_ | refine lnW ?_
  refine bo ?_
  refine rNil ?_
  refine cn (fun h1 => ?_) (fun h1 => ?_)
  ·
    obtain ⟨x, hx⟩ := ex_get (show k < l.length by simp at h1; omega)
    have hk1 : k < l.length := by simp at h1; omega
    have hmm : (l.take k).length = k := by rw [List.length_take]; omega
    have hkn : k = (((l.take k).map sat).map Enc.c).length := by rw [List.length_map, List.length_map, hmm]
    refine awp_skip ?_
    refine tn ?_
    refine sq ?_
    refine bk ?_
    refine rg ?_
    refine mv ?_
    refine mv ?_
    refine mv ?_
    first | refine xs_ ?_ | refine xo ?_ | refine xw ?_
    first | refine l1f ?_ | refine l1b ?_ | refine l1o ?_
    refine cl (c30 _) ?_
    refine bs ?_
    first | refine ap ?_ | refine (apN _) ?_
    refine as_ ?_
    refine rNil ?_
    refine bn_ ?_
    refine tn ?_
    refine rg ?_
    refine mv ?_
    refine bo ?_
    refine as_ ?_
    refine rNil ?_
    refine tn ?_
    exact ⟨l.length - (k + 1), by omega, wy 2 ⟨k + 1, rfl, by omega, rfl⟩ (by simp [Enc.c, RV.flat, take_snoc hx])⟩ -- LEAF 1: round of loop 1
  ·
    refine awp_exit ?_
    refine te ?_
    refine te ?_
    refine xbk ?_
    refine tn ?_
    refine sq ?_
    refine bk ?_
    obtain rfl : k = l.length := by simp at h1; omega
    rw [List.take_length]
    refine lp (fun n S => ∃ (j k : Nat), n = 4 - j ∧ (j = 0 ∨ l.length + j ≤ 4) ∧ k = l.length + j ∧ S = ⟨[(3, .own 1 k), (2, .box 0 0)],
      [.box 26 [.r (I 0), .r (I 0), .r (I 0), .r (I 0), .nil], .row 3 1 ((l.map sat ++ List.replicate j 0).map Enc.c)]⟩) 4 ?_ ?_
    · exact wy 2 ⟨0, l.length, by omega, .inl rfl, rfl, rfl⟩ (by simp)
    rintro n S ⟨j, k, hn, hj, hk, rfl⟩
    have hkn : k = ((l.map sat ++ List.replicate j 0).map Enc.c).length := by simp [hk]
    refine sq ?_
    refine sg ?_
    refine mv ?_
    first | refine lnM ?_ | refine ln ?_ | refine lnO ?_ | refine lnN ?_ | refine lnW ?_
    refine bo ?_
    refine rNil ?_
    refine cn (fun h2 => ?_) (fun h2 => ?_)
    ·
      refine awp_skip ?_
      refine tn ?_
      refine bk ?_
      refine rg ?_
      refine mv ?_
      refine bs ?_
      first | refine ap ?_ | refine (apN _) ?_
      refine as_ ?_
      refine rNil ?_
      refine bn_ ?_
      refine tn ?_
      exact ⟨4 - (j + 1), by simp at h2; omega, wy 2 ⟨j + 1, k + 1, rfl, by simp at h2; omega, by omega, rfl⟩ (by simp [Enc.c, RV.flat, List.replicate_succ', hk])⟩ -- LEAF 2: round of loop 2
    ·
      refine awp_exit ?_
      refine te ?_
      refine te ?_
      refine xbk ?_
      refine tn ?_
      obtain ⟨a, b, c, d, r, hp, hv⟩ := pad_eq (l.map sat)
      have hpp : l.map sat ++ List.replicate j 0 = a :: b :: c :: d :: r := by
        rw [← hp, pad]; congr 2; simp at h2 ⊢; omega
      rw [hpp] at hkn ⊢
      refine fz 1 ?_
      refine sd mixO ?_
      refine mv ?_
      first | refine xs_ ?_ | refine xo ?_ | refine xw ?_
      first | refine l1f ?_ | refine l1b ?_ | refine l1o ?_
      refine mv ?_
      first | refine xs_ ?_ | refine xo ?_ | refine xw ?_
      first | refine l1f ?_ | refine l1b ?_ | refine l1o ?_
      refine mv ?_
      first | refine xs_ ?_ | refine xo ?_ | refine xw ?_
      first | refine l1f ?_ | refine l1b ?_ | refine l1o ?_
      refine mv ?_
      first | refine xs_ ?_ | refine xo ?_ | refine xw ?_
      first | refine l1f ?_ | refine l1b ?_ | refine l1o ?_
      refine buS ?_
      refine buSz ?_
      refine al _ ?_
      refine sA ?_
      refine rNil ⟨rfl, ?_⟩
      refine sq ?_
      refine adB 3 2 3 1 4 26 ?_
      refine sg ?_
      refine as_ ?_
      refine rNil ?_
      refine bk ?_
      refine lp (fun n S => ∃ (i : Nat), n = r.length - i ∧ i ≤ r.length ∧ S = ⟨[(6, .r (I (4 + i : Nat))), (3, .own 1 k), (5, .box 2 0), (2, .box 0 0)],
        [.box 26 [.r (I 0), .r (I 0), .r (I 0), .r (I 0), .nil], .fro ((a :: b :: c :: d :: r).map Enc.c), .box 26 [.r (I a), .r (I b), .r (I c), .r (I d), .own 3 i], .row 3 1 ((r.take i).map Enc.c)]⟩) r.length ?_ ?_
      · exact wx 4 ⟨0, by omega, by omega, rfl⟩
      rintro n S ⟨i, hn, hi, rfl⟩
      have hrk : k = r.length + 4 := by simpa using hkn
      refine sq ?_
      refine sg ?_
      refine mv ?_
      refine mv ?_
      first | refine lnM ?_ | refine ln ?_ | refine lnO ?_ | refine lnN ?_ | refine lnW ?_
      refine bo ?_
      refine rNil ?_
      refine cn (fun h3 => ?_) (fun h3 => ?_)
      ·
        obtain ⟨x, hx⟩ := ex_get (show i < r.length by simp at h3; omega)
        have hx4 : (a :: b :: c :: d :: r)[4 + i]? = some x := by rw [Nat.add_comm]; simpa using hx
        have hmm : (r.take i).length = i := by simp at h3; rw [List.length_take]; omega
        have hin : i = ((r.take i).map Enc.c).length := by rw [List.length_map, hmm]
        refine awp_skip ?_
        refine tn ?_
        refine sq ?_
        refine bk ?_
        refine rd mixO ?_
        first | refine ff ?_ | refine fb ?_ | refine fo ?_
        first | refine l1f ?_ | refine l1b ?_ | refine l1o ?_
        refine mv ?_
        refine mv ?_
        first | refine xs_ ?_ | refine xo ?_ | refine xw ?_
        first | refine l1f ?_ | refine l1b ?_ | refine l1o ?_
        refine bs ?_
        first | refine ap ?_ | refine (apN _) ?_
        first | refine ff ?_ | refine fb ?_ | refine fo ?_
        first | refine s1 ?_ | refine s1w ?_
        refine rNil ⟨rfl, ?_⟩
        refine bn_ ?_
        refine tn ?_
        refine rg ?_
        refine mv ?_
        refine bo ?_
        refine as_ ?_
        refine rNil ?_
        refine tn ?_
        exact ⟨r.length - (i + 1), by simp at h3; omega, wy 4 ⟨i + 1, rfl, by simp at h3; omega, rfl⟩ (by simp [Enc.c, RV.flat, take_snoc hx]; omega)⟩ -- LEAF 3: round of loop 3
      ·
        refine awp_exit ?_
        refine te ?_
        refine te ?_
        refine xbk ?_
        refine tn ?_
        obtain rfl : i = r.length := by simp at h3; omega
        rw [List.take_length]
        refine fz 3 ?_
        refine sg ?_
        refine lAbF 2 [3] ?_
        refine sA ?_
        refine rNil ?_
        refine awp_ret ?_
        exact ⟨.inr rfl, _, (.cons (resC (by ((repeat apply Look.there rfl); exact Look.here)) (by exact rfl) (by exact rfl) (by ((repeat (apply All2.cons; first | exact .f (.v _) | exact .row rfl (by first | exact rfl | simp) | exact .f .nil | exact .f (.fro rfl (by first | exact rfl | simp)))); exact All2.nil))) .nil), by rw [hv]; rfl⟩ -- LEAF 4: ret

/-- frustum/frustumlaw29.example -/
theorem c13 : Fn Try.prog 13 [] (.one (B true)) := by
  have c10' : Fn Try.prog 10 [L [(1 : Int), 2, 3, 4, 5]] (.one (A (⟨1, 2, 3, 4, [5]⟩ : V))) := c10 [1, 2, 3, 4, 5] (by decide)
  refine fnI Try.func13 Try.ntmps13 fun hb => ?_
  refine sg ?_
  refine as_ ?_
  refine rNil ?_
  refine sg ?_
  refine bs ?_
  refine cl (c10') ?_
  refine al _ ?_
  refine sA ?_
  refine rNil ?_
  refine sg ?_
  first | refine ff ?_ | refine fb ?_ | refine fo ?_
  first | refine lAf ?_ | refine lAb ?_ | refine lAo ?_
  refine buS ?_
  refine ei ?_
  refine mv ?_
  refine gd (fun h1 => ?_) (fun h1 => ?_)
  ·
    first | refine ff ?_ | refine fb ?_ | refine fo ?_
    first | refine l1f ?_ | refine l1b ?_ | refine l1o ?_
    first | refine lnM ?_ | refine ln ?_ | refine lnO ?_ | refine lnN ?_ | refine lnW ?_
    refine bo ?_
    refine pkT ?_
    refine mv ?_
    refine gd (fun h2 => ?_) (fun h2 => ?_)
    ·
      first | refine ff ?_ | refine fb ?_ | refine fo ?_
      first | refine l1f ?_ | refine l1b ?_ | refine l1o ?_
      first | refine xs_ ?_ | refine xo ?_ | refine xw ?_
      first | refine l1f ?_ | refine l1b ?_ | refine l1o ?_
      refine bo ?_
      refine pkT ?_
      refine as_ ?_
      refine rNil ?_
      refine awp_ret ?_
      exact ⟨.inr rfl, _, (.cons (by first | exact .v (by ((repeat apply Look.there rfl); exact Look.here)) (.f (.v _)) | exact .v (by ((repeat apply Look.there rfl); exact Look.here)) (.row rfl rfl) | exact .v (by ((repeat apply Look.there rfl); exact Look.here)) (.f .nil) | exact .a (by ((repeat apply Look.there rfl); exact Look.here)) | skip) .nil), oneB (by decide)⟩ -- LEAF 1: ret
    ·
      exact absurd h2 (by decide) -- END
  ·
    exact absurd h1 (by decide) -- END

theorem eqV_refl (a : V) : eqV a a = true := eqV_iff.2 rfl
/-- frustum/frustumlaw29.VertexstageVertices -/
theorem c3 (l : List Int) (a b : V) (hl : l.length ≤ 17592186044412) : Fn Try.prog 3 [L l, A a, A b] (.one (B true)) := by
  refine fnI Try.func3 Try.ntmps3 fun hb => ?_
  refine sg ?_
  refine bx _ ?_
  refine bx _ ?_
  refine as_ ?_
  refine rNil ?_
  refine sd mixO ?_
  refine mv ?_
  refine cl (c10 l (by omega)) ?_
  refine mv ?_
  refine cl (c11 l hl) ?_
  refine cl (c9 _ _) ?_
  refine mv ?_
  refine gd (fun h1 => ?_) (fun h1 => ?_)
  ·
    first | refine lAf ?_ | refine lAb ?_ | refine lAo ?_
    first | refine lAf ?_ | refine lAb ?_ | refine lAo ?_
    refine cl (c12 _ _) ?_
    first | refine lAf ?_ | refine lAb ?_ | refine lAo ?_
    first | refine lAf ?_ | refine lAb ?_ | refine lAo ?_
    refine cl (c9 _ _) ?_
    refine be ?_
    refine pkT ?_
    refine mv ?_
    refine gd (fun h2 => ?_) (fun h2 => ?_)
    ·
      first | refine lAf ?_ | refine lAb ?_ | refine lAo ?_
      first | refine lAf ?_ | refine lAb ?_ | refine lAo ?_
      refine cl (c12 _ _) ?_
      refine pkT ?_
      refine mv ?_
      refine gd (fun h3 => ?_) (fun h3 => ?_)
      ·
        refine cl (c13) ?_
        refine pkT ?_
        refine as_ ?_
        refine rNil ⟨rfl, ?_⟩
        refine awp_ret ?_
        exact ⟨.inr rfl, _, (.cons (by first | exact .v (by ((repeat apply Look.there rfl); exact Look.here)) (.f (.v _)) | exact .v (by ((repeat apply Look.there rfl); exact Look.here)) (.row rfl rfl) | exact .v (by ((repeat apply Look.there rfl); exact Look.here)) (.f .nil) | exact .a (by ((repeat apply Look.there rfl); exact Look.here)) | skip) .nil), rfl⟩ -- LEAF 1: ret
      ·
        rw [eqV_refl] at h3; cases h3 -- END
    ·
      exact absurd h2 (by simp) -- END
  ·
    rw [eqV_refl] at h1; cases h1 -- END

end Go.Proofs.Ytolbhipnbhehdaa.VS
