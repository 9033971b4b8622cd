/- The walks of functions: what each computes, by itself. Conditions: none. -/
import Derived.Test.YtlmecogidnbpjaaF1
set_option linter.unusedVariables false
set_option linter.unusedSimpArgs false
namespace Go.Proofs.Ytlmecogidnbpjaa.VS
open Go
structure V where
  x : Int
  y : Int
  z : Int
  w : Int
  vs : List Int
instance : Enc V := ⟨fun v => [.i .i64 v.x, .i .i64 v.y, .i .i64 v.z, .i .i64 v.w, .sl (v.vs.map Enc.c)]⟩
structure Q4 where
  x : Int
  y : Int
  z : Int
  w : Int
instance : Enc Q4 := ⟨fun v => [.i .i64 v.x, .i .i64 v.y, .i .i64 v.z, .i .i64 v.w]⟩
structure T3 (α : Type) where
  a : α
  b : α
  c : α
instance {α : Type} [Enc α] : Enc (T3 α) := ⟨fun t => Enc.c t.a ++ (Enc.c t.b ++ Enc.c t.c)⟩
def V.pos (v : V) : Q4 := ⟨v.x, v.y, v.z, v.w⟩
theorem take_get {α : Type} {a b : List α} {k : Nat} {x y : α} (h : a.take k = b.take k) (ha : a[k]? = some x) (hb : b[k]? = some y) (e : x = y) : a.take (k + 1) = b.take (k + 1) := by
  rw [List.take_add_one, List.take_add_one, h, ha, hb, e]
theorem ne_get {α : Type} {a b : List α} {k : Nat} {x y : α} (ha : a[k]? = some x) (hb : b[k]? = some y) (e : x ≠ y) : a ≠ b := by
  rintro rfl; rw [ha] at hb; exact e (Option.some.inj hb)
theorem ex_get {α : Type} {a : List α} {k : Nat} (h : k < a.length) : ∃ x, a[k]? = some x := ⟨a[k], by simp [h]⟩
theorem take_all {α : Type} {a b : List α} {k : Nat} (h : a.take k = b.take k) (h1 : a.length ≤ k) (h2 : b.length ≤ k) : a = b := by
  rwa [List.take_of_length_le h1, List.take_of_length_le h2] at h
/-- frustum/frustumref05.SameInts -/
theorem c10 (a b : List Int) : Fn Try.prog 10 [L a, L b] (.one (B (a == b))) := by
  refine fnI Try.func10 Try.ntmps10 fun hb => ?_
  have hla := bd_L (f := Enc.c) (l := a) hb (by simp)
  have hlb := bd_L (f := Enc.c) (l := b) hb (by simp)
  refine sg ?_
  refine as_ ?_
  refine rNil ?_
  refine sq ?_
  refine sg ?_
  refine mv ?_
  first | refine lnM ?_ | refine ln ?_ | refine lnO ?_ | refine lnN ?_ | refine lnW ?_
  refine mv ?_
  first | refine lnM ?_ | refine ln ?_ | refine lnO ?_ | refine lnN ?_ | refine lnW ?_
  refine bo (hz := by exact rfl) ?_
  refine rNil ?_
  refine cn (fun h1 => ?_) (fun h1 => ?_)
  ·
    refine sg ?_
    refine as_ ?_
    refine rNil ?_
    refine awp_ret ?_
    refine tr ?_
    exact ⟨.inr rfl, _, .cons (.v (by ((repeat apply Look.there rfl); exact Look.here)) (.f (.v _))) .nil, oneB (by
      have : a ≠ b := by rintro rfl; simp at h1
      simp [this])⟩ -- LEAF 1: ret
  ·
    refine awp_skip ?_
    refine tn ?_
    refine sq ?_
    refine sg ?_
    refine as_ ?_
    refine rNil ?_
    refine bk ?_
    have hl : a.length = b.length := by simp at h1; omega
    refine lp (fun n S => ∃ k : Nat, n = a.length - k ∧ k ≤ a.length ∧ a.take k = b.take k ∧ S = ⟨[(5, .r (I k)), (0, .r (L a)), (1, .r (L b))], []⟩) a.length ?_ ?_
    · exact wx 0 ⟨0, rfl, by omega, rfl, rfl⟩
    rintro n S ⟨k, hn, hk, ht, rfl⟩
    refine sq ?_
    refine sg ?_
    refine mv ?_
    refine mv ?_
    first | refine lnM ?_ | refine ln ?_ | refine lnO ?_ | refine lnN ?_ | refine lnW ?_
    refine bo (hz := by exact rfl) ?_
    refine rNil ?_
    refine cn (fun h2 => ?_) (fun h2 => ?_)
    ·
      have hk' : k < a.length := by simp at h2; omega
      obtain ⟨x, hx⟩ := ex_get hk'
      obtain ⟨y, hy⟩ := ex_get (show k < b.length by omega)
      refine awp_skip ?_
      refine tn ?_
      refine sq ?_
      refine bk ?_
      refine sd mixO ?_
      refine mv ?_
      refine mv ?_
      first | refine xs_ ?_ | refine xo ?_ | refine xw ?_
      first | refine l1f ?_ | refine l1b ?_ | refine l1o ?_
      refine mv ?_
      refine mv ?_
      first | refine xs_ ?_ | refine xo ?_ | refine xw ?_
      first | refine l1f ?_ | refine l1b ?_ | refine l1o ?_
      refine bo (hz := by exact rfl) ?_
      refine rNil ⟨rfl, ?_⟩
      refine cn (fun h3 => ?_) (fun h3 => ?_)
      ·
        refine sg ?_
        refine as_ ?_
        refine rNil ?_
        refine awp_ret ?_
        refine br ?_
        refine tr ?_
        refine tr ?_
        refine br ?_
        refine tr ?_
        exact ⟨.inr rfl, _, .cons (.v (by ((repeat apply Look.there rfl); exact Look.here)) (.f (.v _))) .nil, oneB (by
          have : a ≠ b := ne_get hx hy (by simpa using h3)
          simp [this])⟩ -- LEAF 2: ret
      ·
        refine awp_skip ?_
        refine bn_ ?_
        refine tn ?_
        refine rg ?_
        refine mv ?_
        refine bo (hz := by first | exact bop_add (by omega) (by omega) | exact rfl) ?_
        refine as_ ?_
        refine rNil ?_
        refine tn ?_
        exact ⟨a.length - (k + 1), by omega, wx 0 ⟨k + 1, rfl, by omega, take_get ht hx hy (by simpa using h3), rfl⟩⟩ -- LEAF 3: round of loop 1
    ·
      refine awp_exit ?_
      refine te ?_
      refine te ?_
      refine xbk ?_
      refine tn ?_
      refine sg ?_
      refine as_ ?_
      refine rNil ?_
      refine awp_ret ?_
      exact ⟨.inr rfl, _, .cons (.v (by ((repeat apply Look.there rfl); exact Look.here)) (.f (.v _))) .nil, oneB (by
        have : a = b := take_all ht (by simp at h2; omega) (by simp at h2; omega)
        simp [this])⟩ -- LEAF 4: ret

/-- slices.Equal[[]int,int] -/
theorem c59 (a b : List Int) : Fn Try.prog 59 [L a, L b] (.one (B (a == b))) := by
  refine fnI Try.func59 Try.ntmps59 fun hb => ?_
  have hla := bd_L (f := Enc.c) (l := a) hb (by simp)
  have hlb := bd_L (f := Enc.c) (l := b) hb (by simp)
  refine sg ?_
  refine as_ ?_
  refine rNil ?_
  refine sq ?_
  refine sg ?_
  refine mv ?_
  first | refine lnM ?_ | refine ln ?_ | refine lnO ?_ | refine lnN ?_ | refine lnW ?_
  refine mv ?_
  first | refine lnM ?_ | refine ln ?_ | refine lnO ?_ | refine lnN ?_ | refine lnW ?_
  refine bo (hz := by exact rfl) ?_
  refine rNil ?_
  refine cn (fun h1 => ?_) (fun h1 => ?_)
  ·
    refine sg ?_
    refine as_ ?_
    refine rNil ?_
    refine awp_ret ?_
    refine tr ?_
    exact ⟨.inr rfl, _, .cons (.v (by ((repeat apply Look.there rfl); exact Look.here)) (.f (.v _))) .nil, oneB (by
      have : a ≠ b := by rintro rfl; simp at h1
      simp [this])⟩ -- LEAF 1: ret
  ·
    refine awp_skip ?_
    refine tn ?_
    refine sq ?_
    refine sg ?_
    refine mv ?_
    first | refine lnM ?_ | refine ln ?_ | refine lnO ?_ | refine lnN ?_ | refine lnW ?_
    refine mv ?_
    refine rNil ?_
    refine bk ?_
    have hl : a.length = b.length := by simp at h1; omega
    refine lp (fun n S => ∃ k : Nat, n = a.length - k ∧ k ≤ a.length ∧ a.take k = b.take k ∧ S = ⟨[(13, .r (I k)), (12, .r (I a.length)), (0, .r (L a)), (1, .r (L b))], []⟩) a.length ?_ ?_
    · exact wx 0 ⟨0, rfl, by omega, rfl, rfl⟩
    rintro n S ⟨k, hn, hk, ht, rfl⟩
    refine sg ?_
    refine bo (hz := by exact rfl) ?_
    refine rNil ?_
    refine sq ?_
    refine cn (fun h2 => ?_) (fun h2 => ?_)
    ·
      have hk' : k < a.length := by simp at h2; omega
      obtain ⟨x, hx⟩ := ex_get hk'
      obtain ⟨y, hy⟩ := ex_get (show k < b.length by omega)
      refine awp_skip ?_
      refine tn ?_
      refine sq ?_
      refine bk ?_
      refine sg ?_
      refine mv ?_
      refine as_ ?_
      refine rNil ?_
      refine sd mixO ?_
      refine mv ?_
      refine mv ?_
      first | refine xs_ ?_ | refine xo ?_ | refine xw ?_
      first | refine l1f ?_ | refine l1b ?_ | refine l1o ?_
      refine mv ?_
      refine mv ?_
      first | refine xs_ ?_ | refine xo ?_ | refine xw ?_
      first | refine l1f ?_ | refine l1b ?_ | refine l1o ?_
      refine bo (hz := by exact rfl) ?_
      refine rNil ⟨rfl, ?_⟩
      refine cn (fun h3 => ?_) (fun h3 => ?_)
      ·
        refine sg ?_
        refine as_ ?_
        refine rNil ?_
        refine awp_ret ?_
        refine br ?_
        refine tr ?_
        refine tr ?_
        refine br ?_
        refine tr ?_
        exact ⟨.inr rfl, _, .cons (.v (by ((repeat apply Look.there rfl); exact Look.here)) (.f (.v _))) .nil, oneB (by
          have : a ≠ b := ne_get hx hy (by simpa using h3)
          simp [this])⟩ -- LEAF 2: ret
      ·
        refine awp_skip ?_
        refine bn_ ?_
        refine tn ?_
        refine rg ?_
        refine bo (hz := by first | exact bop_add (by omega) (by omega) | exact rfl) ?_
        refine mv ?_
        refine rNil ?_
        refine tn ?_
        exact ⟨a.length - (k + 1), by omega, wx 0 ⟨k + 1, rfl, by omega, take_get ht hx hy (by simpa using h3), rfl⟩⟩ -- LEAF 3: round of loop 1
    ·
      refine awp_exit ?_
      refine te ?_
      refine te ?_
      refine xbk ?_
      refine tn ?_
      refine sg ?_
      refine as_ ?_
      refine rNil ?_
      refine awp_ret ?_
      exact ⟨.inr rfl, _, .cons (.v (by ((repeat apply Look.there rfl); exact Look.here)) (.f (.v _))) .nil, oneB (by
        have : a = b := take_all ht (by simp at h2; omega) (by simp at h2; omega)
        simp [this])⟩ -- LEAF 4: ret

theorem len2 {α : Type} {p : List α} (h : p.length = 2) : ∃ a b, p = [a, b] := by
  match p, h with
  | [a, b], _ => exact ⟨a, b, rfl⟩
theorem len3 {α : Type} {p : List α} (h : p.length = 3) : ∃ a b c, p = [a, b, c] := by
  match p, h with
  | [a, b, c], _ => exact ⟨a, b, c, rfl⟩
theorem len4 {α : Type} {p : List α} (h : 4 ≤ p.length) : ∃ a b c d r, p = a :: b :: c :: d :: r := by
  match p, h with
  | a :: b :: c :: d :: r, _ => exact ⟨a, b, c, d, r, rfl⟩
  | [a, b, c], h => simp at h
  | [a, b], h => simp at h
  | [a], h => simp at h
  | [], h => simp at h
def vof (l : List Int) : V := ⟨l.getD 0 0, l.getD 1 0, l.getD 2 0, l.getD 3 0, l.drop 4⟩
/-- frustum/vertexstage.VertexOf -/
theorem c94 (l : List Int) (hl : l.length ≤ 17592186044416) : Fn Try.prog 94 [L l] (.one (A (vof (l.map sat)))) := by
  refine fnI Try.func94 Try.ntmps94 fun hb => ?_
  refine sg ?_
  refine al _ ?_
  refine rNil ?_
  refine sg ?_
  refine al _ ?_
  refine rNil ?_
  refine sq ?_
  refine sg ?_
  refine mv ?_
  first | refine lnM ?_ | refine ln ?_ | refine lnO ?_ | refine lnN ?_ | refine lnW ?_
  refine mv ?_
  refine rNil ?_
  refine bk ?_
  refine adB 2 1 3 1 4 51 ?_
  refine lp (fun n S => ∃ (p q : List Int) (k : Nat), l.map sat = p ++ q ∧ n = q.length ∧ p.length = k ∧ S = ⟨[(8, .r (I k)), (7, .r (I l.length)), (6, .r (L l)), (2, .box 0 0), (3, .box 1 0)],
    [.box 51 [.r (I 0), .r (I 0), .r (I 0), .r (I 0), .nil], .box 51 [.r (I (p.getD 0 0)), .r (I (p.getD 1 0)), .r (I (p.getD 2 0)), .r (I (p.getD 3 0)), .own 2 (p.drop 4).length], .row 3 1 ((p.drop 4).map Enc.c)]⟩) l.length ?_ ?_
  · exact wx 3 ⟨[], l.map sat, 0, rfl, by simp, rfl, rfl⟩
  rintro n S ⟨p, q, k, hpq, hn, hk, rfl⟩
  have hlen : l.length = p.length + q.length := by have := congrArg List.length hpq; simpa using this
  refine sg ?_
  refine bo (hz := by exact rfl) ?_
  refine rNil ?_
  refine sq ?_
  refine cn (fun h1 => ?_) (fun h1 => ?_)
  ·
    obtain ⟨v, q, rfl⟩ : ∃ v q', q = v :: q' := by
      cases q with
      | nil => simp at h1 hlen; omega
      | cons v q => exact ⟨v, q, rfl⟩
    simp only [List.length_cons] at hlen hn
    obtain ⟨x, hx, hv⟩ : ∃ x, l[k]? = some x ∧ sat x = v := by
      have : (l.map sat)[k]? = some v := by rw [hpq, ← hk]; simp
      simpa using this
    have hq' : l.map sat = (p ++ [v]) ++ q := by rw [hpq]; simp
    refine awp_skip ?_
    refine tn ?_
    refine sq ?_
    refine bk ?_
    refine sg ?_
    refine mv ?_
    first | refine xs_ ?_ | refine xo ?_ | refine xw ?_
    first | refine l1f ?_ | refine l1b ?_ | refine l1o ?_
    refine as_ ?_
    refine as_ ?_
    refine rNil ?_
    refine sg ?_
    refine mv ?_
    refine cl (c35 _) ?_
    refine as_ ?_
    refine rNil ?_
    refine sg ?_
    refine mv ?_
    refine rNil ?_
    refine bk ?_
    refine sg ?_
    refine bo (hz := by exact rfl) ?_
    refine as_ ?_
    refine rNil ?_
    refine cn (fun h2 => ?_) (fun h2 => ?_)
    ·
      obtain rfl : p = [] := by have : p.length = 0 := by simp at h2; omega
                                exact List.eq_nil_of_length_eq_zero this
      refine rg ?_
      refine mv ?_
      first | refine ff ?_ | refine fb ?_ | refine fo ?_
      first | refine ff ?_ | refine fb ?_ | refine fo ?_
      first | refine s1 ?_ | refine s1w ?_
      refine rNil ?_
      refine bn_ ?_
      refine bn_ ?_
      refine tn ?_
      refine rg ?_
      refine bo (hz := by first | exact bop_add (by omega) (by omega) | exact rfl) ?_
      refine mv ?_
      refine rNil ?_
      refine tn ?_
      subst hv
      exact ⟨q.length, by omega, wx 3 ⟨[sat x], q, k + 1, hq', rfl, by simp at hk ⊢; omega, rfl⟩⟩ -- LEAF 1: round of loop 1
    ·
      refine sg ?_
      refine bo (hz := by exact rfl) ?_
      refine as_ ?_
      refine rNil ?_
      refine cn (fun h3 => ?_) (fun h3 => ?_)
      ·
        obtain ⟨a, rfl⟩ : ∃ a, p = [a] := by
          have : p.length = 1 := by simp at h3; omega
          exact List.length_eq_one_iff.1 this
        refine rg ?_
        refine mv ?_
        first | refine ff ?_ | refine fb ?_ | refine fo ?_
        first | refine ff ?_ | refine fb ?_ | refine fo ?_
        first | refine s1 ?_ | refine s1w ?_
        refine rNil ?_
        refine bn_ ?_
        refine bn_ ?_
        refine tn ?_
        refine rg ?_
        refine bo (hz := by first | exact bop_add (by omega) (by omega) | exact rfl) ?_
        refine mv ?_
        refine rNil ?_
        refine tn ?_
        subst hv
        exact ⟨q.length, by omega, wx 3 ⟨[a, sat x], q, k + 1, hq', rfl, by simp at hk ⊢; omega, rfl⟩⟩ -- LEAF 2: round of loop 1
      ·
        refine sg ?_
        refine bo (hz := by exact rfl) ?_
        refine as_ ?_
        refine rNil ?_
        refine cn (fun h4 => ?_) (fun h4 => ?_)
        ·
          obtain ⟨a, b, rfl⟩ : ∃ a b, p = [a, b] := by
            have : p.length = 2 := by simp at h4; omega
            exact len2 this
          refine rg ?_
          refine mv ?_
          first | refine ff ?_ | refine fb ?_ | refine fo ?_
          first | refine ff ?_ | refine fb ?_ | refine fo ?_
          first | refine s1 ?_ | refine s1w ?_
          refine rNil ?_
          refine bn_ ?_
          refine bn_ ?_
          refine tn ?_
          refine rg ?_
          refine bo (hz := by first | exact bop_add (by omega) (by omega) | exact rfl) ?_
          refine mv ?_
          refine rNil ?_
          refine tn ?_
          subst hv
          exact ⟨q.length, by omega, wx 3 ⟨[a, b, sat x], q, k + 1, hq', rfl, by simp at hk ⊢; omega, rfl⟩⟩ -- LEAF 3: round of loop 1
        ·
          refine sg ?_
          refine bo (hz := by exact rfl) ?_
          refine as_ ?_
          refine rNil ?_
          refine cn (fun h5 => ?_) (fun h5 => ?_)
          ·
            obtain ⟨a, b, c, rfl⟩ : ∃ a b c, p = [a, b, c] := by
              have : p.length = 3 := by simp at h5; omega
              exact len3 this
            refine rg ?_
            refine mv ?_
            first | refine ff ?_ | refine fb ?_ | refine fo ?_
            first | refine ff ?_ | refine fb ?_ | refine fo ?_
            first | refine s1 ?_ | refine s1w ?_
            refine rNil ?_
            refine bn_ ?_
            refine bn_ ?_
            refine tn ?_
            refine rg ?_
            refine bo (hz := by first | exact bop_add (by omega) (by omega) | exact rfl) ?_
            refine mv ?_
            refine rNil ?_
            refine tn ?_
            subst hv
            exact ⟨q.length, by omega, wx 3 ⟨[a, b, c, sat x], q, k + 1, hq', rfl, by simp at hk ⊢; omega, rfl⟩⟩ -- LEAF 4: round of loop 1
          ·
            obtain ⟨a, b, c, d, r, rfl⟩ : ∃ a b c d r, p = a :: b :: c :: d :: r := by
              simp at h2 h3 h4 h5
              exact len4 (by omega)
            simp only [List.length_cons] at hlen hk
            show AWP _ _ _ _ ⟨_, [_, .box 51 [.r (I a), .r (I b), .r (I c), .r (I d), .own 2 r.length], .row 3 1 (r.map Enc.c)]⟩
            refine rg ?_
            first | refine ff ?_ | refine fb ?_ | refine fo ?_
            first | refine l1f ?_ | refine l1b ?_ | refine l1o ?_
            refine mv ?_
            refine bs ?_
            first | refine ap ?_ | refine (apN _) ?_
            first | refine ff ?_ | refine fb ?_ | refine fo ?_
            first | refine s1 ?_ | refine s1w ?_
            refine rNil ?_
            refine bn_ ?_
            refine bn_ ?_
            refine tn ?_
            refine rg ?_
            refine bo (hz := by first | exact bop_add (by omega) (by omega) | exact rfl) ?_
            refine mv ?_
            refine rNil ?_
            refine tn ?_
            subst hv
            exact ⟨q.length, by omega, wy 3 ⟨a :: b :: c :: d :: (r ++ [sat x]), q, k + 1, hq', rfl, by simp at hk ⊢; omega, rfl⟩ (by simp [Enc.c, RV.flat])⟩ -- LEAF 5: round of loop 1
  ·
    refine awp_exit ?_
    refine te ?_
    refine te ?_
    refine xbk ?_
    refine tn ?_
    refine fz 2 ?_
    refine sg ?_
    refine lAbF 1 [2] ?_
    refine sA ?_
    refine rNil ?_
    refine awp_ret ?_
    obtain rfl : q = [] := by
      have : q.length = 0 := by simp at h1; omega
      exact List.eq_nil_of_length_eq_zero this
    rw [List.append_nil] at hpq
    exact ⟨.inr rfl, _, (.cons (resC (by ((repeat apply Look.there rfl); exact Look.here)) (by exact rfl) (by exact rfl) (by ((repeat (apply All2.cons; first | exact .f (.v _) | exact .row rfl (by first | exact rfl | simp) | exact .f .nil | exact .f (.fro rfl (by first | exact rfl | simp)))); exact All2.nil))) .nil), by rw [hpq]; rfl⟩ -- LEAF 6: ret

def Q4.list (q : Q4) : List Int := [q.x, q.y, q.z, q.w]
/-- frustum/vec.List -/
theorem c95 (q : Q4) : FnO Try.prog 95 [A q] 3 ((q.list).map Enc.c) := by
  refine fnO_of (t := 2) Try.func95 Try.ntmps95 (Sc.ints _) fun hb => ?_
  refine sg ?_
  refine bx _ ?_
  refine as_ ?_
  refine rNil ?_
  refine sg ?_
  first | refine ff ?_ | refine fb ?_ | refine fo ?_
  first | refine l1f ?_ | refine l1b ?_ | refine l1o ?_
  first | refine ff ?_ | refine fb ?_ | refine fo ?_
  first | refine l1f ?_ | refine l1b ?_ | refine l1o ?_
  first | refine ff ?_ | refine fb ?_ | refine fo ?_
  first | refine l1f ?_ | refine l1b ?_ | refine l1o ?_
  first | refine ff ?_ | refine fb ?_ | refine fo ?_
  first | refine l1f ?_ | refine l1b ?_ | refine l1o ?_
  refine bsO _ (hs := fun x hx => by simp only [List.mem_cons, List.not_mem_nil, or_false] at hx; rcases hx with rfl | rfl | rfl | rfl <;> rfl) ?_
  refine as_ ?_
  refine rNil ?_
  refine awp_ret ?_
  exact ⟨.inr rfl, .own (by ((repeat apply Look.there rfl); exact Look.here)) rfl rfl⟩ -- LEAF 1: ret

def satV (v : V) : V := ⟨sat v.x, sat v.y, sat v.z, sat v.w, v.vs.map sat⟩
theorem satV_of (v : V) : vof ((v.pos.list ++ v.vs).map sat) = satV v := by simp [vof, V.pos, Q4.list, satV]
/-- frustum/clip.saturated -/
theorem c62 (v : V) (hl : v.vs.length ≤ 17592186044412) : Fn Try.prog 62 [A v] (.one (A (satV v))) := by
  refine fnI Try.func62 Try.ntmps62 fun hb => ?_
  have hpl : v.pos.list.length = 4 := rfl
  refine sg ?_
  refine bx _ ?_
  refine al _ ?_
  refine rNil ?_
  refine sd mixO ?_
  first | refine ff ?_ | refine fb ?_ | refine fo ?_
  first | refine lAf ?_ | refine lAb ?_ | refine lAo ?_
  refine clO 2 (c95 v.pos) (Sc.ints _) ?_
  first | refine ff ?_ | refine fb ?_ | refine fo ?_
  first | refine l1f ?_ | refine l1b ?_ | refine l1o ?_
  first | refine ap ?_ | refine (apN _) ?_
  refine clZ 2 (by have h := c94 (v.pos.list ++ v.vs) (by simp [Q4.list]; omega); rw [satV_of] at h; unfold L at h; rw [List.map_append] at h; exact h) ?_
  refine sA ?_
  refine rNil ⟨rfl, ?_⟩
  refine awp_ret ?_
  exact ⟨.inr rfl, _, (.cons (resC (by ((repeat apply Look.there rfl); exact Look.here)) (by exact rfl) (by exact rfl) (by ((repeat (apply All2.cons; first | exact .f (.v _) | exact .row rfl (by first | exact rfl | simp) | exact .f .nil | exact .f (.fro rfl (by first | exact rfl | simp)))); exact All2.nil))) .nil), rfl⟩ -- LEAF 1: ret

/-- frustum/frustumref31.Saturated -/
theorem c71 (v : V) (hl : v.vs.length ≤ 17592186044412) : Fn Try.prog 71 [A v] (.one (A (satV v))) := by
  refine fnI Try.func71 Try.ntmps71 fun hb => ?_
  refine sg ?_
  refine bx _ ?_
  refine al _ ?_
  refine rNil ?_
  refine sg ?_
  first | refine ff ?_ | refine fb ?_ | refine fo ?_
  first | refine lAf ?_ | refine lAb ?_ | refine lAo ?_
  refine al _ ?_
  refine sA ?_
  refine rNil ?_
  refine sd mixO ?_
  first | refine ff ?_ | refine fb ?_ | refine fo ?_
  first | refine l1f ?_ | refine l1b ?_ | refine l1o ?_
  refine cl (c46 _) ?_
  first | refine ff ?_ | refine fb ?_ | refine fo ?_
  first | refine l1f ?_ | refine l1b ?_ | refine l1o ?_
  refine cl (c46 _) ?_
  first | refine ff ?_ | refine fb ?_ | refine fo ?_
  first | refine l1f ?_ | refine l1b ?_ | refine l1o ?_
  refine cl (c46 _) ?_
  first | refine ff ?_ | refine fb ?_ | refine fo ?_
  first | refine l1f ?_ | refine l1b ?_ | refine l1o ?_
  refine cl (c46 _) ?_
  refine buS ?_
  refine buSz ?_
  refine al _ ?_
  refine sA ?_
  refine rNil ⟨rfl, ?_⟩
  refine sq ?_
  refine sg ?_
  refine as_ ?_
  refine rNil ?_
  refine bk ?_
  refine adB 4 3 3 1 4 51 ?_
  refine lp (fun n S => ∃ (k m : Nat), n = v.vs.length - k ∧ k ≤ v.vs.length ∧ m = k ∧ S = ⟨[(5, .r (I k)), (4, .box 3 0), (2, .box 1 0), (1, .box 0 0)],
    [.box 51 [.r (I v.x), .r (I v.y), .r (I v.z), .r (I v.w), .r (.v (.sl (v.vs.map Enc.c)))], .box 51 [.r (I 0), .r (I 0), .r (I 0), .r (I 0), .nil], .box 48 [.r (I v.x), .r (I v.y), .r (I v.z), .r (I v.w)], .box 51 [.r (I (sat v.x)), .r (I (sat v.y)), .r (I (sat v.z)), .r (I (sat v.w)), .own 4 m], .row 3 1 (((v.vs.take k).map sat).map Enc.c)]⟩) v.vs.length ?_ ?_
  · exact wx 5 ⟨0, 0, by omega, by omega, rfl, rfl⟩
  rintro n S ⟨k, m, hn, hk, hm, rfl⟩
  have hkl : (v.vs.take k).length = k := by simp; omega
  have hrow : m = (((v.vs.take k).map sat).map Enc.c).length := by simp; omega
  refine sq ?_
  refine sg ?_
  refine mv ?_
  first | refine ff ?_ | refine fb ?_ | refine fo ?_
  first | refine l1f ?_ | refine l1b ?_ | refine l1o ?_
  first | refine lnM ?_ | refine ln ?_ | refine lnO ?_ | refine lnN ?_ | refine lnW ?_
  refine bo (hz := by exact rfl) ?_
  refine rNil ?_
  refine cn (fun h1 => ?_) (fun h1 => ?_)
  ·
    have hk1 : k < v.vs.length := by simpa using h1
    obtain ⟨x, hx⟩ := ex_get hk1
    have hs := take_snoc hx
    refine awp_skip ?_
    refine tn ?_
    refine sq ?_
    refine bk ?_
    refine rd mixO ?_
    first | refine ff ?_ | refine fb ?_ | refine fo ?_
    first | refine l1f ?_ | refine l1b ?_ | refine l1o ?_
    first | refine ff ?_ | refine fb ?_ | refine fo ?_
    first | refine l1f ?_ | refine l1b ?_ | refine l1o ?_
    refine mv ?_
    first | refine xs_ ?_ | refine xo ?_ | refine xw ?_
    first | refine l1f ?_ | refine l1b ?_ | refine l1o ?_
    refine cl (c46 _) ?_
    refine bs ?_
    first | refine ap ?_ | refine (apN _) ?_
    first | refine ff ?_ | refine fb ?_ | refine fo ?_
    first | refine s1 ?_ | refine s1w ?_
    refine rNil ⟨rfl, ?_⟩
    refine bn_ ?_
    refine tn ?_
    refine rg ?_
    refine mv ?_
    refine bo (hz := by first | exact bop_add (by omega) (by omega) | exact rfl) ?_
    refine as_ ?_
    refine rNil ?_
    refine tn ?_
    exact ⟨v.vs.length - (k + 1), by omega, wy 5 ⟨k + 1, m + 1, by omega, by omega, by omega, rfl⟩ (by simp [hs, RV.flat, Enc.c]; omega)⟩ -- LEAF 1: round of loop 1
  ·
    refine awp_exit ?_
    refine te ?_
    refine te ?_
    refine xbk ?_
    refine tn ?_
    have hkk : k = v.vs.length := by simp at h1; omega
    subst hm
    subst hkk
    rw [List.take_length] at hrow ⊢
    refine fz 4 ?_
    refine sg ?_
    refine lAbF 3 [4] ?_
    refine sA ?_
    refine rNil ?_
    refine awp_ret ?_
    exact ⟨.inr rfl, _, (.cons (resC (by ((repeat apply Look.there rfl); exact Look.here)) (by exact rfl) (by exact rfl) (by ((repeat (apply All2.cons; first | exact .f (.v _) | exact .row rfl (by first | exact rfl | simp) | exact .f .nil | exact .f (.fro rfl (by first | exact rfl | simp)))); exact All2.nil))) .nil), rfl⟩ -- LEAF 2: ret

end Go.Proofs.Ytlmecogidnbpjaa.VS
