/- The walks of functions: what each computes, by itself. Conditions: none. -/
import Derived.Test.YtlaaigljlhkdpaaF10
set_option linter.unusedVariables false
set_option linter.unusedSimpArgs false
namespace Go.Proofs.Ytlaaigljlhkdpaa.VS
open Go
theorem fm_congr {α β : Type} {f g : α → List β} : ∀ {l : List α}, (∀ x ∈ l, f x = g x) → l.flatMap f = l.flatMap g
  | [], _ => rfl
  | a :: l, h => by
    rw [List.flatMap_cons, List.flatMap_cons, h a (.head _), fm_congr fun x hx => h x (.tail _ hx)]
theorem range_mid (lo n r : Nat) : List.range (lo + n + r) = List.range lo ++ (List.range n).map (lo + ·) ++ (List.range r).map (lo + n + ·) := by
  rw [List.range_add, List.range_add]
theorem fm_mid {β : Type} (f : Nat → List β) {lo n : Nat} (h : lo + n ≤ 64) (h0 : ∀ x, x < 64 → ¬ (lo ≤ x ∧ x < lo + n) → f x = []) : (List.range 64).flatMap f = (List.range n).flatMap fun i => f (lo + i) := by
  obtain ⟨r, hr⟩ : ∃ r, 64 = lo + n + r := ⟨64 - (lo + n), by omega⟩
  rw [hr, range_mid, List.flatMap_append, List.flatMap_append]
  rw [fm_nil (f := f) (List.range lo) (fun i hi => h0 i (by have := List.mem_range.1 hi; omega) (by have := List.mem_range.1 hi; omega))]
  rw [fm_nil (f := f) ((List.range r).map (lo + n + ·)) (fun i hi => by
    obtain ⟨j, hj, rfl⟩ := List.mem_map.1 hi
    have := List.mem_range.1 hj
    exact h0 _ (by omega) (by omega))]
  rw [List.nil_append, List.append_nil, List.flatMap_map]
theorem fm_span {β : Type} (g : Int → List β) {a s : Int} (ha : -300 ≤ a ∧ a ≤ 300) : ((List.range 64).flatMap fun (x : Nat) => if spanF a s x = true then g x else []) = (List.range (span (limF a s))).flatMap fun (i : Nat) => g ((limF a s).1 + i) := by
  have hb := limF_bd (s := s) ha
  have hs : ∀ x : Nat, x < 64 → (spanF a s x = true ↔ (limF a s).1 ≤ x ∧ (x : Int) < (limF a s).2) := by
    intro x hx
    simp only [spanF, decide_eq_true_eq]
    unfold limF mx
    split
    · simp; omega
    · dsimp only; split <;> split <;> omega
  unfold span
  generalize limF a s = p at *
  obtain ⟨lo, hi⟩ := p
  dsimp only at *
  by_cases hn : hi ≤ lo
  · rw [show (hi - lo).toNat = 0 by omega]
    rw [fm_nil _ (fun x hx => if_neg (by rw [hs x (List.mem_range.1 hx)]; omega))]
    rfl
  · obtain ⟨l, rfl⟩ : ∃ l : Nat, lo = l := ⟨lo.toNat, by omega⟩
    rw [fm_mid (lo := l) (n := (hi - l).toNat) _ (by omega) (fun x hx h => if_neg (by rw [hs x hx]; omega))]
    have : ∀ i ∈ List.range (hi - l).toNat, (if spanF a s ((l + i : Nat) : Int) = true then g ((l + i : Nat) : Int) else []) = g ((l : Int) + i) := by
      intro i hi'
      have := List.mem_range.1 hi'
      rw [if_pos ((hs (l + i) (by omega)).2 (by omega))]
      rw [Int.natCast_add]
    rw [fm_congr this]
theorem pix_eq (t : Tri) {x0 y0 w h n : Int} (hx : -300 ≤ x0 ∧ x0 ≤ 300) (hy : -300 ≤ y0 ∧ y0 ≤ 300) : pixR t x0 y0 w h n 64 = pixP t x0 y0 w h n := by
  have h1 : ∀ y : Nat, pixQ t x0 y0 w h n y 64 = if spanF y0 h y = true then rowL t n (limF x0 w).1 y (span (limF x0 w)) else [] := by
    intro y
    unfold pixQ
    cases spanF y0 h y with
    | false => rw [fm_nil _ (fun x _ => by simp)]; simp
    | true =>
      simp only [Bool.and_true, if_true]
      rw [fm_span (fun x => pixl t n x y) hx]; rfl
  unfold pixR
  rw [fm_congr (fun y _ => h1 y), fm_span (fun y => rowL t n (limF x0 w).1 y (span (limF x0 w))) hy]; rfl
theorem gen_eq (t : Tri) {x0 y0 w h n : Int} (hx : -300 ≤ x0 ∧ x0 ≤ 300) (hy : -300 ≤ y0 ∧ y0 ≤ 300) : genR t x0 y0 w h n = genF t x0 y0 w h n := by rw [genR, pix_eq t hx hy]; rfl
theorem ne_get {α : Type} {a b : List α} {k : Nat} {x y : α} (ha : a[k]? = some x) (hb : b[k]? = some y) (e : x ≠ y) : a ≠ b := by
  rintro rfl; rw [ha] at hb; exact e (Option.some.inj hb)
theorem take_get {α : Type} {a b : List α} {k : Nat} {x y : α} (h : a.take k = b.take k) (ha : a[k]? = some x) (hb : b[k]? = some y) (e : x = y) : a.take (k + 1) = b.take (k + 1) := by
  rw [List.take_add_one, List.take_add_one, h, ha, hb, e]
theorem take_all {α : Type} {a b : List α} {k : Nat} (h : a.take k = b.take k) (h1 : a.length ≤ k) (h2 : b.length ≤ k) : a = b := by
  rwa [List.take_of_length_le h1, List.take_of_length_le h2] at h
/-- frustum/frustumref45.same -/
theorem c26 (a b : List Int) : Fn Try.prog 26 [L a, L b] (.one (B (a == b))) := by
  refine fnI Try.func26 Try.ntmps26 fun hb => ?_
  have hla := bd_L (f := Enc.c) (l := a) hb (by simp)
  have hlb := bd_L (f := Enc.c) (l := b) hb (by simp)
  refine sg ?_
  refine as_ ?_
  refine rNil ?_
  refine sq ?_
  refine sg ?_
  refine mv ?_
  first | refine lnM ?_ | refine ln ?_ | refine lnO ?_ | refine lnN ?_ | refine lnW ?_
  refine mv ?_
  first | refine lnM ?_ | refine ln ?_ | refine lnO ?_ | refine lnN ?_ | refine lnW ?_
  refine bo ?_
  refine rNil ?_
  refine cn (fun h1 => ?_) (fun h1 => ?_)
  ·
    refine sg ?_
    refine as_ ?_
    refine rNil ?_
    refine awp_ret ?_
    refine tr ?_
    exact ⟨.inr rfl, _, .cons (.v (by ((repeat apply Look.there rfl); exact Look.here)) (.f (.v _))) .nil, oneB (by
      have : a ≠ b := by rintro rfl; simp at h1
      simp [this])⟩ -- LEAF 1: ret
  ·
    refine awp_skip ?_
    refine tn ?_
    refine sq ?_
    refine sg ?_
    refine as_ ?_
    refine rNil ?_
    refine bk ?_
    have hl : a.length = b.length := by simp at h1; omega
    refine lp (fun n S => ∃ k : Nat, n = a.length - k ∧ k ≤ a.length ∧ a.take k = b.take k ∧ S = ⟨[(5, .r (I k)), (0, .r (L a)), (1, .r (L b))], []⟩) a.length ?_ ?_
    · exact wx 0 ⟨0, rfl, by omega, rfl, rfl⟩
    rintro n S ⟨k, hn, hk, ht, rfl⟩
    refine sq ?_
    refine sg ?_
    refine mv ?_
    refine mv ?_
    first | refine lnM ?_ | refine ln ?_ | refine lnO ?_ | refine lnN ?_ | refine lnW ?_
    refine bo ?_
    refine rNil ?_
    refine cn (fun h2 => ?_) (fun h2 => ?_)
    ·
      have hk' : k < a.length := by simp at h2; omega
      obtain ⟨x, hx⟩ := ex_get hk'
      obtain ⟨y, hy⟩ := ex_get (show k < b.length by omega)
      refine awp_skip ?_
      refine tn ?_
      refine sq ?_
      refine bk ?_
      refine sd mixO ?_
      refine mv ?_
      refine mv ?_
      first | refine xs_ ?_ | refine xo ?_ | refine xw ?_
      first | refine l1f ?_ | refine l1b ?_ | refine l1o ?_
      refine mv ?_
      refine mv ?_
      first | refine xs_ ?_ | refine xo ?_ | refine xw ?_
      first | refine l1f ?_ | refine l1b ?_ | refine l1o ?_
      refine bo ?_
      refine rNil ⟨rfl, ?_⟩
      refine cn (fun h3 => ?_) (fun h3 => ?_)
      ·
        refine sg ?_
        refine as_ ?_
        refine rNil ?_
        refine awp_ret ?_
        refine br ?_
        refine tr ?_
        refine tr ?_
        refine br ?_
        refine tr ?_
        exact ⟨.inr rfl, _, .cons (.v (by ((repeat apply Look.there rfl); exact Look.here)) (.f (.v _))) .nil, oneB (by
          have : a ≠ b := ne_get hx hy (by simpa using h3)
          simp [this])⟩ -- LEAF 2: ret
      ·
        refine awp_skip ?_
        refine bn_ ?_
        refine tn ?_
        refine rg ?_
        refine mv ?_
        refine bo ?_
        refine as_ ?_
        refine rNil ?_
        refine tn ?_
        exact ⟨a.length - (k + 1), by omega, wx 0 ⟨k + 1, rfl, by omega, take_get ht hx hy (by simpa using h3), rfl⟩⟩ -- LEAF 3: round of loop 1
    ·
      refine awp_exit ?_
      refine te ?_
      refine te ?_
      refine xbk ?_
      refine tn ?_
      refine sg ?_
      refine as_ ?_
      refine rNil ?_
      refine awp_ret ?_
      exact ⟨.inr rfl, _, .cons (.v (by ((repeat apply Look.there rfl); exact Look.here)) (.f (.v _))) .nil, oneB (by
        have : a = b := take_all ht (by simp at h2; omega) (by simp at h2; omega)
        simp [this])⟩ -- LEAF 4: ret

/-- slices.Equal[[]int,int] -/
theorem c27 (a b : List Int) : Fn Try.prog 27 [L a, L b] (.one (B (a == b))) := by
  refine fnI Try.func27 Try.ntmps27 fun hb => ?_
  have hla := bd_L (f := Enc.c) (l := a) hb (by simp)
  have hlb := bd_L (f := Enc.c) (l := b) hb (by simp)
  refine sg ?_
  refine as_ ?_
  refine rNil ?_
  refine sq ?_
  refine sg ?_
  refine mv ?_
  first | refine lnM ?_ | refine ln ?_ | refine lnO ?_ | refine lnN ?_ | refine lnW ?_
  refine mv ?_
  first | refine lnM ?_ | refine ln ?_ | refine lnO ?_ | refine lnN ?_ | refine lnW ?_
  refine bo ?_
  refine rNil ?_
  refine cn (fun h1 => ?_) (fun h1 => ?_)
  ·
    refine sg ?_
    refine as_ ?_
    refine rNil ?_
    refine awp_ret ?_
    refine tr ?_
    exact ⟨.inr rfl, _, .cons (.v (by ((repeat apply Look.there rfl); exact Look.here)) (.f (.v _))) .nil, oneB (by
      have : a ≠ b := by rintro rfl; simp at h1
      simp [this])⟩ -- LEAF 1: ret
  ·
    refine awp_skip ?_
    refine tn ?_
    refine sq ?_
    refine sg ?_
    refine mv ?_
    first | refine lnM ?_ | refine ln ?_ | refine lnO ?_ | refine lnN ?_ | refine lnW ?_
    refine mv ?_
    refine rNil ?_
    refine bk ?_
    have hl : a.length = b.length := by simp at h1; omega
    refine lp (fun n S => ∃ k : Nat, n = a.length - k ∧ k ≤ a.length ∧ a.take k = b.take k ∧ S = ⟨[(13, .r (I k)), (12, .r (I a.length)), (0, .r (L a)), (1, .r (L b))], []⟩) a.length ?_ ?_
    · exact wx 0 ⟨0, rfl, by omega, rfl, rfl⟩
    rintro n S ⟨k, hn, hk, ht, rfl⟩
    refine sg ?_
    refine bo ?_
    refine rNil ?_
    refine sq ?_
    refine cn (fun h2 => ?_) (fun h2 => ?_)
    ·
      have hk' : k < a.length := by simp at h2; omega
      obtain ⟨x, hx⟩ := ex_get hk'
      obtain ⟨y, hy⟩ := ex_get (show k < b.length by omega)
      refine awp_skip ?_
      refine tn ?_
      refine sq ?_
      refine bk ?_
      refine sg ?_
      refine mv ?_
      refine as_ ?_
      refine rNil ?_
      refine sd mixO ?_
      refine mv ?_
      refine mv ?_
      first | refine xs_ ?_ | refine xo ?_ | refine xw ?_
      first | refine l1f ?_ | refine l1b ?_ | refine l1o ?_
      refine mv ?_
      refine mv ?_
      first | refine xs_ ?_ | refine xo ?_ | refine xw ?_
      first | refine l1f ?_ | refine l1b ?_ | refine l1o ?_
      refine bo ?_
      refine rNil ⟨rfl, ?_⟩
      refine cn (fun h3 => ?_) (fun h3 => ?_)
      ·
        refine sg ?_
        refine as_ ?_
        refine rNil ?_
        refine awp_ret ?_
        refine br ?_
        refine tr ?_
        refine tr ?_
        refine br ?_
        refine tr ?_
        exact ⟨.inr rfl, _, .cons (.v (by ((repeat apply Look.there rfl); exact Look.here)) (.f (.v _))) .nil, oneB (by
          have : a ≠ b := ne_get hx hy (by simpa using h3)
          simp [this])⟩ -- LEAF 2: ret
      ·
        refine awp_skip ?_
        refine bn_ ?_
        refine tn ?_
        refine rg ?_
        refine bo ?_
        refine mv ?_
        refine rNil ?_
        refine tn ?_
        exact ⟨a.length - (k + 1), by omega, wx 0 ⟨k + 1, rfl, by omega, take_get ht hx hy (by simpa using h3), rfl⟩⟩ -- LEAF 3: round of loop 1
    ·
      refine awp_exit ?_
      refine te ?_
      refine te ?_
      refine xbk ?_
      refine tn ?_
      refine sg ?_
      refine as_ ?_
      refine rNil ?_
      refine awp_ret ?_
      exact ⟨.inr rfl, _, .cons (.v (by ((repeat apply Look.there rfl); exact Look.here)) (.f (.v _))) .nil, oneB (by
        have : a = b := take_all ht (by simp at h2; omega) (by simp at h2; omega)
        simp [this])⟩ -- LEAF 4: ret

def eqF (a b : Frag) : Bool := a.x == b.x && (a.y == b.y && (a.mask == b.mask && (a.prim == b.prim && (a.front == b.front && (a.deps == b.deps && a.inps == b.inps)))))
theorem eqF_iff {a b : Frag} : eqF a b = true ↔ a = b := by
  obtain ⟨x, y, m, p, f, d, i⟩ := a
  obtain ⟨x', y', m', p', f', d', i'⟩ := b
  simp [eqF]
theorem eqF_refl (a : Frag) : eqF a a = true := eqF_iff.2 rfl
/-- frustum/frustumref45.Equal -/
theorem c12 (a b : Frag) : Fn Try.prog 12 [A a, A b] (.one (B (eqF a b))) := by
  refine fnI Try.func12 Try.ntmps12 fun hb => ?_
  refine sg ?_
  refine bx _ ?_
  refine bx _ ?_
  refine as_ ?_
  refine rNil ?_
  refine sg ?_
  first | refine ff ?_ | refine fb ?_ | refine fo ?_
  first | refine l1f ?_ | refine l1b ?_ | refine l1o ?_
  first | refine ff ?_ | refine fb ?_ | refine fo ?_
  first | refine l1f ?_ | refine l1b ?_ | refine l1o ?_
  refine bo ?_
  refine mv ?_
  refine gd (fun h1 => ?_) (fun h1 => ?_)
  ·
    first | refine ff ?_ | refine fb ?_ | refine fo ?_
    first | refine l1f ?_ | refine l1b ?_ | refine l1o ?_
    first | refine ff ?_ | refine fb ?_ | refine fo ?_
    first | refine l1f ?_ | refine l1b ?_ | refine l1o ?_
    refine bo ?_
    refine pkT ?_
    refine mv ?_
    refine gd (fun h2 => ?_) (fun h2 => ?_)
    ·
      first | refine ff ?_ | refine fb ?_ | refine fo ?_
      first | refine l1f ?_ | refine l1b ?_ | refine l1o ?_
      first | refine ff ?_ | refine fb ?_ | refine fo ?_
      first | refine l1f ?_ | refine l1b ?_ | refine l1o ?_
      refine bo ?_
      refine pkT ?_
      refine mv ?_
      refine gd (fun h3 => ?_) (fun h3 => ?_)
      ·
        first | refine ff ?_ | refine fb ?_ | refine fo ?_
        first | refine l1f ?_ | refine l1b ?_ | refine l1o ?_
        first | refine ff ?_ | refine fb ?_ | refine fo ?_
        first | refine l1f ?_ | refine l1b ?_ | refine l1o ?_
        refine bo ?_
        refine pkT ?_
        refine mv ?_
        refine gd (fun h4 => ?_) (fun h4 => ?_)
        ·
          first | refine ff ?_ | refine fb ?_ | refine fo ?_
          first | refine l1f ?_ | refine l1b ?_ | refine l1o ?_
          first | refine ff ?_ | refine fb ?_ | refine fo ?_
          first | refine l1f ?_ | refine l1b ?_ | refine l1o ?_
          refine be ?_
          refine pkT ?_
          refine mv ?_
          refine gd (fun h5 => ?_) (fun h5 => ?_)
          ·
            first | refine ff ?_ | refine fb ?_ | refine fo ?_
            first | refine l1f ?_ | refine l1b ?_ | refine l1o ?_
            first | refine ff ?_ | refine fb ?_ | refine fo ?_
            first | refine l1f ?_ | refine l1b ?_ | refine l1o ?_
            refine cl (c26 a.deps b.deps) ?_
            refine pkT ?_
            refine mv ?_
            refine gd (fun h6 => ?_) (fun h6 => ?_)
            ·
              first | refine ff ?_ | refine fb ?_ | refine fo ?_
              first | refine l1f ?_ | refine l1b ?_ | refine l1o ?_
              first | refine ff ?_ | refine fb ?_ | refine fo ?_
              first | refine l1f ?_ | refine l1b ?_ | refine l1o ?_
              refine cl (c26 a.inps b.inps) ?_
              refine pkT ?_
              refine as_ ?_
              refine rNil ?_
              refine awp_ret ?_
              exact ⟨.inr rfl, _, (.cons (by first | exact .v (by ((repeat apply Look.there rfl); exact Look.here)) (.f (.v _)) | exact .v (by ((repeat apply Look.there rfl); exact Look.here)) (.row rfl rfl) | exact .v (by ((repeat apply Look.there rfl); exact Look.here)) (.f .nil) | exact .a (by ((repeat apply Look.there rfl); exact Look.here)) | skip) .nil), oneB (by simp only [eqF, *, Bool.true_and, Bool.false_and])⟩ -- LEAF 1: ret
            ·
              refine no ?_
              refine no ?_
              refine no ?_
              refine no ?_
              refine no ?_
              refine pkF ?_
              refine as_ ?_
              refine rNil ?_
              refine awp_ret ?_
              exact ⟨.inr rfl, _, (.cons (by first | exact .v (by ((repeat apply Look.there rfl); exact Look.here)) (.f (.v _)) | exact .v (by ((repeat apply Look.there rfl); exact Look.here)) (.row rfl rfl) | exact .v (by ((repeat apply Look.there rfl); exact Look.here)) (.f .nil) | exact .a (by ((repeat apply Look.there rfl); exact Look.here)) | skip) .nil), oneB (by simp only [eqF, *, Bool.true_and, Bool.false_and])⟩ -- LEAF 2: ret
          ·
            refine no ?_
            refine no ?_
            refine no ?_
            refine no ?_
            refine no ?_
            refine pkF ?_
            refine mv ?_
            refine no ?_
            refine no ?_
            refine no ?_
            refine no ?_
            refine no ?_
            refine pkF ?_
            refine as_ ?_
            refine rNil ?_
            refine awp_ret ?_
            exact ⟨.inr rfl, _, (.cons (by first | exact .v (by ((repeat apply Look.there rfl); exact Look.here)) (.f (.v _)) | exact .v (by ((repeat apply Look.there rfl); exact Look.here)) (.row rfl rfl) | exact .v (by ((repeat apply Look.there rfl); exact Look.here)) (.f .nil) | exact .a (by ((repeat apply Look.there rfl); exact Look.here)) | skip) .nil), oneB (by simp only [eqF, *, Bool.true_and, Bool.false_and])⟩ -- LEAF 3: ret
        ·
          refine no ?_
          refine no ?_
          refine no ?_
          refine no ?_
          refine no ?_
          refine pkF ?_
          refine mv ?_
          refine no ?_
          refine no ?_
          refine no ?_
          refine no ?_
          refine no ?_
          refine pkF ?_
          refine mv ?_
          refine no ?_
          refine no ?_
          refine no ?_
          refine no ?_
          refine no ?_
          refine pkF ?_
          refine as_ ?_
          refine rNil ?_
          refine awp_ret ?_
          exact ⟨.inr rfl, _, (.cons (by first | exact .v (by ((repeat apply Look.there rfl); exact Look.here)) (.f (.v _)) | exact .v (by ((repeat apply Look.there rfl); exact Look.here)) (.row rfl rfl) | exact .v (by ((repeat apply Look.there rfl); exact Look.here)) (.f .nil) | exact .a (by ((repeat apply Look.there rfl); exact Look.here)) | skip) .nil), oneB (by simp only [eqF, *, Bool.true_and, Bool.false_and])⟩ -- LEAF 4: ret
      ·
        refine no ?_
        refine no ?_
        refine no ?_
        refine no ?_
        refine no ?_
        refine pkF ?_
        refine mv ?_
        refine no ?_
        refine no ?_
        refine no ?_
        refine no ?_
        refine no ?_
        refine pkF ?_
        refine mv ?_
        refine no ?_
        refine no ?_
        refine no ?_
        refine no ?_
        refine no ?_
        refine pkF ?_
        refine mv ?_
        refine no ?_
        refine no ?_
        refine no ?_
        refine no ?_
        refine no ?_
        refine pkF ?_
        refine as_ ?_
        refine rNil ?_
        refine awp_ret ?_
        exact ⟨.inr rfl, _, (.cons (by first | exact .v (by ((repeat apply Look.there rfl); exact Look.here)) (.f (.v _)) | exact .v (by ((repeat apply Look.there rfl); exact Look.here)) (.row rfl rfl) | exact .v (by ((repeat apply Look.there rfl); exact Look.here)) (.f .nil) | exact .a (by ((repeat apply Look.there rfl); exact Look.here)) | skip) .nil), oneB (by simp only [eqF, *, Bool.true_and, Bool.false_and])⟩ -- LEAF 5: ret
    ·
      refine no ?_
      refine no ?_
      refine no ?_
      refine no ?_
      refine no ?_
      refine pkF ?_
      refine mv ?_
      refine no ?_
      refine no ?_
      refine no ?_
      refine no ?_
      refine no ?_
      refine pkF ?_
      refine mv ?_
      refine no ?_
      refine no ?_
      refine no ?_
      refine no ?_
      refine no ?_
      refine pkF ?_
      refine mv ?_
      refine no ?_
      refine no ?_
      refine no ?_
      refine no ?_
      refine no ?_
      refine pkF ?_
      refine mv ?_
      refine no ?_
      refine no ?_
      refine no ?_
      refine no ?_
      refine no ?_
      refine pkF ?_
      refine as_ ?_
      refine rNil ?_
      refine awp_ret ?_
      exact ⟨.inr rfl, _, (.cons (by first | exact .v (by ((repeat apply Look.there rfl); exact Look.here)) (.f (.v _)) | exact .v (by ((repeat apply Look.there rfl); exact Look.here)) (.row rfl rfl) | exact .v (by ((repeat apply Look.there rfl); exact Look.here)) (.f .nil) | exact .a (by ((repeat apply Look.there rfl); exact Look.here)) | skip) .nil), oneB (by simp only [eqF, *, Bool.true_and, Bool.false_and])⟩ -- LEAF 6: ret
  ·
    refine no ?_
    refine no ?_
    refine no ?_
    refine no ?_
    refine no ?_
    refine pkF ?_
    refine mv ?_
    refine no ?_
    refine no ?_
    refine no ?_
    refine no ?_
    refine no ?_
    refine pkF ?_
    refine mv ?_
    refine no ?_
    refine no ?_
    refine no ?_
    refine no ?_
    refine no ?_
    refine pkF ?_
    refine mv ?_
    refine no ?_
    refine no ?_
    refine no ?_
    refine no ?_
    refine no ?_
    refine pkF ?_
    refine mv ?_
    refine no ?_
    refine no ?_
    refine no ?_
    refine no ?_
    refine no ?_
    refine pkF ?_
    refine mv ?_
    refine no ?_
    refine no ?_
    refine no ?_
    refine no ?_
    refine no ?_
    refine pkF ?_
    refine as_ ?_
    refine rNil ?_
    refine awp_ret ?_
    exact ⟨.inr rfl, _, (.cons (by first | exact .v (by ((repeat apply Look.there rfl); exact Look.here)) (.f (.v _)) | exact .v (by ((repeat apply Look.there rfl); exact Look.here)) (.row rfl rfl) | exact .v (by ((repeat apply Look.there rfl); exact Look.here)) (.f .nil) | exact .a (by ((repeat apply Look.there rfl); exact Look.here)) | skip) .nil), oneB (by simp only [eqF, *, Bool.true_and, Bool.false_and])⟩ -- LEAF 7: ret

/-- frustum/fragments.Equal -/
theorem c13 (a b : Frag) : Fn Try.prog 13 [A a, A b] (.one (B (eqF a b))) := by
  refine fnI Try.func13 Try.ntmps13 fun hb => ?_
  refine sg ?_
  refine bx _ ?_
  refine bx _ ?_
  refine as_ ?_
  refine rNil ?_
  refine sg ?_
  first | refine ff ?_ | refine fb ?_ | refine fo ?_
  first | refine l1f ?_ | refine l1b ?_ | refine l1o ?_
  first | refine ff ?_ | refine fb ?_ | refine fo ?_
  first | refine l1f ?_ | refine l1b ?_ | refine l1o ?_
  refine bo ?_
  refine mv ?_
  refine gd (fun h1 => ?_) (fun h1 => ?_)
  ·
    first | refine ff ?_ | refine fb ?_ | refine fo ?_
    first | refine l1f ?_ | refine l1b ?_ | refine l1o ?_
    first | refine ff ?_ | refine fb ?_ | refine fo ?_
    first | refine l1f ?_ | refine l1b ?_ | refine l1o ?_
    refine bo ?_
    refine pkT ?_
    refine mv ?_
    refine gd (fun h2 => ?_) (fun h2 => ?_)
    ·
      first | refine ff ?_ | refine fb ?_ | refine fo ?_
      first | refine l1f ?_ | refine l1b ?_ | refine l1o ?_
      first | refine ff ?_ | refine fb ?_ | refine fo ?_
      first | refine l1f ?_ | refine l1b ?_ | refine l1o ?_
      refine bo ?_
      refine pkT ?_
      refine mv ?_
      refine gd (fun h3 => ?_) (fun h3 => ?_)
      ·
        first | refine ff ?_ | refine fb ?_ | refine fo ?_
        first | refine l1f ?_ | refine l1b ?_ | refine l1o ?_
        first | refine ff ?_ | refine fb ?_ | refine fo ?_
        first | refine l1f ?_ | refine l1b ?_ | refine l1o ?_
        refine bo ?_
        refine pkT ?_
        refine mv ?_
        refine gd (fun h4 => ?_) (fun h4 => ?_)
        ·
          first | refine ff ?_ | refine fb ?_ | refine fo ?_
          first | refine l1f ?_ | refine l1b ?_ | refine l1o ?_
          first | refine ff ?_ | refine fb ?_ | refine fo ?_
          first | refine l1f ?_ | refine l1b ?_ | refine l1o ?_
          refine be ?_
          refine pkT ?_
          refine mv ?_
          refine gd (fun h5 => ?_) (fun h5 => ?_)
          ·
            first | refine ff ?_ | refine fb ?_ | refine fo ?_
            first | refine l1f ?_ | refine l1b ?_ | refine l1o ?_
            first | refine ff ?_ | refine fb ?_ | refine fo ?_
            first | refine l1f ?_ | refine l1b ?_ | refine l1o ?_
            refine cl (c27 a.deps b.deps) ?_
            refine pkT ?_
            refine mv ?_
            refine gd (fun h6 => ?_) (fun h6 => ?_)
            ·
              first | refine ff ?_ | refine fb ?_ | refine fo ?_
              first | refine l1f ?_ | refine l1b ?_ | refine l1o ?_
              first | refine ff ?_ | refine fb ?_ | refine fo ?_
              first | refine l1f ?_ | refine l1b ?_ | refine l1o ?_
              refine cl (c27 a.inps b.inps) ?_
              refine pkT ?_
              refine as_ ?_
              refine rNil ?_
              refine awp_ret ?_
              exact ⟨.inr rfl, _, (.cons (by first | exact .v (by ((repeat apply Look.there rfl); exact Look.here)) (.f (.v _)) | exact .v (by ((repeat apply Look.there rfl); exact Look.here)) (.row rfl rfl) | exact .v (by ((repeat apply Look.there rfl); exact Look.here)) (.f .nil) | exact .a (by ((repeat apply Look.there rfl); exact Look.here)) | skip) .nil), oneB (by simp only [eqF, *, Bool.true_and, Bool.false_and])⟩ -- LEAF 1: ret
            ·
              refine no ?_
              refine no ?_
              refine no ?_
              refine no ?_
              refine no ?_
              refine pkF ?_
              refine as_ ?_
              refine rNil ?_
              refine awp_ret ?_
              exact ⟨.inr rfl, _, (.cons (by first | exact .v (by ((repeat apply Look.there rfl); exact Look.here)) (.f (.v _)) | exact .v (by ((repeat apply Look.there rfl); exact Look.here)) (.row rfl rfl) | exact .v (by ((repeat apply Look.there rfl); exact Look.here)) (.f .nil) | exact .a (by ((repeat apply Look.there rfl); exact Look.here)) | skip) .nil), oneB (by simp only [eqF, *, Bool.true_and, Bool.false_and])⟩ -- LEAF 2: ret
          ·
            refine no ?_
            refine no ?_
            refine no ?_
            refine no ?_
            refine no ?_
            refine pkF ?_
            refine mv ?_
            refine no ?_
            refine no ?_
            refine no ?_
            refine no ?_
            refine no ?_
            refine pkF ?_
            refine as_ ?_
            refine rNil ?_
            refine awp_ret ?_
            exact ⟨.inr rfl, _, (.cons (by first | exact .v (by ((repeat apply Look.there rfl); exact Look.here)) (.f (.v _)) | exact .v (by ((repeat apply Look.there rfl); exact Look.here)) (.row rfl rfl) | exact .v (by ((repeat apply Look.there rfl); exact Look.here)) (.f .nil) | exact .a (by ((repeat apply Look.there rfl); exact Look.here)) | skip) .nil), oneB (by simp only [eqF, *, Bool.true_and, Bool.false_and])⟩ -- LEAF 3: ret
        ·
          refine no ?_
          refine no ?_
          refine no ?_
          refine no ?_
          refine no ?_
          refine pkF ?_
          refine mv ?_
          refine no ?_
          refine no ?_
          refine no ?_
          refine no ?_
          refine no ?_
          refine pkF ?_
          refine mv ?_
          refine no ?_
          refine no ?_
          refine no ?_
          refine no ?_
          refine no ?_
          refine pkF ?_
          refine as_ ?_
          refine rNil ?_
          refine awp_ret ?_
          exact ⟨.inr rfl, _, (.cons (by first | exact .v (by ((repeat apply Look.there rfl); exact Look.here)) (.f (.v _)) | exact .v (by ((repeat apply Look.there rfl); exact Look.here)) (.row rfl rfl) | exact .v (by ((repeat apply Look.there rfl); exact Look.here)) (.f .nil) | exact .a (by ((repeat apply Look.there rfl); exact Look.here)) | skip) .nil), oneB (by simp only [eqF, *, Bool.true_and, Bool.false_and])⟩ -- LEAF 4: ret
      ·
        refine no ?_
        refine no ?_
        refine no ?_
        refine no ?_
        refine no ?_
        refine pkF ?_
        refine mv ?_
        refine no ?_
        refine no ?_
        refine no ?_
        refine no ?_
        refine no ?_
        refine pkF ?_
        refine mv ?_
        refine no ?_
        refine no ?_
        refine no ?_
        refine no ?_
        refine no ?_
        refine pkF ?_
        refine mv ?_
        refine no ?_
        refine no ?_
        refine no ?_
        refine no ?_
        refine no ?_
        refine pkF ?_
        refine as_ ?_
        refine rNil ?_
        refine awp_ret ?_
        exact ⟨.inr rfl, _, (.cons (by first | exact .v (by ((repeat apply Look.there rfl); exact Look.here)) (.f (.v _)) | exact .v (by ((repeat apply Look.there rfl); exact Look.here)) (.row rfl rfl) | exact .v (by ((repeat apply Look.there rfl); exact Look.here)) (.f .nil) | exact .a (by ((repeat apply Look.there rfl); exact Look.here)) | skip) .nil), oneB (by simp only [eqF, *, Bool.true_and, Bool.false_and])⟩ -- LEAF 5: ret
    ·
      refine no ?_
      refine no ?_
      refine no ?_
      refine no ?_
      refine no ?_
      refine pkF ?_
      refine mv ?_
      refine no ?_
      refine no ?_
      refine no ?_
      refine no ?_
      refine no ?_
      refine pkF ?_
      refine mv ?_
      refine no ?_
      refine no ?_
      refine no ?_
      refine no ?_
      refine no ?_
      refine pkF ?_
      refine mv ?_
      refine no ?_
      refine no ?_
      refine no ?_
      refine no ?_
      refine no ?_
      refine pkF ?_
      refine mv ?_
      refine no ?_
      refine no ?_
      refine no ?_
      refine no ?_
      refine no ?_
      refine pkF ?_
      refine as_ ?_
      refine rNil ?_
      refine awp_ret ?_
      exact ⟨.inr rfl, _, (.cons (by first | exact .v (by ((repeat apply Look.there rfl); exact Look.here)) (.f (.v _)) | exact .v (by ((repeat apply Look.there rfl); exact Look.here)) (.row rfl rfl) | exact .v (by ((repeat apply Look.there rfl); exact Look.here)) (.f .nil) | exact .a (by ((repeat apply Look.there rfl); exact Look.here)) | skip) .nil), oneB (by simp only [eqF, *, Bool.true_and, Bool.false_and])⟩ -- LEAF 6: ret
  ·
    refine no ?_
    refine no ?_
    refine no ?_
    refine no ?_
    refine no ?_
    refine pkF ?_
    refine mv ?_
    refine no ?_
    refine no ?_
    refine no ?_
    refine no ?_
    refine no ?_
    refine pkF ?_
    refine mv ?_
    refine no ?_
    refine no ?_
    refine no ?_
    refine no ?_
    refine no ?_
    refine pkF ?_
    refine mv ?_
    refine no ?_
    refine no ?_
    refine no ?_
    refine no ?_
    refine no ?_
    refine pkF ?_
    refine mv ?_
    refine no ?_
    refine no ?_
    refine no ?_
    refine no ?_
    refine no ?_
    refine pkF ?_
    refine mv ?_
    refine no ?_
    refine no ?_
    refine no ?_
    refine no ?_
    refine no ?_
    refine pkF ?_
    refine as_ ?_
    refine rNil ?_
    refine awp_ret ?_
    exact ⟨.inr rfl, _, (.cons (by first | exact .v (by ((repeat apply Look.there rfl); exact Look.here)) (.f (.v _)) | exact .v (by ((repeat apply Look.there rfl); exact Look.here)) (.row rfl rfl) | exact .v (by ((repeat apply Look.there rfl); exact Look.here)) (.f .nil) | exact .a (by ((repeat apply Look.there rfl); exact Look.here)) | skip) .nil), oneB (by simp only [eqF, *, Bool.true_and, Bool.false_and])⟩ -- LEAF 7: ret

/-- frustum/frustumref45.EqualAll -/
theorem c9 (l : List Frag) : Fn Try.prog 9 [L l, L l] (.one (B true)) := by
  refine fnI Try.func9 Try.ntmps9 fun hb => ?_
  have hla := bd_L (f := Enc.c) (l := l) hb (by simp)
  refine sg ?_
  refine as_ ?_
  refine rNil ?_
  refine sq ?_
  refine sg ?_
  refine mv ?_
  first | refine lnM ?_ | refine ln ?_ | refine lnO ?_ | refine lnN ?_ | refine lnW ?_
  refine mv ?_
  first | refine lnM ?_ | refine ln ?_ | refine lnO ?_ | refine lnN ?_ | refine lnW ?_
  refine bo ?_
  refine rNil ?_
  refine cn (fun h1 => ?_) (fun h1 => ?_)
  ·
    simp at h1 -- END
  ·
    refine awp_skip ?_
    refine tn ?_
    refine sq ?_
    refine sg ?_
    refine as_ ?_
    refine rNil ?_
    refine bk ?_
    refine lp (fun n S => ∃ k : Nat, n = l.length - k ∧ k ≤ l.length ∧ S = ⟨[(5, .r (I k)), (0, .r (L l)), (1, .r (L l))], []⟩) l.length ?_ ?_
    · exact wx 0 ⟨0, rfl, by omega, rfl⟩
    rintro n S ⟨k, hn, hk, rfl⟩
    refine sq ?_
    refine sg ?_
    refine mv ?_
    refine mv ?_
    first | refine lnM ?_ | refine ln ?_ | refine lnO ?_ | refine lnN ?_ | refine lnW ?_
    refine bo ?_
    refine rNil ?_
    refine cn (fun h2 => ?_) (fun h2 => ?_)
    ·
      obtain ⟨x, hx⟩ := ex_get (show k < l.length by simp at h2; omega)
      have hk1 : k < l.length := by simp at h2; omega
      refine awp_skip ?_
      refine tn ?_
      refine sq ?_
      refine bk ?_
      refine sd mixO ?_
      refine mv ?_
      refine mv ?_
      first | refine xs_ ?_ | refine xo ?_ | refine xw ?_
      first | refine lAf ?_ | refine lAb ?_ | refine lAo ?_
      refine mv ?_
      refine mv ?_
      first | refine xs_ ?_ | refine xo ?_ | refine xw ?_
      first | refine lAf ?_ | refine lAb ?_ | refine lAo ?_
      refine cl (c12 x x) ?_
      refine nt ?_
      refine rNil ⟨rfl, ?_⟩
      refine cn (fun h3 => ?_) (fun h3 => ?_)
      ·
        rw [eqF_refl] at h3; cases h3 -- END
      ·
        refine awp_skip ?_
        refine bn_ ?_
        refine tn ?_
        refine rg ?_
        refine mv ?_
        refine bo ?_
        refine as_ ?_
        refine rNil ?_
        refine tn ?_
        exact ⟨l.length - (k + 1), by omega, wx 0 ⟨k + 1, rfl, by omega, rfl⟩⟩ -- LEAF 1: round of loop 1
    ·
      refine awp_exit ?_
      refine te ?_
      refine te ?_
      refine xbk ?_
      refine tn ?_
      refine sg ?_
      refine as_ ?_
      refine rNil ?_
      refine awp_ret ?_
      exact ⟨.inr rfl, _, (.cons (by first | exact .v (by ((repeat apply Look.there rfl); exact Look.here)) (.f (.v _)) | exact .v (by ((repeat apply Look.there rfl); exact Look.here)) (.row rfl rfl) | exact .v (by ((repeat apply Look.there rfl); exact Look.here)) (.f .nil) | exact .a (by ((repeat apply Look.there rfl); exact Look.here)) | skip) .nil), rfl⟩ -- LEAF 2: ret

structure Area where
  t : Tri
  x : Int
  y : Int
  w : Int
  h : Int
  s : Int
instance : Enc Area := ⟨fun a => Enc.c a.t ++ [.i .i64 a.x, .i .i64 a.y, .i .i64 a.w, .i .i64 a.h, .i .i64 a.s]⟩
def fitP (a : Area) : Prop := -100 ≤ a.x ∧ a.x ≤ 100 ∧ -100 ≤ a.y ∧ a.y ≤ 100 ∧ a.w ≤ 100 ∧ a.h ≤ 100 ∧ a.t.v.a.vs.length ≤ 100
instance (a : Area) : Decidable (fitP a) := inferInstanceAs (Decidable (_ ∧ _))
/-- frustum/frustumlaw45.fits -/
theorem c7 (a : Area) : Fn Try.prog 7 [A a] (.one (B (decide (fitP a)))) := by
  refine fnI Try.func7 Try.ntmps7 fun hb => ?_
  refine sg ?_
  refine bx _ ?_
  refine as_ ?_
  refine rNil ?_
  refine sg ?_
  first | refine ff ?_ | refine fb ?_ | refine fo ?_
  first | refine l1f ?_ | refine l1b ?_ | refine l1o ?_
  refine bo ?_
  refine mv ?_
  refine gd (fun h1 => ?_) (fun h1 => ?_)
  ·
    first | refine ff ?_ | refine fb ?_ | refine fo ?_
    first | refine l1f ?_ | refine l1b ?_ | refine l1o ?_
    refine bo ?_
    refine pkT ?_
    refine mv ?_
    refine gd (fun h2 => ?_) (fun h2 => ?_)
    ·
      first | refine ff ?_ | refine fb ?_ | refine fo ?_
      first | refine l1f ?_ | refine l1b ?_ | refine l1o ?_
      refine bo ?_
      refine pkT ?_
      refine mv ?_
      refine gd (fun h3 => ?_) (fun h3 => ?_)
      ·
        first | refine ff ?_ | refine fb ?_ | refine fo ?_
        first | refine l1f ?_ | refine l1b ?_ | refine l1o ?_
        refine bo ?_
        refine pkT ?_
        refine mv ?_
        refine gd (fun h4 => ?_) (fun h4 => ?_)
        ·
          first | refine ff ?_ | refine fb ?_ | refine fo ?_
          first | refine l1f ?_ | refine l1b ?_ | refine l1o ?_
          refine bo ?_
          refine pkT ?_
          refine mv ?_
          refine gd (fun h5 => ?_) (fun h5 => ?_)
          ·
            first | refine ff ?_ | refine fb ?_ | refine fo ?_
            first | refine l1f ?_ | refine l1b ?_ | refine l1o ?_
            refine bo ?_
            refine pkT ?_
            refine as_ ?_
            refine rNil ?_
            refine sg ?_
            refine mv ?_
            refine mv ?_
            refine gd (fun h6 => ?_) (fun h6 => ?_)
            ·
              first | refine ff ?_ | refine fb ?_ | refine fo ?_
              first | refine ff ?_ | refine fb ?_ | refine fo ?_
              first | refine xf ?_ | refine xb ?_ | refine xoa ?_
              first | refine ff ?_ | refine fb ?_ | refine fo ?_
              first | refine l1f ?_ | refine l1b ?_ | refine l1o ?_
              first | refine lnM ?_ | refine ln ?_ | refine lnO ?_ | refine lnN ?_ | refine lnW ?_
              refine bo ?_
              refine pkT ?_
              refine as_ ?_
              refine rNil ?_
              refine awp_ret ?_
              exact ⟨.inr rfl, _, (.cons (by first | exact .v (by ((repeat apply Look.there rfl); exact Look.here)) (.f (.v _)) | exact .v (by ((repeat apply Look.there rfl); exact Look.here)) (.row rfl rfl) | exact .v (by ((repeat apply Look.there rfl); exact Look.here)) (.f .nil) | exact .a (by ((repeat apply Look.there rfl); exact Look.here)) | skip) .nil), oneB (by simp only [decide_eq_true_eq, decide_eq_false_iff_not] at *; unfold fitP; first | (apply decide_eq_decide.2; omega) | exact (decide_eq_false (by omega)).symm | exact (decide_eq_true (by omega)).symm)⟩ -- LEAF 1: ret
            ·
              refine no ?_
              refine no ?_
              refine no ?_
              refine no ?_
              refine no ?_
              refine no ?_
              refine no ?_
              refine pkF ?_
              refine as_ ?_
              refine rNil ?_
              refine awp_ret ?_
              exact ⟨.inr rfl, _, (.cons (by first | exact .v (by ((repeat apply Look.there rfl); exact Look.here)) (.f (.v _)) | exact .v (by ((repeat apply Look.there rfl); exact Look.here)) (.row rfl rfl) | exact .v (by ((repeat apply Look.there rfl); exact Look.here)) (.f .nil) | exact .a (by ((repeat apply Look.there rfl); exact Look.here)) | skip) .nil), oneB (by simp only [decide_eq_true_eq, decide_eq_false_iff_not] at *; unfold fitP; first | (apply decide_eq_decide.2; omega) | exact (decide_eq_false (by omega)).symm | exact (decide_eq_true (by omega)).symm)⟩ -- LEAF 2: ret
          ·
            refine no ?_
            refine no ?_
            refine no ?_
            refine pkF ?_
            refine as_ ?_
            refine rNil ?_
            refine sg ?_
            refine mv ?_
            refine mv ?_
            refine no ?_
            refine no ?_
            refine no ?_
            refine no ?_
            refine no ?_
            refine no ?_
            refine no ?_
            refine pkF ?_
            refine as_ ?_
            refine rNil ?_
            refine awp_ret ?_
            exact ⟨.inr rfl, _, (.cons (by first | exact .v (by ((repeat apply Look.there rfl); exact Look.here)) (.f (.v _)) | exact .v (by ((repeat apply Look.there rfl); exact Look.here)) (.row rfl rfl) | exact .v (by ((repeat apply Look.there rfl); exact Look.here)) (.f .nil) | exact .a (by ((repeat apply Look.there rfl); exact Look.here)) | skip) .nil), oneB (by simp only [decide_eq_true_eq, decide_eq_false_iff_not] at *; unfold fitP; first | (apply decide_eq_decide.2; omega) | exact (decide_eq_false (by omega)).symm | exact (decide_eq_true (by omega)).symm)⟩ -- LEAF 3: ret
        ·
          refine no ?_
          refine no ?_
          refine no ?_
          refine pkF ?_
          refine mv ?_
          refine no ?_
          refine no ?_
          refine no ?_
          refine pkF ?_
          refine as_ ?_
          refine rNil ?_
          refine sg ?_
          refine mv ?_
          refine mv ?_
          refine no ?_
          refine no ?_
          refine no ?_
          refine no ?_
          refine no ?_
          refine no ?_
          refine no ?_
          refine pkF ?_
          refine as_ ?_
          refine rNil ?_
          refine awp_ret ?_
          exact ⟨.inr rfl, _, (.cons (by first | exact .v (by ((repeat apply Look.there rfl); exact Look.here)) (.f (.v _)) | exact .v (by ((repeat apply Look.there rfl); exact Look.here)) (.row rfl rfl) | exact .v (by ((repeat apply Look.there rfl); exact Look.here)) (.f .nil) | exact .a (by ((repeat apply Look.there rfl); exact Look.here)) | skip) .nil), oneB (by simp only [decide_eq_true_eq, decide_eq_false_iff_not] at *; unfold fitP; first | (apply decide_eq_decide.2; omega) | exact (decide_eq_false (by omega)).symm | exact (decide_eq_true (by omega)).symm)⟩ -- LEAF 4: ret
      ·
        refine no ?_
        refine no ?_
        refine no ?_
        refine pkF ?_
        refine mv ?_
        refine no ?_
        refine no ?_
        refine no ?_
        refine pkF ?_
        refine mv ?_
        refine no ?_
        refine no ?_
        refine no ?_
        refine pkF ?_
        refine as_ ?_
        refine rNil ?_
        refine sg ?_
        refine mv ?_
        refine mv ?_
        refine no ?_
        refine no ?_
        refine no ?_
        refine no ?_
        refine no ?_
        refine no ?_
        refine no ?_
        refine pkF ?_
        refine as_ ?_
        refine rNil ?_
        refine awp_ret ?_
        exact ⟨.inr rfl, _, (.cons (by first | exact .v (by ((repeat apply Look.there rfl); exact Look.here)) (.f (.v _)) | exact .v (by ((repeat apply Look.there rfl); exact Look.here)) (.row rfl rfl) | exact .v (by ((repeat apply Look.there rfl); exact Look.here)) (.f .nil) | exact .a (by ((repeat apply Look.there rfl); exact Look.here)) | skip) .nil), oneB (by simp only [decide_eq_true_eq, decide_eq_false_iff_not] at *; unfold fitP; first | (apply decide_eq_decide.2; omega) | exact (decide_eq_false (by omega)).symm | exact (decide_eq_true (by omega)).symm)⟩ -- LEAF 5: ret
    ·
      refine no ?_
      refine no ?_
      refine no ?_
      refine pkF ?_
      refine mv ?_
      refine no ?_
      refine no ?_
      refine no ?_
      refine pkF ?_
      refine mv ?_
      refine no ?_
      refine no ?_
      refine no ?_
      refine pkF ?_
      refine mv ?_
      refine no ?_
      refine no ?_
      refine no ?_
      refine pkF ?_
      refine as_ ?_
      refine rNil ?_
      refine sg ?_
      refine mv ?_
      refine mv ?_
      refine no ?_
      refine no ?_
      refine no ?_
      refine no ?_
      refine no ?_
      refine no ?_
      refine no ?_
      refine pkF ?_
      refine as_ ?_
      refine rNil ?_
      refine awp_ret ?_
      exact ⟨.inr rfl, _, (.cons (by first | exact .v (by ((repeat apply Look.there rfl); exact Look.here)) (.f (.v _)) | exact .v (by ((repeat apply Look.there rfl); exact Look.here)) (.row rfl rfl) | exact .v (by ((repeat apply Look.there rfl); exact Look.here)) (.f .nil) | exact .a (by ((repeat apply Look.there rfl); exact Look.here)) | skip) .nil), oneB (by simp only [decide_eq_true_eq, decide_eq_false_iff_not] at *; unfold fitP; first | (apply decide_eq_decide.2; omega) | exact (decide_eq_false (by omega)).symm | exact (decide_eq_true (by omega)).symm)⟩ -- LEAF 6: ret
  ·
    refine no ?_
    refine no ?_
    refine no ?_
    refine pkF ?_
    refine mv ?_
    refine no ?_
    refine no ?_
    refine no ?_
    refine pkF ?_
    refine mv ?_
    refine no ?_
    refine no ?_
    refine no ?_
    refine pkF ?_
    refine mv ?_
    refine no ?_
    refine no ?_
    refine no ?_
    refine pkF ?_
    refine mv ?_
    refine no ?_
    refine no ?_
    refine no ?_
    refine pkF ?_
    refine as_ ?_
    refine rNil ?_
    refine sg ?_
    refine mv ?_
    refine mv ?_
    refine no ?_
    refine no ?_
    refine no ?_
    refine no ?_
    refine no ?_
    refine no ?_
    refine no ?_
    refine pkF ?_
    refine as_ ?_
    refine rNil ?_
    refine awp_ret ?_
    exact ⟨.inr rfl, _, (.cons (by first | exact .v (by ((repeat apply Look.there rfl); exact Look.here)) (.f (.v _)) | exact .v (by ((repeat apply Look.there rfl); exact Look.here)) (.row rfl rfl) | exact .v (by ((repeat apply Look.there rfl); exact Look.here)) (.f .nil) | exact .a (by ((repeat apply Look.there rfl); exact Look.here)) | skip) .nil), oneB (by simp only [decide_eq_true_eq, decide_eq_false_iff_not] at *; unfold fitP; first | (apply decide_eq_decide.2; omega) | exact (decide_eq_false (by omega)).symm | exact (decide_eq_true (by omega)).symm)⟩ -- LEAF 7: ret

def exT : Tri := ⟨⟨⟨0, 0, 0, 65536, []⟩, ⟨768, 0, 0, 65536, []⟩, ⟨0, 256, 0, 65536, []⟩⟩, 4, false⟩
theorem T3_ext {a b : T3 Int} (h : (a.a, a.b, a.c) = (b.a, b.b, b.c)) : a = b := by
  obtain ⟨a1, a2, a3⟩ := a; obtain ⟨b1, b2, b3⟩ := b; cases h; rfl
theorem map_inj {α β : Type} {f : α → β} (hf : ∀ {x y}, f x = f y → x = y) : ∀ {l m : List α}, l.map f = m.map f → l = m
  | [], [], _ => rfl
  | [], _ :: _, h => by cases h
  | _ :: _, [], h => by cases h
  | a :: l, b :: m, h => by
    simp only [List.map_cons, List.cons.injEq] at h
    rw [hf h.1, map_inj hf h.2]
set_option maxRecDepth 100000 in
theorem ex_pix1 : pixP exT 0 0 8 8 1 = [⟨0, 0, 1⟩] := map_inj (f := fun p => (p.a, p.b, p.c)) T3_ext (by decide +kernel)
set_option maxRecDepth 100000 in
theorem ex_pix2 : pixP exT 0 1 8 8 1 = [] := map_inj (f := fun p => (p.a, p.b, p.c)) T3_ext (by decide +kernel)
/-- frustum/frustumlaw45.example -/
theorem c8 : Fn Try.prog 8 [] (.one (B true)) := by
  have e1 : Fn Try.prog 10 [A exT, I 0, I 0, I 8, I 8, I 1] (.one (L [frag exT 1 ⟨0, 0, 1⟩])) := by
    have h := c10 exT 0 0 8 8 1 (by decide) (by decide) (by decide) (by decide) (by decide)
    rw [genF, ex_pix1] at h; exact h
  have e2 : Fn Try.prog 10 [A exT, I 0, I 1, I 8, I 8, I 1] (.one (L ([] : List Frag))) := by
    have h := c10 exT 0 1 8 8 1 (by decide) (by decide) (by decide) (by decide) (by decide)
    rw [genF, ex_pix2] at h; exact h
  refine fnI Try.func8 Try.ntmps8 fun hb => ?_
  refine sg ?_
  refine as_ ?_
  refine rNil ?_
  refine sg ?_
  refine buS ?_
  refine buS ?_
  refine buS ?_
  refine buA ?_
  refine buS ?_
  refine al _ ?_
  refine sA ?_
  refine rNil ?_
  refine sg ?_
  first | refine lAf ?_ | refine lAb ?_ | refine lAo ?_
  refine cl (e1) ?_
  refine as_ ?_
  refine rNil ?_
  refine sg ?_
  first | refine lAf ?_ | refine lAb ?_ | refine lAo ?_
  refine cl (e2) ?_
  first | refine lnM ?_ | refine ln ?_ | refine lnO ?_ | refine lnN ?_ | refine lnW ?_
  refine bo ?_
  refine mv ?_
  refine gd (fun h1 => ?_) (fun h1 => ?_)
  ·
    refine mv ?_
    first | refine lnM ?_ | refine ln ?_ | refine lnO ?_ | refine lnN ?_ | refine lnW ?_
    refine bo ?_
    refine pkT ?_
    refine mv ?_
    refine gd (fun h2 => ?_) (fun h2 => ?_)
    ·
      refine mv ?_
      first | refine xs_ ?_ | refine xo ?_ | refine xw ?_
      first | refine ff ?_ | refine fb ?_ | refine fo ?_
      first | refine l1f ?_ | refine l1b ?_ | refine l1o ?_
      refine bo ?_
      refine pkT ?_
      refine mv ?_
      refine gd (fun h3 => ?_) (fun h3 => ?_)
      ·
        refine mv ?_
        first | refine xs_ ?_ | refine xo ?_ | refine xw ?_
        first | refine ff ?_ | refine fb ?_ | refine fo ?_
        first | refine l1f ?_ | refine l1b ?_ | refine l1o ?_
        refine bo ?_
        refine pkT ?_
        refine mv ?_
        refine gd (fun h4 => ?_) (fun h4 => ?_)
        ·
          refine mv ?_
          first | refine xs_ ?_ | refine xo ?_ | refine xw ?_
          first | refine ff ?_ | refine fb ?_ | refine fo ?_
          first | refine l1f ?_ | refine l1b ?_ | refine l1o ?_
          refine bo ?_
          refine pkT ?_
          refine mv ?_
          refine gd (fun h5 => ?_) (fun h5 => ?_)
          ·
            refine mv ?_
            first | refine xs_ ?_ | refine xo ?_ | refine xw ?_
            first | refine ff ?_ | refine fb ?_ | refine fo ?_
            first | refine l1f ?_ | refine l1b ?_ | refine l1o ?_
            first | refine lnM ?_ | refine ln ?_ | refine lnO ?_ | refine lnN ?_ | refine lnW ?_
            refine bo ?_
            refine pkT ?_
            refine as_ ?_
            refine rNil ?_
            refine awp_ret ?_
            exact ⟨.inr rfl, _, (.cons (by first | exact .v (by ((repeat apply Look.there rfl); exact Look.here)) (.f (.v _)) | exact .v (by ((repeat apply Look.there rfl); exact Look.here)) (.row rfl rfl) | exact .v (by ((repeat apply Look.there rfl); exact Look.here)) (.f .nil) | exact .a (by ((repeat apply Look.there rfl); exact Look.here)) | skip) .nil), oneB (by decide)⟩ -- LEAF 1: ret
          ·
            exact absurd h5 (by decide) -- END
        ·
          exact absurd h4 (by decide) -- END
      ·
        exact absurd h3 (by decide) -- END
    ·
      exact absurd h2 (by decide) -- END
  ·
    exact absurd h1 (by decide) -- END

/-- frustum/frustumlaw45.FragmentsComplete -/
theorem c3 (a : Area) : Fn Try.prog 3 [A a] (.one (B true)) := by
  refine fnI Try.func3 Try.ntmps3 fun hb => ?_
  refine sg ?_
  refine bx _ ?_
  refine as_ ?_
  refine rNil ?_
  refine sq ?_
  refine sg ?_
  first | refine lAf ?_ | refine lAb ?_ | refine lAo ?_
  refine cl (c7 a) ?_
  refine nt ?_
  refine rNil ?_
  refine cn (fun h1 => ?_) (fun h1 => ?_)
  ·
    refine sg ?_
    refine cl (c8) ?_
    refine as_ ?_
    refine rNil ?_
    refine awp_ret ?_
    refine tr ?_
    exact ⟨.inr rfl, _, (.cons (by first | exact .v (by ((repeat apply Look.there rfl); exact Look.here)) (.f (.v _)) | exact .v (by ((repeat apply Look.there rfl); exact Look.here)) (.row rfl rfl) | exact .v (by ((repeat apply Look.there rfl); exact Look.here)) (.f .nil) | exact .a (by ((repeat apply Look.there rfl); exact Look.here)) | skip) .nil), rfl⟩ -- LEAF 1: ret
  ·
    have hf : fitP a := by simpa using h1
    unfold fitP at hf
    refine awp_skip ?_
    refine tn ?_
    refine sd mixO ?_
    first | refine ff ?_ | refine fb ?_ | refine fo ?_
    first | refine lAf ?_ | refine lAb ?_ | refine lAo ?_
    first | refine ff ?_ | refine fb ?_ | refine fo ?_
    first | refine l1f ?_ | refine l1b ?_ | refine l1o ?_
    first | refine ff ?_ | refine fb ?_ | refine fo ?_
    first | refine l1f ?_ | refine l1b ?_ | refine l1o ?_
    first | refine ff ?_ | refine fb ?_ | refine fo ?_
    first | refine l1f ?_ | refine l1b ?_ | refine l1o ?_
    first | refine ff ?_ | refine fb ?_ | refine fo ?_
    first | refine l1f ?_ | refine l1b ?_ | refine l1o ?_
    first | refine ff ?_ | refine fb ?_ | refine fo ?_
    first | refine l1f ?_ | refine l1b ?_ | refine l1o ?_
    refine cl (c10 a.t a.x a.y a.w a.h a.s (by omega) (by omega) (by omega) (by omega) (by omega)) ?_
    first | refine ff ?_ | refine fb ?_ | refine fo ?_
    first | refine lAf ?_ | refine lAb ?_ | refine lAo ?_
    first | refine ff ?_ | refine fb ?_ | refine fo ?_
    first | refine l1f ?_ | refine l1b ?_ | refine l1o ?_
    first | refine ff ?_ | refine fb ?_ | refine fo ?_
    first | refine l1f ?_ | refine l1b ?_ | refine l1o ?_
    first | refine ff ?_ | refine fb ?_ | refine fo ?_
    first | refine l1f ?_ | refine l1b ?_ | refine l1o ?_
    first | refine ff ?_ | refine fb ?_ | refine fo ?_
    first | refine l1f ?_ | refine l1b ?_ | refine l1o ?_
    first | refine ff ?_ | refine fb ?_ | refine fo ?_
    first | refine l1f ?_ | refine l1b ?_ | refine l1o ?_
    refine cl ((by have h := c11 a.t a.x a.y a.w a.h a.s (by omega) (by omega) (by omega) (by omega) (by omega); rw [gen_eq a.t (by omega) (by omega)] at h; exact h)) ?_
    refine cl (c9 (genF a.t a.x a.y a.w a.h a.s)) ?_
    refine mv ?_
    refine gd (fun h2 => ?_) (fun h2 => ?_)
    ·
      refine cl (c8) ?_
      refine pkT ?_
      refine as_ ?_
      refine rNil ⟨rfl, ?_⟩
      refine awp_ret ?_
      exact ⟨.inr rfl, _, (.cons (by first | exact .v (by ((repeat apply Look.there rfl); exact Look.here)) (.f (.v _)) | exact .v (by ((repeat apply Look.there rfl); exact Look.here)) (.row rfl rfl) | exact .v (by ((repeat apply Look.there rfl); exact Look.here)) (.f .nil) | exact .a (by ((repeat apply Look.there rfl); exact Look.here)) | skip) .nil), rfl⟩ -- LEAF 2: ret
    ·
      cases h2 -- END

end Go.Proofs.Ytlaaigljlhkdpaa.VS
