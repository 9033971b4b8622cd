/- The walks of functions: what each computes, by itself. Conditions: none. -/
import Derived.Test.YtlaaigljlhkdpaaF11
set_option linter.unusedVariables false
set_option linter.unusedSimpArgs false
namespace Go.Proofs.Ytlaaigljlhkdpaa.VS
open Go
theorem filter_fm {α β : Type} (q : β → Bool) (f : α → List β) : ∀ l : List α, (l.flatMap f).filter q = l.flatMap fun x => (f x).filter q
  | [] => rfl
  | a :: l => by rw [List.flatMap_cons, List.flatMap_cons, List.filter_append, filter_fm q f l]
theorem pixl_filter (t : Tri) (n x y : Int) (q : T3 Int → Bool) (b : Bool) (h : ∀ m, q ⟨x, y, m⟩ = b) : (pixl t n x y).filter q = if b = true then pixl t n x y else [] := by
  unfold pixl
  split
  · simp
  · rw [List.filter_cons, h]; cases b <;> simp
theorem split_pix (t : Tri) (x0 y0 w h n : Int) (q : T3 Int → Bool) (x1 w1 : Int) (hq : ∀ x y m : Int, (spanF x0 w x && q ⟨x, y, m⟩) = spanF x1 w1 x) : (pixR t x0 y0 w h n 64).filter q = pixR t x1 y0 w1 h n 64 := by
  unfold pixR
  rw [filter_fm]
  refine fm_congr fun y _ => ?_
  unfold pixQ
  rw [filter_fm]
  refine fm_congr fun x _ => ?_
  have h1 : ∀ m, (spanF x0 w x && q ⟨x, y, m⟩) = spanF x1 w1 x := fun m => hq x y m
  cases hs : spanF x0 w x with
  | false =>
    have h2 := h1 0
    rw [hs] at h2
    simp only [Bool.false_and] at h2
    rw [← h2]; simp
  | true =>
    rw [hs] at h1
    simp only [Bool.true_and] at h1
    cases spanF y0 h y with
    | false => simp
    | true =>
      simp only [Bool.true_and, Bool.and_true, if_true]
      exact pixl_filter t n x y q _ h1
def ltX (c : Int) (f : Frag) : Bool := decide (f.x < c)
theorem split_l (t : Tri) {x0 y0 w h n cut : Int} (hx : -100 ≤ x0 ∧ x0 ≤ 100) (hy : -100 ≤ y0 ∧ y0 ≤ 100) (hc : 0 ≤ cut ∧ cut ≤ w) (hw : w ≤ 100) : genF t x0 y0 cut h n = (genF t x0 y0 w h n).filter (ltX (x0 + cut)) := by
  unfold genF
  rw [← pix_eq t (by omega) (by omega), ← pix_eq t (by omega) (by omega), List.filter_map]
  rw [split_pix t x0 y0 w h n (ltX (x0 + cut) ∘ frag t n.toNat) x0 cut]
  intro x y m
  show (decide (x0 ≤ x ∧ x < x0 + w) && decide (x < x0 + cut)) = decide (x0 ≤ x ∧ x < x0 + cut)
  rw [Bool.eq_iff_iff]
  simp only [Bool.and_eq_true, decide_eq_true_eq]
  omega
theorem split_r (t : Tri) {x0 y0 w h n cut : Int} (hx : -100 ≤ x0 ∧ x0 ≤ 100) (hy : -100 ≤ y0 ∧ y0 ≤ 100) (hc : 0 ≤ cut ∧ cut ≤ w) (hw : w ≤ 100) : genF t (x0 + cut) y0 (w - cut) h n = (genF t x0 y0 w h n).filter (fun f => !ltX (x0 + cut) f) := by
  unfold genF
  rw [← pix_eq t (by omega) (by omega), ← pix_eq t (by omega) (by omega), List.filter_map]
  rw [split_pix t x0 y0 w h n ((fun f => !ltX (x0 + cut) f) ∘ frag t n.toNat) (x0 + cut) (w - cut)]
  intro x y m
  show (decide (x0 ≤ x ∧ x < x0 + w) && !decide (x < x0 + cut)) = decide (x0 + cut ≤ x ∧ x < x0 + cut + (w - cut))
  rw [Bool.eq_iff_iff]
  simp only [Bool.and_eq_true, Bool.not_eq_true', decide_eq_true_eq, decide_eq_false_iff_not]
  omega
theorem filter_at {α : Type} (q : α → Bool) {l : List α} {k : Nat} {x : α} (h : l[k]? = some x) (hq : q x = true) : (l.filter q)[((l.take k).filter q).length]? = some x := by
  have e : l = l.take k ++ x :: l.drop (k + 1) := by
    have h1 := List.getElem?_eq_some_iff.1 h
    obtain ⟨hk, h2⟩ := h1
    rw [← h2, ← List.drop_eq_getElem_cons hk, List.take_append_drop]
  have e2 : l.filter q = (l.take k).filter q ++ x :: (l.drop (k + 1)).filter q := by
    conv => lhs; rw [e]
    rw [List.filter_append, List.filter_cons, hq, if_pos rfl]
  rw [e2]
  simp
theorem filter_snoc {α : Type} (q : α → Bool) {l : List α} {k : Nat} {x : α} (h : l[k]? = some x) : ((l.take (k + 1)).filter q).length = ((l.take k).filter q).length + if q x = true then 1 else 0 := by
  rw [take_snoc h, List.filter_append, List.length_append, List.filter_cons]
  cases q x <;> simp
abbrev areaC (a : Area) : List Slot := [.r (I a.t.v.a.x), .r (I a.t.v.a.y), .r (I a.t.v.a.z), .r (I a.t.v.a.w), .r (.v (.sl (a.t.v.a.vs.map Enc.c))), .r (I a.t.v.b.x), .r (I a.t.v.b.y), .r (I a.t.v.b.z), .r (I a.t.v.b.w), .r (.v (.sl (a.t.v.b.vs.map Enc.c))), .r (I a.t.v.c.x), .r (I a.t.v.c.y), .r (I a.t.v.c.z), .r (I a.t.v.c.w), .r (.v (.sl (a.t.v.c.vs.map Enc.c))), .r (I a.t.prim), .r (B a.t.front), .r (I a.x), .r (I a.y), .r (I a.w), .r (I a.h), .r (I a.s)]
/-- frustum/frustumlaw45.FragmentsSplit -/
theorem c4 (a : Area) (cut : Int) : Fn Try.prog 4 [A a, I cut] (.one (B true)) := by
  refine fnI Try.func4 Try.ntmps4 fun hb => ?_
  refine sg ?_
  refine bx _ ?_
  refine as_ ?_
  refine rNil ?_
  refine sq ?_
  refine sg ?_
  first | refine lAf ?_ | refine lAb ?_ | refine lAo ?_
  refine cl (c7 a) ?_
  refine nt ?_
  refine mv ?_
  refine gd (fun h1 => ?_) (fun h1 => ?_)
  ·
    refine no ?_
    refine no ?_
    refine no ?_
    refine pkT ?_
    refine mv ?_
    refine no ?_
    refine no ?_
    refine pkT ?_
    refine mv ?_
    refine no ?_
    refine no ?_
    refine no ?_
    refine no ?_
    refine pkT ?_
    refine rNil ?_
    refine cn (fun h2 => ?_) (fun h2 => ?_)
    ·
      refine sg ?_
      refine cl (c8) ?_
      refine as_ ?_
      refine rNil ?_
      refine awp_ret ?_
      refine tr ?_
      exact ⟨.inr rfl, _, (.cons (by first | exact .v (by ((repeat apply Look.there rfl); exact Look.here)) (.f (.v _)) | exact .v (by ((repeat apply Look.there rfl); exact Look.here)) (.row rfl rfl) | exact .v (by ((repeat apply Look.there rfl); exact Look.here)) (.f .nil) | exact .a (by ((repeat apply Look.there rfl); exact Look.here)) | skip) .nil), rfl⟩ -- LEAF 1: ret
    ·
      exact absurd h2 (by decide)
  ·
    first | refine ff ?_ | refine fb ?_ | refine fo ?_
    first | refine l1f ?_ | refine l1b ?_ | refine l1o ?_
    refine bo ?_
    refine pkF ?_
    refine mv ?_
    refine gd (fun h3 => ?_) (fun h3 => ?_)
    ·
      refine no ?_
      refine no ?_
      refine pkT ?_
      refine mv ?_
      refine no ?_
      refine no ?_
      refine no ?_
      refine no ?_
      refine pkT ?_
      refine rNil ?_
      refine cn (fun h4 => ?_) (fun h4 => ?_)
      ·
        refine sg ?_
        refine cl (c8) ?_
        refine as_ ?_
        refine rNil ?_
        refine awp_ret ?_
        refine tr ?_
        exact ⟨.inr rfl, _, (.cons (by first | exact .v (by ((repeat apply Look.there rfl); exact Look.here)) (.f (.v _)) | exact .v (by ((repeat apply Look.there rfl); exact Look.here)) (.row rfl rfl) | exact .v (by ((repeat apply Look.there rfl); exact Look.here)) (.f .nil) | exact .a (by ((repeat apply Look.there rfl); exact Look.here)) | skip) .nil), rfl⟩ -- LEAF 2: ret
      ·
        exact absurd h4 (by decide)
    ·
      refine mv ?_
      refine bo ?_
      refine pkF ?_
      refine mv ?_
      refine gd (fun h5 => ?_) (fun h5 => ?_)
      ·
        refine no ?_
        refine no ?_
        refine no ?_
        refine no ?_
        refine pkT ?_
        refine rNil ?_
        refine cn (fun h6 => ?_) (fun h6 => ?_)
        ·
          refine sg ?_
          refine cl (c8) ?_
          refine as_ ?_
          refine rNil ?_
          refine awp_ret ?_
          refine tr ?_
          exact ⟨.inr rfl, _, (.cons (by first | exact .v (by ((repeat apply Look.there rfl); exact Look.here)) (.f (.v _)) | exact .v (by ((repeat apply Look.there rfl); exact Look.here)) (.row rfl rfl) | exact .v (by ((repeat apply Look.there rfl); exact Look.here)) (.f .nil) | exact .a (by ((repeat apply Look.there rfl); exact Look.here)) | skip) .nil), rfl⟩ -- LEAF 3: ret
        ·
          exact absurd h6 (by decide)
      ·
        refine mv ?_
        first | refine ff ?_ | refine fb ?_ | refine fo ?_
        first | refine l1f ?_ | refine l1b ?_ | refine l1o ?_
        refine bo ?_
        refine pkF ?_
        refine rNil ?_
        refine cn (fun h7 => ?_) (fun h7 => ?_)
        ·
          refine sg ?_
          refine cl (c8) ?_
          refine as_ ?_
          refine rNil ?_
          refine awp_ret ?_
          refine tr ?_
          exact ⟨.inr rfl, _, (.cons (by first | exact .v (by ((repeat apply Look.there rfl); exact Look.here)) (.f (.v _)) | exact .v (by ((repeat apply Look.there rfl); exact Look.here)) (.row rfl rfl) | exact .v (by ((repeat apply Look.there rfl); exact Look.here)) (.f .nil) | exact .a (by ((repeat apply Look.there rfl); exact Look.here)) | skip) .nil), rfl⟩ -- LEAF 4: ret
        ·
          have hf : fitP a := by simpa using h1
          unfold fitP at hf
          have hc : 0 ≤ cut ∧ cut ≤ a.w := ⟨by simpa using h5, by simpa using h7⟩
          have hgl : (genF a.t a.x a.y a.w a.h a.s).length ≤ 4096 := by rw [genF, List.length_map]; exact pixP_len (by omega) (by omega)
          refine awp_skip ?_
          refine tn ?_
          refine sg ?_
          first | refine ff ?_ | refine fb ?_ | refine fo ?_
          first | refine lAf ?_ | refine lAb ?_ | refine lAo ?_
          first | refine ff ?_ | refine fb ?_ | refine fo ?_
          first | refine l1f ?_ | refine l1b ?_ | refine l1o ?_
          first | refine ff ?_ | refine fb ?_ | refine fo ?_
          first | refine l1f ?_ | refine l1b ?_ | refine l1o ?_
          refine mv ?_
          first | refine ff ?_ | refine fb ?_ | refine fo ?_
          first | refine l1f ?_ | refine l1b ?_ | refine l1o ?_
          first | refine ff ?_ | refine fb ?_ | refine fo ?_
          first | refine l1f ?_ | refine l1b ?_ | refine l1o ?_
          refine cl ((by have h := c10 a.t a.x a.y cut a.h a.s (by omega) (by omega) (by omega) (by omega) (by omega); rw [split_l a.t (by omega) (by omega) hc (by omega)] at h; exact h)) ?_
          refine as_ ?_
          refine rNil ?_
          refine sg ?_
          first | refine ff ?_ | refine fb ?_ | refine fo ?_
          first | refine lAf ?_ | refine lAb ?_ | refine lAo ?_
          first | refine ff ?_ | refine fb ?_ | refine fo ?_
          first | refine l1f ?_ | refine l1b ?_ | refine l1o ?_
          refine mv ?_
          refine bo ?_
          first | refine ff ?_ | refine fb ?_ | refine fo ?_
          first | refine l1f ?_ | refine l1b ?_ | refine l1o ?_
          first | refine ff ?_ | refine fb ?_ | refine fo ?_
          first | refine l1f ?_ | refine l1b ?_ | refine l1o ?_
          refine mv ?_
          refine bo ?_
          first | refine ff ?_ | refine fb ?_ | refine fo ?_
          first | refine l1f ?_ | refine l1b ?_ | refine l1o ?_
          first | refine ff ?_ | refine fb ?_ | refine fo ?_
          first | refine l1f ?_ | refine l1b ?_ | refine l1o ?_
          refine cl ((by have h := c10 a.t (a.x + cut) a.y (a.w - cut) a.h a.s (by omega) (by omega) (by omega) (by omega) (by omega); rw [split_r a.t (by omega) (by omega) hc (by omega)] at h; exact h)) ?_
          refine as_ ?_
          refine rNil ?_
          refine sg ?_
          first | refine ff ?_ | refine fb ?_ | refine fo ?_
          first | refine lAf ?_ | refine lAb ?_ | refine lAo ?_
          first | refine ff ?_ | refine fb ?_ | refine fo ?_
          first | refine l1f ?_ | refine l1b ?_ | refine l1o ?_
          first | refine ff ?_ | refine fb ?_ | refine fo ?_
          first | refine l1f ?_ | refine l1b ?_ | refine l1o ?_
          first | refine ff ?_ | refine fb ?_ | refine fo ?_
          first | refine l1f ?_ | refine l1b ?_ | refine l1o ?_
          first | refine ff ?_ | refine fb ?_ | refine fo ?_
          first | refine l1f ?_ | refine l1b ?_ | refine l1o ?_
          first | refine ff ?_ | refine fb ?_ | refine fo ?_
          first | refine l1f ?_ | refine l1b ?_ | refine l1o ?_
          refine cl (c10 a.t a.x a.y a.w a.h a.s (by omega) (by omega) (by omega) (by omega) (by omega)) ?_
          refine as_ ?_
          refine rNil ?_
          refine sg ?_
          refine as_ ?_
          refine as_ ?_
          refine rNil ?_
          refine sq ?_
          refine sg ?_
          refine as_ ?_
          refine rNil ?_
          refine bk ?_
          generalize genF a.t a.x a.y a.w a.h a.s = l at *
          refine lp (fun m S => ∃ k i j : Nat, m = l.length - k ∧ k ≤ l.length ∧ i = ((l.take k).filter (ltX (a.x + cut))).length ∧ j = ((l.take k).filter (fun f => !ltX (a.x + cut) f)).length ∧ S = ⟨[(10, .r (I k)), (8, .r (I i)), (9, .r (I j)), (7, .r (L l)), (5, .r (L (l.filter (ltX (a.x + cut))))), (6, .r (L (l.filter (fun f => !ltX (a.x + cut) f)))), (2, .box 0 0), (1, .r (I cut))], [.box 29 (areaC a)]⟩) l.length ?_ ?_
          · exact wx 1 ⟨0, 0, 0, by omega, by omega, rfl, rfl, rfl⟩
          rintro m S ⟨k, i, j, hm, hk, hi, hj, rfl⟩
          have hib := List.length_filter_le (ltX (a.x + cut)) (l.take k)
          have hjb := List.length_filter_le (fun f => !ltX (a.x + cut) f) (l.take k)
          rw [List.length_take] at hib hjb
          refine sq ?_
          refine sg ?_
          refine mv ?_
          refine mv ?_
          first | refine lnM ?_ | refine ln ?_ | refine lnO ?_ | refine lnN ?_ | refine lnW ?_
          refine bo ?_
          refine rNil ?_
          refine cn (fun h8 => ?_) (fun h8 => ?_)
          ·
            have hk1 : k < l.length := by simpa using h8
            obtain ⟨x, hx⟩ := ex_get hk1
            have hsl := filter_snoc (ltX (a.x + cut)) hx
            have hsr := filter_snoc (fun f => !ltX (a.x + cut) f) hx
            refine awp_skip ?_
            refine tn ?_
            refine sq ?_
            refine bk ?_
            refine bk ?_
            refine sd mixO ?_
            refine mv ?_
            refine mv ?_
            first | refine xs_ ?_ | refine xo ?_ | refine xw ?_
            first | refine ff ?_ | refine fb ?_ | refine fo ?_
            first | refine l1f ?_ | refine l1b ?_ | refine l1o ?_
            first | refine ff ?_ | refine fb ?_ | refine fo ?_
            first | refine l1f ?_ | refine l1b ?_ | refine l1o ?_
            refine mv ?_
            refine bo ?_
            refine bo ?_
            refine mv ?_
            refine gd (fun h9 => ?_) (fun h9 => ?_)
            ·
              have hq : ltX (a.x + cut) x = true := h9
              have hli := filter_at (ltX (a.x + cut)) hx hq
              rw [← hi] at hli
              have hlb := (List.getElem?_eq_some_iff.1 hli).1
              rw [hq] at hsl hsr
              refine mv ?_
              refine mv ?_
              first | refine lnM ?_ | refine ln ?_ | refine lnO ?_ | refine lnN ?_ | refine lnW ?_
              refine bo ?_
              refine pkT ?_
              refine mv ?_
              refine gd (fun h10 => ?_) (fun h10 => ?_)
              ·
                refine mv ?_
                refine mv ?_
                first | refine xs_ ?_ | refine xo ?_ | refine xw ?_
                first | refine lAf ?_ | refine lAb ?_ | refine lAo ?_
                refine mv ?_
                refine mv ?_
                first | refine xs_ ?_ | refine xo ?_ | refine xw ?_
                first | refine lAf ?_ | refine lAb ?_ | refine lAo ?_
                refine cl (c12 x x) ?_
                refine pkT ?_
                refine as_ ?_
                refine rNil ⟨rfl, ?_⟩
                refine cn (fun h11 => ?_) (fun h11 => ?_)
                ·
                  refine rg ?_
                  refine mv ?_
                  refine bo ?_
                  refine as_ ?_
                  refine rNil ?_
                  refine bn_ ?_
                  refine bn_ ?_
                  refine tn ?_
                  refine rg ?_
                  refine mv ?_
                  refine bo ?_
                  refine as_ ?_
                  refine rNil ?_
                  refine tn ?_
                  exact ⟨l.length - (k + 1), by omega, wx 1 ⟨k + 1, i + 1, j, rfl, by omega, by rw [hsl, ← hi]; rfl, by rw [hsr, ← hj]; rfl, rfl⟩⟩ -- LEAF 5: round of loop 1
                ·
                  rw [eqF_refl] at h11; cases h11 -- END
              ·
                simp at h10; omega -- END
            ·
              have hq : ltX (a.x + cut) x = false := h9
              have hri := filter_at (fun f => !ltX (a.x + cut) f) hx (by rw [hq]; rfl)
              rw [← hj] at hri
              have hrb := (List.getElem?_eq_some_iff.1 hri).1
              rw [hq] at hsl hsr
              refine no ?_
              refine no ?_
              refine no ?_
              refine no ?_
              refine pkF ?_
              refine mv ?_
              refine no ?_
              refine no ?_
              refine no ?_
              refine no ?_
              refine no ?_
              refine no ?_
              refine no ?_
              refine no ?_
              refine no ?_
              refine pkF ?_
              refine as_ ?_
              refine rNil ⟨rfl, ?_⟩
              refine cn (fun h12 => ?_) (fun h12 => ?_)
              ·
                exact absurd h12 (by decide)
              ·
                refine sd mixO ?_
                refine mv ?_
                refine mv ?_
                first | refine xs_ ?_ | refine xo ?_ | refine xw ?_
                first | refine ff ?_ | refine fb ?_ | refine fo ?_
                first | refine l1f ?_ | refine l1b ?_ | refine l1o ?_
                first | refine ff ?_ | refine fb ?_ | refine fo ?_
                first | refine l1f ?_ | refine l1b ?_ | refine l1o ?_
                refine mv ?_
                refine bo ?_
                refine bo ?_
                refine mv ?_
                refine gd (fun h13 => ?_) (fun h13 => ?_)
                ·
                  refine mv ?_
                  refine mv ?_
                  first | refine lnM ?_ | refine ln ?_ | refine lnO ?_ | refine lnN ?_ | refine lnW ?_
                  refine bo ?_
                  refine pkT ?_
                  refine mv ?_
                  refine gd (fun h14 => ?_) (fun h14 => ?_)
                  ·
                    refine mv ?_
                    refine mv ?_
                    first | refine xs_ ?_ | refine xo ?_ | refine xw ?_
                    first | refine lAf ?_ | refine lAb ?_ | refine lAo ?_
                    refine mv ?_
                    refine mv ?_
                    first | refine xs_ ?_ | refine xo ?_ | refine xw ?_
                    first | refine lAf ?_ | refine lAb ?_ | refine lAo ?_
                    refine cl (c12 x x) ?_
                    refine pkT ?_
                    refine as_ ?_
                    refine rNil ⟨rfl, ?_⟩
                    refine cn (fun h15 => ?_) (fun h15 => ?_)
                    ·
                      refine rg ?_
                      refine mv ?_
                      refine bo ?_
                      refine as_ ?_
                      refine rNil ?_
                      refine bn_ ?_
                      refine bn_ ?_
                      refine tn ?_
                      refine rg ?_
                      refine mv ?_
                      refine bo ?_
                      refine as_ ?_
                      refine rNil ?_
                      refine tn ?_
                      exact ⟨l.length - (k + 1), by omega, wx 1 ⟨k + 1, i, j + 1, rfl, by omega, by rw [hsl, ← hi]; rfl, by rw [hsr, ← hj]; rfl, rfl⟩⟩ -- LEAF 6: round of loop 1
                    ·
                      rw [eqF_refl] at h15; cases h15 -- END
                  ·
                    simp at h14; omega -- END
                ·
                  have h13' : x.x < a.x + cut := by simpa using h13
                  exact absurd (decide_eq_true h13') (by show ¬ ltX (a.x + cut) x = true; rw [hq]; decide) -- END
          ·
            have hkk : k = l.length := by simp at h8; omega
            subst hkk
            rw [List.take_length] at hi hj
            refine awp_exit ?_
            refine te ?_
            refine te ?_
            refine xbk ?_
            refine tn ?_
            refine sg ?_
            refine mv ?_
            refine mv ?_
            first | refine lnM ?_ | refine ln ?_ | refine lnO ?_ | refine lnN ?_ | refine lnW ?_
            refine bo ?_
            refine mv ?_
            refine gd (fun h16 => ?_) (fun h16 => ?_)
            ·
              refine mv ?_
              refine mv ?_
              first | refine lnM ?_ | refine ln ?_ | refine lnO ?_ | refine lnN ?_ | refine lnW ?_
              refine bo ?_
              refine pkT ?_
              refine mv ?_
              refine gd (fun h17 => ?_) (fun h17 => ?_)
              ·
                refine cl (c8) ?_
                refine pkT ?_
                refine as_ ?_
                refine rNil ?_
                refine awp_ret ?_
                exact ⟨.inr rfl, _, (.cons (by first | exact .v (by ((repeat apply Look.there rfl); exact Look.here)) (.f (.v _)) | exact .v (by ((repeat apply Look.there rfl); exact Look.here)) (.row rfl rfl) | exact .v (by ((repeat apply Look.there rfl); exact Look.here)) (.f .nil) | exact .a (by ((repeat apply Look.there rfl); exact Look.here)) | skip) .nil), rfl⟩ -- LEAF 7: ret
              ·
                rw [hj] at h17; simp at h17 -- END
            ·
              rw [hi] at h16; simp at h16 -- END

end Go.Proofs.Ytlaaigljlhkdpaa.VS
