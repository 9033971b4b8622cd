/- The walks of functions: what each computes, by itself. Conditions: none. -/
import Derived.Test.YtlaaigljlhkdpaaF12
set_option linter.unusedVariables false
set_option linter.unusedSimpArgs false
namespace Go.Proofs.Ytlaaigljlhkdpaa.VS
open Go
def Before (p q : T3 Int) : Prop := p.b < q.b ∨ p.b = q.b ∧ p.a < q.a
theorem pixl_pair (t : Tri) (n x y : Int) : (pixl t n x y).Pairwise Before := by unfold pixl; split <;> simp
theorem rowL_mem {t : Tri} {n lo y : Int} {k : Nat} {p : T3 Int} (h : p ∈ rowL t n lo y k) : ∃ i, i < k ∧ p.a = lo + i ∧ p.b = y := by
  simp only [rowL, List.mem_flatMap, List.mem_range] at h
  obtain ⟨i, hi, h⟩ := h
  obtain ⟨rfl, _⟩ := pixl_mem h
  exact ⟨i, hi, rfl, rfl⟩
theorem rowL_pair (t : Tri) (n lo y : Int) (k : Nat) : (rowL t n lo y k).Pairwise Before := by
  unfold rowL
  rw [List.pairwise_flatMap]
  refine ⟨fun i _ => pixl_pair _ _ _ _, ?_⟩
  refine List.Pairwise.imp ?_ List.pairwise_lt_range
  intro i j hij p hp q hq
  obtain ⟨rfl, _⟩ := pixl_mem hp
  obtain ⟨rfl, _⟩ := pixl_mem hq
  right; exact ⟨rfl, by show lo + (i : Int) < lo + j; omega⟩
theorem gridL_pair (t : Tri) (n lx ly : Int) (wd j : Nat) : (gridL t n lx ly wd j).Pairwise Before := by
  unfold gridL
  rw [List.pairwise_flatMap]
  refine ⟨fun i _ => rowL_pair _ _ _ _ _, ?_⟩
  refine List.Pairwise.imp ?_ List.pairwise_lt_range
  intro i j hij p hp q hq
  obtain ⟨_, _, _, h1⟩ := rowL_mem hp
  obtain ⟨_, _, _, h2⟩ := rowL_mem hq
  left; rw [h1, h2]; omega
theorem pixR_in {t : Tri} {x0 y0 w h n : Int} {p : T3 Int} (hp : p ∈ pixR t x0 y0 w h n 64) : (x0 ≤ p.a ∧ p.a < x0 + w) ∧ y0 ≤ p.b ∧ p.b < y0 + h := by
  simp only [pixR, pixQ, List.mem_flatMap] at hp
  obtain ⟨y, _, x, _, hp⟩ := hp
  split at hp
  · rename_i hs
    obtain ⟨rfl, _⟩ := pixl_mem hp
    simpa [spanF] using hs
  · cases hp
structure Fine (a : Area) (m : Nat) (f : Frag) : Prop where
  inx : a.x ≤ f.x ∧ f.x < a.x + a.w
  iny : a.y ≤ f.y ∧ f.y < a.y + a.h
  mask : 0 < f.mask ∧ f.mask < 2 ^ a.s.toNat
  sam : ((f.deps).length : Int) = a.s
  len : f.inps.length = m
  deps : ∀ i z, f.deps[i]? = some z → (0 ≤ z ∧ z ≤ 65536) ∧ ((mbit f.mask i == 0) = true → z = 0)
theorem mask_pos (t : Tri) (x y n : Int) : 0 ≤ maskF t x y n ∧ maskF t x y n < 2 ^ (pos n).length := maskN_bd _ _ _ _ _
theorem gen_fine {a : Area} (hf : fitP a) {f : Frag} (h : f ∈ genF a.t a.x a.y a.w a.h a.s) : (∃ s : Nat, a.s = s ∧ 1 ≤ s ∧ s ≤ 8) ∧ Fine a (if valid a.t = true then a.t.v.a.vs.length + a.t.v.a.vs.length + a.t.v.a.vs.length else 0) f := by
  unfold fitP at hf
  obtain ⟨p, hp, rfl⟩ := List.mem_map.1 h
  obtain ⟨h1, h2⟩ := pixP_mem hp
  rw [← pix_eq a.t (by omega) (by omega)] at hp
  have h3 := pixR_in hp
  rw [h1] at h2
  obtain ⟨s, hs, hs1, hs8, hsl⟩ := mask_sam h2
  have h4 := mask_pos a.t p.a p.b a.s
  rw [hsl] at h4
  have hst : a.s.toNat = s := by omega
  refine ⟨⟨s, hs, hs1, hs8⟩, h3.1, h3.2, ?_, ?_, ?_, ?_⟩
  · show 0 < p.c ∧ p.c < _
    rw [h1, hst]; omega
  · show ((deps a.t a.s.toNat p).length : Int) = a.s
    rw [deps_len]; omega
  · exact inpF_len _ _ _
  · intro i z hz
    have hz : (deps a.t a.s.toNat p)[i]? = some z := hz
    have hi : i < a.s.toNat := by have := (List.getElem?_eq_some_iff.1 hz).1; rwa [deps_len] at this
    rw [deps_get a.t p hi] at hz
    cases hz
    unfold dep1
    split
    · rename_i hb
      refine ⟨depF_bd _ _ _, fun h0 => ?_⟩
      have e1 := eq_of_beq hb
      have e0 := eq_of_beq h0
      rw [show (frag a.t a.s.toNat p).mask = p.c from rfl, e1] at e0
      cases e0
    · exact ⟨by decide, fun _ => rfl⟩
theorem gen_next {a : Area} {k : Nat} {f g : Frag} (hf : (genF a.t a.x a.y a.w a.h a.s)[k]? = some f) (hg : (genF a.t a.x a.y a.w a.h a.s)[k + 1]? = some g) : f.y < g.y ∨ f.y = g.y ∧ f.x < g.x := by
  rw [genF, List.getElem?_map] at hf hg
  obtain ⟨p, hp, rfl⟩ := Option.map_eq_some_iff.1 hf
  obtain ⟨q, hq, rfl⟩ := Option.map_eq_some_iff.1 hg
  have h := gridL_pair a.t a.s (limF a.x a.w).1 (limF a.y a.h).1 (span (limF a.x a.w)) (span (limF a.y a.h))
  have h' : (pixP a.t a.x a.y a.w a.h a.s).Pairwise Before := h
  rw [List.pairwise_iff_getElem] at h'
  obtain ⟨h1, h2⟩ := List.getElem?_eq_some_iff.1 hp
  obtain ⟨h3, h4⟩ := List.getElem?_eq_some_iff.1 hq
  have := h' k (k + 1) h1 h3 (by omega)
  rw [h2, h4] at this
  exact this
theorem shl1i {x : Int} (h0 : 0 ≤ x) (h8 : x ≤ 8) : shop .shl .i64 1 x = some (.i .i64 (2 ^ x.toNat)) := by
  obtain ⟨k, rfl⟩ : ∃ k : Nat, x = k := ⟨x.toNat, by omega⟩
  rw [Int.toNat_natCast]
  exact shl1 (by omega)
set_option maxHeartbeats 2000000 in
/-- frustum/frustumlaw45.FragmentsMasks -/
theorem c5 (a : Area) : Fn Try.prog 5 [A a] (.one (B true)) := by
  refine fnI Try.func5 Try.ntmps5 fun hb => ?_
  refine sg ?_
  refine bx _ ?_
  refine as_ ?_
  refine rNil ?_
  refine sq ?_
  refine sg ?_
  first | refine lAf ?_ | refine lAb ?_ | refine lAo ?_
  refine cl (c7 a) ?_
  refine nt ?_
  refine rNil ?_
  refine cn (fun h1 => ?_) (fun h1 => ?_)
  ·
    refine sg ?_
    refine cl (c8) ?_
    refine as_ ?_
    refine rNil ?_
    refine awp_ret ?_
    refine tr ?_
    exact ⟨.inr rfl, _, (.cons (by first | exact .v (by ((repeat apply Look.there rfl); exact Look.here)) (.f (.v _)) | exact .v (by ((repeat apply Look.there rfl); exact Look.here)) (.row rfl rfl) | exact .v (by ((repeat apply Look.there rfl); exact Look.here)) (.f .nil) | exact .a (by ((repeat apply Look.there rfl); exact Look.here)) | skip) .nil), rfl⟩ -- LEAF 1: ret
  ·
    have hfp : fitP a := by simpa using h1
    have hf := hfp
    unfold fitP at hf
    refine awp_skip ?_
    refine tn ?_
    refine sg ?_
    first | refine ff ?_ | refine fb ?_ | refine fo ?_
    first | refine lAf ?_ | refine lAb ?_ | refine lAo ?_
    first | refine ff ?_ | refine fb ?_ | refine fo ?_
    first | refine l1f ?_ | refine l1b ?_ | refine l1o ?_
    first | refine ff ?_ | refine fb ?_ | refine fo ?_
    first | refine l1f ?_ | refine l1b ?_ | refine l1o ?_
    first | refine ff ?_ | refine fb ?_ | refine fo ?_
    first | refine l1f ?_ | refine l1b ?_ | refine l1o ?_
    first | refine ff ?_ | refine fb ?_ | refine fo ?_
    first | refine l1f ?_ | refine l1b ?_ | refine l1o ?_
    first | refine ff ?_ | refine fb ?_ | refine fo ?_
    first | refine l1f ?_ | refine l1b ?_ | refine l1o ?_
    refine cl (c10 a.t a.x a.y a.w a.h a.s (by omega) (by omega) (by omega) (by omega) (by omega)) ?_
    refine as_ ?_
    refine rNil ?_
    refine sq ?_
    have hgl : (genF a.t a.x a.y a.w a.h a.s).length ≤ 4096 := by rw [genF, List.length_map]; exact pixP_len (by omega) (by omega)
    have hfine : ∀ f ∈ genF a.t a.x a.y a.w a.h a.s, (∃ s : Nat, a.s = s ∧ 1 ≤ s ∧ s ≤ 8) ∧ Fine a (if valid a.t = true then a.t.v.a.vs.length + a.t.v.a.vs.length + a.t.v.a.vs.length else 0) f := fun f h => gen_fine hfp h
    have hnext : ∀ k f g, (genF a.t a.x a.y a.w a.h a.s)[k]? = some f → (genF a.t a.x a.y a.w a.h a.s)[k + 1]? = some g → f.y < g.y ∨ f.y = g.y ∧ f.x < g.x := fun k f g h1 h2 => gen_next h1 h2
    generalize genF a.t a.x a.y a.w a.h a.s = l at *
    generalize (if valid a.t = true then a.t.v.a.vs.length + a.t.v.a.vs.length + a.t.v.a.vs.length else 0) = il at *
    have hnil : (a.s < 1 ∨ 8 < a.s) → l = [] := by
      intro hs
      cases l with
      | nil => rfl
      | cons f l => obtain ⟨⟨s, h1, h2, h3⟩, _⟩ := hfine f (.head _); omega
    refine sg ?_
    first | refine ff ?_ | refine fb ?_ | refine fo ?_
    first | refine l1f ?_ | refine l1b ?_ | refine l1o ?_
    refine bo ?_
    refine mv ?_
    refine gd (fun h2 => ?_) (fun h2 => ?_)
    ·
      refine no ?_
      refine no ?_
      refine no ?_
      refine pkT ?_
      refine rNil ?_
      refine cn (fun h3 => ?_) (fun h3 => ?_)
      ·
        refine sg ?_
        refine mv ?_
        first | refine lnM ?_ | refine ln ?_ | refine lnO ?_ | refine lnN ?_ | refine lnW ?_
        refine bo ?_
        refine mv ?_
        refine gd (fun h4 => ?_) (fun h4 => ?_)
        ·
          refine cl (c8) ?_
          refine pkT ?_
          refine as_ ?_
          refine rNil ?_
          refine awp_ret ?_
          refine tr ?_
          exact ⟨.inr rfl, _, (.cons (by first | exact .v (by ((repeat apply Look.there rfl); exact Look.here)) (.f (.v _)) | exact .v (by ((repeat apply Look.there rfl); exact Look.here)) (.row rfl rfl) | exact .v (by ((repeat apply Look.there rfl); exact Look.here)) (.f .nil) | exact .a (by ((repeat apply Look.there rfl); exact Look.here)) | skip) .nil), rfl⟩ -- LEAF 2: ret
        ·
          have e := hnil (.inl (by simpa using h2))
          subst e
          exact absurd h4 (by decide) -- END
      ·
        exact absurd h3 (by decide)
    ·
      first | refine ff ?_ | refine fb ?_ | refine fo ?_
      first | refine l1f ?_ | refine l1b ?_ | refine l1o ?_
      refine bo ?_
      refine pkF ?_
      refine rNil ?_
      refine cn (fun h5 => ?_) (fun h5 => ?_)
      ·
        refine sg ?_
        refine mv ?_
        first | refine lnM ?_ | refine ln ?_ | refine lnO ?_ | refine lnN ?_ | refine lnW ?_
        refine bo ?_
        refine mv ?_
        refine gd (fun h6 => ?_) (fun h6 => ?_)
        ·
          refine cl (c8) ?_
          refine pkT ?_
          refine as_ ?_
          refine rNil ?_
          refine awp_ret ?_
          refine tr ?_
          exact ⟨.inr rfl, _, (.cons (by first | exact .v (by ((repeat apply Look.there rfl); exact Look.here)) (.f (.v _)) | exact .v (by ((repeat apply Look.there rfl); exact Look.here)) (.row rfl rfl) | exact .v (by ((repeat apply Look.there rfl); exact Look.here)) (.f .nil) | exact .a (by ((repeat apply Look.there rfl); exact Look.here)) | skip) .nil), rfl⟩ -- LEAF 3: ret
        ·
          have e := hnil (.inr (by simpa using h5))
          subst e
          exact absurd h6 (by decide) -- END
      ·
        have hs1 : 1 ≤ a.s := by simpa using h2
        have hs8 : a.s ≤ 8 := by simpa using h5
        refine awp_skip ?_
        refine tn ?_
        refine sq ?_
        refine sg ?_
        refine as_ ?_
        refine rNil ?_
        refine bk ?_
        refine lp (fun m S => ∃ k : Nat, m = l.length - k ∧ k ≤ l.length ∧ S = ⟨[(4, .r (I k)), (3, .r (L l)), (1, .box 0 0)], [.box 29 (areaC a)]⟩) l.length ?_ ?_
        · exact wx 1 ⟨0, by omega, by omega, rfl⟩
        rintro m S ⟨k, hm, hk, rfl⟩
        refine sq ?_
        refine sg ?_
        refine mv ?_
        refine mv ?_
        first | refine lnM ?_ | refine ln ?_ | refine lnO ?_ | refine lnN ?_ | refine lnW ?_
        refine bo ?_
        refine rNil ?_
        refine cn (fun h7 => ?_) (fun h7 => ?_)
        ·
          have hk1 : k < l.length := by simpa using h7
          obtain ⟨x, hx⟩ := ex_get hk1
          obtain ⟨x0, hx0⟩ := ex_get (show 0 < l.length by omega)
          obtain ⟨_, fx⟩ := hfine x (List.mem_of_getElem? hx)
          obtain ⟨_, fx0⟩ := hfine x0 (List.mem_of_getElem? hx0)
          have hinx := fx.inx
          have hiny := fx.iny
          have hmk := fx.mask
          have hsm := fx.sam
          have hln := fx.len
          have hln0 := fx0.len
          refine awp_skip ?_
          refine tn ?_
          refine sq ?_
          refine bk ?_
          refine sg ?_
          refine mv ?_
          refine mv ?_
          first | refine xs_ ?_ | refine xo ?_ | refine xw ?_
          first | refine lAf ?_ | refine lAb ?_ | refine lAo ?_
          refine al _ ?_
          refine sA ?_
          refine rNil ?_
          refine sg ?_
          first | refine ff ?_ | refine fb ?_ | refine fo ?_
          first | refine l1f ?_ | refine l1b ?_ | refine l1o ?_
          first | refine ff ?_ | refine fb ?_ | refine fo ?_
          first | refine l1f ?_ | refine l1b ?_ | refine l1o ?_
          refine bo ?_
          refine mv ?_
          refine gd (fun h8 => ?_) (fun h8 => ?_)
          ·
            first | refine ff ?_ | refine fb ?_ | refine fo ?_
            first | refine l1f ?_ | refine l1b ?_ | refine l1o ?_
            first | refine ff ?_ | refine fb ?_ | refine fo ?_
            first | refine l1f ?_ | refine l1b ?_ | refine l1o ?_
            first | refine ff ?_ | refine fb ?_ | refine fo ?_
            first | refine l1f ?_ | refine l1b ?_ | refine l1o ?_
            refine bo ?_
            refine bo ?_
            refine pkT ?_
            refine mv ?_
            refine gd (fun h9 => ?_) (fun h9 => ?_)
            ·
              first | refine ff ?_ | refine fb ?_ | refine fo ?_
              first | refine l1f ?_ | refine l1b ?_ | refine l1o ?_
              first | refine ff ?_ | refine fb ?_ | refine fo ?_
              first | refine l1f ?_ | refine l1b ?_ | refine l1o ?_
              refine bo ?_
              refine pkT ?_
              refine mv ?_
              refine gd (fun h10 => ?_) (fun h10 => ?_)
              ·
                first | refine ff ?_ | refine fb ?_ | refine fo ?_
                first | refine l1f ?_ | refine l1b ?_ | refine l1o ?_
                first | refine ff ?_ | refine fb ?_ | refine fo ?_
                first | refine l1f ?_ | refine l1b ?_ | refine l1o ?_
                first | refine ff ?_ | refine fb ?_ | refine fo ?_
                first | refine l1f ?_ | refine l1b ?_ | refine l1o ?_
                refine bo ?_
                refine bo ?_
                refine pkT ?_
                refine as_ ?_
                refine rNil ?_
                refine sq ?_
                refine sd mixO ?_
                refine mv ?_
                refine nt ?_
                refine mv ?_
                refine gd (fun h11 => ?_) (fun h11 => ?_)
                ·
                  simp at h11; omega -- END
                ·
                  first | refine ff ?_ | refine fb ?_ | refine fo ?_
                  first | refine l1f ?_ | refine l1b ?_ | refine l1o ?_
                  refine bo ?_
                  refine pkF ?_
                  refine mv ?_
                  refine gd (fun h12 => ?_) (fun h12 => ?_)
                  ·
                    simp at h12; omega -- END
                  ·
                    first | refine ff ?_ | refine fb ?_ | refine fo ?_
                    first | refine l1f ?_ | refine l1b ?_ | refine l1o ?_
                    first | refine ff ?_ | refine fb ?_ | refine fo ?_
                    first | refine l1f ?_ | refine l1b ?_ | refine l1o ?_
                    refine sh (hz := shl1i (by omega) hs8) ?_
                    refine bo ?_
                    refine pkF ?_
                    refine mv ?_
                    refine gd (fun h13 => ?_) (fun h13 => ?_)
                    ·
                      simp at h13; omega -- END
                    ·
                      first | refine ff ?_ | refine fb ?_ | refine fo ?_
                      first | refine l1f ?_ | refine l1b ?_ | refine l1o ?_
                      first | refine lnM ?_ | refine ln ?_ | refine lnO ?_ | refine lnN ?_ | refine lnW ?_
                      first | refine ff ?_ | refine fb ?_ | refine fo ?_
                      first | refine l1f ?_ | refine l1b ?_ | refine l1o ?_
                      refine bo ?_
                      refine pkF ?_
                      refine mv ?_
                      refine gd (fun h14 => ?_) (fun h14 => ?_)
                      ·
                        simp at h14; omega -- END
                      ·
                        first | refine ff ?_ | refine fb ?_ | refine fo ?_
                        first | refine l1f ?_ | refine l1b ?_ | refine l1o ?_
                        first | refine lnM ?_ | refine ln ?_ | refine lnO ?_ | refine lnN ?_ | refine lnW ?_
                        refine mv ?_
                        first | refine xs_ ?_ | refine xo ?_ | refine xw ?_
                        first | refine ff ?_ | refine fb ?_ | refine fo ?_
                        first | refine l1f ?_ | refine l1b ?_ | refine l1o ?_
                        first | refine lnM ?_ | refine ln ?_ | refine lnO ?_ | refine lnN ?_ | refine lnW ?_
                        refine bo ?_
                        refine pkF ?_
                        refine rNil ⟨rfl, ?_⟩
                        refine cn (fun h15 => ?_) (fun h15 => ?_)
                        ·
                          simp at h15; omega -- END
                        ·
                          refine awp_skip ?_
                          refine tn ?_
                          refine sq ?_
                          refine sd mixO ?_
                          refine mv ?_
                          refine bo ?_
                          refine mv ?_
                          refine gd (fun h16 => ?_) (fun h16 => ?_)
                          ·
                            have hk0 : 0 < k := by simpa using h16
                            obtain ⟨y, hy⟩ := ex_get (show ((k : Int) - 1).toNat < l.length by omega)
                            have hny := hnext (k - 1) y x (by rw [← hy]; congr 1; omega) (by rw [show k - 1 + 1 = k by omega]; exact hx)
                            refine mv ?_
                            refine mv ?_
                            refine bo ?_
                            first | refine xs_ ?_ | refine xo ?_ | refine xw ?_
                            first | refine ff ?_ | refine fb ?_ | refine fo ?_
                            first | refine l1f ?_ | refine l1b ?_ | refine l1o ?_
                            first | refine ff ?_ | refine fb ?_ | refine fo ?_
                            first | refine l1f ?_ | refine l1b ?_ | refine l1o ?_
                            refine bo ?_
                            refine mv ?_
                            refine gd (fun h17 => ?_) (fun h17 => ?_)
                            ·
                              simp at h17; omega -- END
                            ·
                              refine mv ?_
                              refine mv ?_
                              refine bo ?_
                              first | refine xs_ ?_ | refine xo ?_ | refine xw ?_
                              first | refine ff ?_ | refine fb ?_ | refine fo ?_
                              first | refine l1f ?_ | refine l1b ?_ | refine l1o ?_
                              first | refine ff ?_ | refine fb ?_ | refine fo ?_
                              first | refine l1f ?_ | refine l1b ?_ | refine l1o ?_
                              refine bo ?_
                              refine mv ?_
                              refine gd (fun h18 => ?_) (fun h18 => ?_)
                              ·
                                refine mv ?_
                                refine mv ?_
                                refine bo ?_
                                first | refine xs_ ?_ | refine xo ?_ | refine xw ?_
                                first | refine ff ?_ | refine fb ?_ | refine fo ?_
                                first | refine l1f ?_ | refine l1b ?_ | refine l1o ?_
                                first | refine ff ?_ | refine fb ?_ | refine fo ?_
                                first | refine l1f ?_ | refine l1b ?_ | refine l1o ?_
                                refine bo ?_
                                refine pkT ?_
                                refine pkF ?_
                                refine pkT ?_
                                refine rNil ⟨rfl, ?_⟩
                                refine cn (fun h19 => ?_) (fun h19 => ?_)
                                ·
                                  simp at h18 h19; omega -- END
                                ·
                                  refine awp_skip ?_
                                  refine tn ?_
                                  refine sg ?_
                                  refine as_ ?_
                                  refine rNil ?_
                                  refine bk ?_
                                  refine lp (fun m S => ∃ i : Nat, m = x.deps.length - i ∧ i ≤ x.deps.length ∧ S = ⟨[(7, .r (I i)), (4, .r (I k)), (3, .r (L l)), (5, .box 1 0), (1, .box 0 0)], [.box 29 (areaC a), .box 36 [.r (I x.x), .r (I x.y), .r (I x.mask), .r (I x.prim), .r (B x.front), .r (.v (.sl (x.deps.map Enc.c))), .r (.v (.sl (x.inps.map Enc.c)))]]⟩) x.deps.length ?_ ?_
                                  · exact wx 2 ⟨0, by omega, by omega, rfl⟩
                                  rintro m S ⟨i, hm', hi, rfl⟩
                                  refine sq ?_
                                  refine sg ?_
                                  refine mv ?_
                                  first | refine ff ?_ | refine fb ?_ | refine fo ?_
                                  first | refine l1f ?_ | refine l1b ?_ | refine l1o ?_
                                  first | refine lnM ?_ | refine ln ?_ | refine lnO ?_ | refine lnN ?_ | refine lnW ?_
                                  refine bo ?_
                                  refine rNil ?_
                                  refine cn (fun h20 => ?_) (fun h20 => ?_)
                                  ·
                                    have hi1 : i < x.deps.length := by simpa using h20
                                    obtain ⟨z, hz⟩ := ex_get hi1
                                    obtain ⟨hz1, hz2⟩ := fx.deps i z hz
                                    refine awp_skip ?_
                                    refine tn ?_
                                    refine sq ?_
                                    refine bk ?_
                                    refine sg ?_
                                    first | refine ff ?_ | refine fb ?_ | refine fo ?_
                                    first | refine l1f ?_ | refine l1b ?_ | refine l1o ?_
                                    refine mv ?_
                                    first | refine xs_ ?_ | refine xo ?_ | refine xw ?_
                                    first | refine l1f ?_ | refine l1b ?_ | refine l1o ?_
                                    refine bo ?_
                                    refine mv ?_
                                    refine gd (fun h21 => ?_) (fun h21 => ?_)
                                    ·
                                      simp at h21; omega -- END
                                    ·
                                      first | refine ff ?_ | refine fb ?_ | refine fo ?_
                                      first | refine l1f ?_ | refine l1b ?_ | refine l1o ?_
                                      refine mv ?_
                                      first | refine xs_ ?_ | refine xo ?_ | refine xw ?_
                                      first | refine l1f ?_ | refine l1b ?_ | refine l1o ?_
                                      refine bo ?_
                                      refine pkF ?_
                                      refine mv ?_
                                      refine gd (fun h22 => ?_) (fun h22 => ?_)
                                      ·
                                        simp at h22; omega -- END
                                      ·
                                        first | refine ff ?_ | refine fb ?_ | refine fo ?_
                                        first | refine l1f ?_ | refine l1b ?_ | refine l1o ?_
                                        refine mv ?_
                                        refine sh (hz := shr_n _ _) ?_
                                        refine bo ?_
                                        refine bo ?_
                                        refine mv ?_
                                        refine gd (fun h23 => ?_) (fun h23 => ?_)
                                        ·
                                          have hz0 := hz2 h23
                                          first | refine ff ?_ | refine fb ?_ | refine fo ?_
                                          first | refine l1f ?_ | refine l1b ?_ | refine l1o ?_
                                          refine mv ?_
                                          first | refine xs_ ?_ | refine xo ?_ | refine xw ?_
                                          first | refine l1f ?_ | refine l1b ?_ | refine l1o ?_
                                          refine bo ?_
                                          refine pkT ?_
                                          refine pkF ?_
                                          refine rNil ?_
                                          refine cn (fun h24 => ?_) (fun h24 => ?_)
                                          ·
                                            simp at h24; exact absurd hz0 h24 -- END
                                          ·
                                            refine awp_skip ?_
                                            refine bn_ ?_
                                            refine tn ?_
                                            refine rg ?_
                                            refine mv ?_
                                            refine bo ?_
                                            refine as_ ?_
                                            refine rNil ?_
                                            refine tn ?_
                                            exact ⟨x.deps.length - (i + 1), by omega, wx 2 ⟨i + 1, rfl, by omega, rfl⟩⟩ -- LEAF 4: round of loop 2
                                        ·
                                          refine no ?_
                                          refine no ?_
                                          refine no ?_
                                          refine no ?_
                                          refine no ?_
                                          refine no ?_
                                          refine pkF ?_
                                          refine pkF ?_
                                          refine rNil ?_
                                          refine cn (fun h25 => ?_) (fun h25 => ?_)
                                          ·
                                            exact absurd h25 (by decide)
                                          ·
                                            refine awp_skip ?_
                                            refine bn_ ?_
                                            refine tn ?_
                                            refine rg ?_
                                            refine mv ?_
                                            refine bo ?_
                                            refine as_ ?_
                                            refine rNil ?_
                                            refine tn ?_
                                            exact ⟨x.deps.length - (i + 1), by omega, wx 2 ⟨i + 1, rfl, by omega, rfl⟩⟩ -- LEAF 5: round of loop 2
                                  ·
                                    refine awp_exit ?_
                                    refine te ?_
                                    refine te ?_
                                    refine xbk ?_
                                    refine bn_ ?_
                                    refine tn ?_
                                    refine rg ?_
                                    refine mv ?_
                                    refine bo ?_
                                    refine as_ ?_
                                    refine rNil ?_
                                    refine tn ?_
                                    exact ⟨l.length - (k + 1), by omega, wx 1 ⟨k + 1, rfl, by omega, rfl⟩⟩ -- LEAF 6: round of loop 1
                              ·
                                refine no ?_
                                refine no ?_
                                refine no ?_
                                refine no ?_
                                refine no ?_
                                refine no ?_
                                refine no ?_
                                refine no ?_
                                refine no ?_
                                refine pkF ?_
                                refine pkF ?_
                                refine pkT ?_
                                refine rNil ⟨rfl, ?_⟩
                                refine cn (fun h26 => ?_) (fun h26 => ?_)
                                ·
                                  exact absurd h26 (by decide)
                                ·
                                  refine awp_skip ?_
                                  refine tn ?_
                                  refine sg ?_
                                  refine as_ ?_
                                  refine rNil ?_
                                  refine bk ?_
                                  refine lp (fun m S => ∃ i : Nat, m = x.deps.length - i ∧ i ≤ x.deps.length ∧ S = ⟨[(7, .r (I i)), (4, .r (I k)), (3, .r (L l)), (5, .box 1 0), (1, .box 0 0)], [.box 29 (areaC a), .box 36 [.r (I x.x), .r (I x.y), .r (I x.mask), .r (I x.prim), .r (B x.front), .r (.v (.sl (x.deps.map Enc.c))), .r (.v (.sl (x.inps.map Enc.c)))]]⟩) x.deps.length ?_ ?_
                                  · exact wx 2 ⟨0, by omega, by omega, rfl⟩
                                  rintro m S ⟨i, hm', hi, rfl⟩
                                  refine sq ?_
                                  refine sg ?_
                                  refine mv ?_
                                  first | refine ff ?_ | refine fb ?_ | refine fo ?_
                                  first | refine l1f ?_ | refine l1b ?_ | refine l1o ?_
                                  first | refine lnM ?_ | refine ln ?_ | refine lnO ?_ | refine lnN ?_ | refine lnW ?_
                                  refine bo ?_
                                  refine rNil ?_
                                  refine cn (fun h27 => ?_) (fun h27 => ?_)
                                  ·
                                    have hi1 : i < x.deps.length := by simpa using h27
                                    obtain ⟨z, hz⟩ := ex_get hi1
                                    obtain ⟨hz1, hz2⟩ := fx.deps i z hz
                                    refine awp_skip ?_
                                    refine tn ?_
                                    refine sq ?_
                                    refine bk ?_
                                    refine sg ?_
                                    first | refine ff ?_ | refine fb ?_ | refine fo ?_
                                    first | refine l1f ?_ | refine l1b ?_ | refine l1o ?_
                                    refine mv ?_
                                    first | refine xs_ ?_ | refine xo ?_ | refine xw ?_
                                    first | refine l1f ?_ | refine l1b ?_ | refine l1o ?_
                                    refine bo ?_
                                    refine mv ?_
                                    refine gd (fun h28 => ?_) (fun h28 => ?_)
                                    ·
                                      simp at h28; omega -- END
                                    ·
                                      first | refine ff ?_ | refine fb ?_ | refine fo ?_
                                      first | refine l1f ?_ | refine l1b ?_ | refine l1o ?_
                                      refine mv ?_
                                      first | refine xs_ ?_ | refine xo ?_ | refine xw ?_
                                      first | refine l1f ?_ | refine l1b ?_ | refine l1o ?_
                                      refine bo ?_
                                      refine pkF ?_
                                      refine mv ?_
                                      refine gd (fun h29 => ?_) (fun h29 => ?_)
                                      ·
                                        simp at h29; omega -- END
                                      ·
                                        first | refine ff ?_ | refine fb ?_ | refine fo ?_
                                        first | refine l1f ?_ | refine l1b ?_ | refine l1o ?_
                                        refine mv ?_
                                        refine sh (hz := shr_n _ _) ?_
                                        refine bo ?_
                                        refine bo ?_
                                        refine mv ?_
                                        refine gd (fun h30 => ?_) (fun h30 => ?_)
                                        ·
                                          have hz0 := hz2 h30
                                          first | refine ff ?_ | refine fb ?_ | refine fo ?_
                                          first | refine l1f ?_ | refine l1b ?_ | refine l1o ?_
                                          refine mv ?_
                                          first | refine xs_ ?_ | refine xo ?_ | refine xw ?_
                                          first | refine l1f ?_ | refine l1b ?_ | refine l1o ?_
                                          refine bo ?_
                                          refine pkT ?_
                                          refine pkF ?_
                                          refine rNil ?_
                                          refine cn (fun h31 => ?_) (fun h31 => ?_)
                                          ·
                                            simp at h31; exact absurd hz0 h31 -- END
                                          ·
                                            refine awp_skip ?_
                                            refine bn_ ?_
                                            refine tn ?_
                                            refine rg ?_
                                            refine mv ?_
                                            refine bo ?_
                                            refine as_ ?_
                                            refine rNil ?_
                                            refine tn ?_
                                            exact ⟨x.deps.length - (i + 1), by omega, wx 2 ⟨i + 1, rfl, by omega, rfl⟩⟩ -- LEAF 7: round of loop 3
                                        ·
                                          refine no ?_
                                          refine no ?_
                                          refine no ?_
                                          refine no ?_
                                          refine no ?_
                                          refine no ?_
                                          refine pkF ?_
                                          refine pkF ?_
                                          refine rNil ?_
                                          refine cn (fun h32 => ?_) (fun h32 => ?_)
                                          ·
                                            exact absurd h32 (by decide)
                                          ·
                                            refine awp_skip ?_
                                            refine bn_ ?_
                                            refine tn ?_
                                            refine rg ?_
                                            refine mv ?_
                                            refine bo ?_
                                            refine as_ ?_
                                            refine rNil ?_
                                            refine tn ?_
                                            exact ⟨x.deps.length - (i + 1), by omega, wx 2 ⟨i + 1, rfl, by omega, rfl⟩⟩ -- LEAF 8: round of loop 3
                                  ·
                                    refine awp_exit ?_
                                    refine te ?_
                                    refine te ?_
                                    refine xbk ?_
                                    refine bn_ ?_
                                    refine tn ?_
                                    refine rg ?_
                                    refine mv ?_
                                    refine bo ?_
                                    refine as_ ?_
                                    refine rNil ?_
                                    refine tn ?_
                                    exact ⟨l.length - (k + 1), by omega, wx 1 ⟨k + 1, rfl, by omega, rfl⟩⟩ -- LEAF 9: round of loop 1
                          ·
                            refine no ?_
                            refine no ?_
                            refine no ?_
                            refine no ?_
                            refine no ?_
                            refine no ?_
                            refine no ?_
                            refine no ?_
                            refine no ?_
                            refine no ?_
                            refine noU ?_
                            refine noU ?_
                            refine noU ?_
                            refine noU ?_
                            refine noU ?_
                            refine noU ?_
                            refine noU ?_
                            refine noU ?_
                            refine noU ?_
                            refine noU ?_
                            refine noU ?_
                            refine noU ?_
                            refine noU ?_
                            refine noU ?_
                            refine noU ?_
                            refine noU ?_
                            refine noU ?_
                            refine noU ?_
                            refine noU ?_
                            refine noU ?_
                            refine no ?_
                            refine pkF ?_
                            refine rNil ⟨rfl, ?_⟩
                            refine cn (fun h33 => ?_) (fun h33 => ?_)
                            ·
                              exact absurd h33 (by decide)
                            ·
                              refine awp_skip ?_
                              refine tn ?_
                              refine sg ?_
                              refine as_ ?_
                              refine rNil ?_
                              refine bk ?_
                              refine lp (fun m S => ∃ i : Nat, m = x.deps.length - i ∧ i ≤ x.deps.length ∧ S = ⟨[(7, .r (I i)), (4, .r (I k)), (3, .r (L l)), (5, .box 1 0), (1, .box 0 0)], [.box 29 (areaC a), .box 36 [.r (I x.x), .r (I x.y), .r (I x.mask), .r (I x.prim), .r (B x.front), .r (.v (.sl (x.deps.map Enc.c))), .r (.v (.sl (x.inps.map Enc.c)))]]⟩) x.deps.length ?_ ?_
                              · exact wx 2 ⟨0, by omega, by omega, rfl⟩
                              rintro m S ⟨i, hm', hi, rfl⟩
                              refine sq ?_
                              refine sg ?_
                              refine mv ?_
                              first | refine ff ?_ | refine fb ?_ | refine fo ?_
                              first | refine l1f ?_ | refine l1b ?_ | refine l1o ?_
                              first | refine lnM ?_ | refine ln ?_ | refine lnO ?_ | refine lnN ?_ | refine lnW ?_
                              refine bo ?_
                              refine rNil ?_
                              refine cn (fun h34 => ?_) (fun h34 => ?_)
                              ·
                                have hi1 : i < x.deps.length := by simpa using h34
                                obtain ⟨z, hz⟩ := ex_get hi1
                                obtain ⟨hz1, hz2⟩ := fx.deps i z hz
                                refine awp_skip ?_
                                refine tn ?_
                                refine sq ?_
                                refine bk ?_
                                refine sg ?_
                                first | refine ff ?_ | refine fb ?_ | refine fo ?_
                                first | refine l1f ?_ | refine l1b ?_ | refine l1o ?_
                                refine mv ?_
                                first | refine xs_ ?_ | refine xo ?_ | refine xw ?_
                                first | refine l1f ?_ | refine l1b ?_ | refine l1o ?_
                                refine bo ?_
                                refine mv ?_
                                refine gd (fun h35 => ?_) (fun h35 => ?_)
                                ·
                                  simp at h35; omega -- END
                                ·
                                  first | refine ff ?_ | refine fb ?_ | refine fo ?_
                                  first | refine l1f ?_ | refine l1b ?_ | refine l1o ?_
                                  refine mv ?_
                                  first | refine xs_ ?_ | refine xo ?_ | refine xw ?_
                                  first | refine l1f ?_ | refine l1b ?_ | refine l1o ?_
                                  refine bo ?_
                                  refine pkF ?_
                                  refine mv ?_
                                  refine gd (fun h36 => ?_) (fun h36 => ?_)
                                  ·
                                    simp at h36; omega -- END
                                  ·
                                    first | refine ff ?_ | refine fb ?_ | refine fo ?_
                                    first | refine l1f ?_ | refine l1b ?_ | refine l1o ?_
                                    refine mv ?_
                                    refine sh (hz := shr_n _ _) ?_
                                    refine bo ?_
                                    refine bo ?_
                                    refine mv ?_
                                    refine gd (fun h37 => ?_) (fun h37 => ?_)
                                    ·
                                      have hz0 := hz2 h37
                                      first | refine ff ?_ | refine fb ?_ | refine fo ?_
                                      first | refine l1f ?_ | refine l1b ?_ | refine l1o ?_
                                      refine mv ?_
                                      first | refine xs_ ?_ | refine xo ?_ | refine xw ?_
                                      first | refine l1f ?_ | refine l1b ?_ | refine l1o ?_
                                      refine bo ?_
                                      refine pkT ?_
                                      refine pkF ?_
                                      refine rNil ?_
                                      refine cn (fun h38 => ?_) (fun h38 => ?_)
                                      ·
                                        simp at h38; exact absurd hz0 h38 -- END
                                      ·
                                        refine awp_skip ?_
                                        refine bn_ ?_
                                        refine tn ?_
                                        refine rg ?_
                                        refine mv ?_
                                        refine bo ?_
                                        refine as_ ?_
                                        refine rNil ?_
                                        refine tn ?_
                                        exact ⟨x.deps.length - (i + 1), by omega, wx 2 ⟨i + 1, rfl, by omega, rfl⟩⟩ -- LEAF 10: round of loop 4
                                    ·
                                      refine no ?_
                                      refine no ?_
                                      refine no ?_
                                      refine no ?_
                                      refine no ?_
                                      refine no ?_
                                      refine pkF ?_
                                      refine pkF ?_
                                      refine rNil ?_
                                      refine cn (fun h39 => ?_) (fun h39 => ?_)
                                      ·
                                        exact absurd h39 (by decide)
                                      ·
                                        refine awp_skip ?_
                                        refine bn_ ?_
                                        refine tn ?_
                                        refine rg ?_
                                        refine mv ?_
                                        refine bo ?_
                                        refine as_ ?_
                                        refine rNil ?_
                                        refine tn ?_
                                        exact ⟨x.deps.length - (i + 1), by omega, wx 2 ⟨i + 1, rfl, by omega, rfl⟩⟩ -- LEAF 11: round of loop 4
                              ·
                                refine awp_exit ?_
                                refine te ?_
                                refine te ?_
                                refine xbk ?_
                                refine bn_ ?_
                                refine tn ?_
                                refine rg ?_
                                refine mv ?_
                                refine bo ?_
                                refine as_ ?_
                                refine rNil ?_
                                refine tn ?_
                                exact ⟨l.length - (k + 1), by omega, wx 1 ⟨k + 1, rfl, by omega, rfl⟩⟩ -- LEAF 12: round of loop 1
              ·
                simp at h10; omega -- END
            ·
              simp at h9; omega -- END
          ·
            simp at h8; omega -- END
        ·
          refine awp_exit ?_
          refine te ?_
          refine te ?_
          refine xbk ?_
          refine tn ?_
          refine sg ?_
          refine cl (c8) ?_
          refine as_ ?_
          refine rNil ?_
          refine awp_ret ?_
          exact ⟨.inr rfl, _, (.cons (by first | exact .v (by ((repeat apply Look.there rfl); exact Look.here)) (.f (.v _)) | exact .v (by ((repeat apply Look.there rfl); exact Look.here)) (.row rfl rfl) | exact .v (by ((repeat apply Look.there rfl); exact Look.here)) (.f .nil) | exact .a (by ((repeat apply Look.there rfl); exact Look.here)) | skip) .nil), rfl⟩ -- LEAF 13: ret

end Go.Proofs.Ytlaaigljlhkdpaa.VS
