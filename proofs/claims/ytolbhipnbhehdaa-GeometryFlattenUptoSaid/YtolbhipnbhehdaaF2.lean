/- The walks of functions: what each computes, by itself. Conditions: none. -/
import Derived.Test.YtolbhipnbhehdaaF1
set_option linter.unusedVariables false
set_option linter.unusedSimpArgs false
namespace Go.Proofs.Ytolbhipnbhehdaa.VS
open Go
/-- slices.Clone[[]int,int] -/
theorem c40 (l : List Int) (hl : l.length ≤ 1048576) : Fn Try.prog 40 [L l] (.one (L l)) := by
  refine fnI Try.func40 Try.ntmps40 fun hb => ?_
  refine sg ?_
  refine as_ ?_
  refine rNil ?_
  refine sq ?_
  refine nilC 0 (fun hnil => ?_) ?_
  · have hnl : l = [] := by simpa using hnil
    subst hnl
    refine sg ?_
    refine mv ?_
    refine nq ?_
    refine rNil ?_
    refine cn (fun h1 => ?_) (fun h1 => ?_)
    · refine sg ?_
      refine as_ ?_
      refine rNil ?_
      refine awp_ret ?_
      refine tr ?_
      exact ⟨.inr rfl, _, .cons (.v (by ((repeat apply Look.there rfl); exact Look.here)) (.f .nil)) .nil, rfl⟩
    · exact absurd h1 (by decide)
  refine sg ?_
  refine mv ?_
  refine nq ?_
  refine rNil ?_
  refine cn (fun h1 => ?_) (fun h1 => ?_)
  ·
    exact absurd h1 (by decide) -- END
  ·
    refine awp_skip ?_
    refine tn ?_
    refine unN 0 ?_
    refine sg ?_
    refine (bsO _) ?_
    refine mv ?_
    first | refine ap ?_ | refine (apN _) ?_
    refine as_ ?_
    refine rNil ?_
    refine awp_ret ?_
    exact ⟨.inr rfl, _, .cons (.v (by ((repeat apply Look.there rfl); exact Look.here)) (.row rfl rfl)) .nil, rfl⟩ -- LEAF 1: ret

/-- frustum/vertexstage.clone -/
theorem c32 (v : V) (hl : v.vs.length ≤ 1048576) : Fn Try.prog 32 [A v] (.one (A v)) := by
  refine fnI Try.func32 Try.ntmps32 fun hb => ?_
  refine sg ?_
  refine bx _ ?_
  refine al _ ?_
  refine rNil ?_
  refine sg ?_
  first | refine ff ?_ | refine fb ?_ | refine fo ?_
  first | refine l1f ?_ | refine l1b ?_ | refine l1o ?_
  refine cl (c40 v.vs hl) ?_
  first | refine ff ?_ | refine fb ?_ | refine fo ?_
  first | refine s1 ?_ | refine s1w ?_
  refine rNil ?_
  refine sg ?_
  first | refine lAf ?_ | refine lAb ?_ | refine lAo ?_
  refine sA ?_
  refine rNil ?_
  refine awp_ret ?_
  exact ⟨.inr rfl, _, (.cons (resC (by ((repeat apply Look.there rfl); exact Look.here)) (by exact rfl) (by exact rfl) (by ((repeat (apply All2.cons; first | exact .f (.v _) | exact .row rfl (by first | exact rfl | simp) | exact .f .nil | exact .f (.fro rfl (by first | exact rfl | simp)))); exact All2.nil))) .nil), rfl⟩ -- LEAF 1: ret

structure T3 (α : Type) where
  a : α
  b : α
  c : α
instance {α : Type} [Enc α] : Enc (T3 α) := ⟨fun t => Enc.c t.a ++ (Enc.c t.b ++ Enc.c t.c)⟩
/-- frustum/frustumref29.SameTriangles -/
theorem c14 (l : List (T3 V)) : Fn Try.prog 14 [L l, L l] (.one (B true)) := by
  refine fnI Try.func14 Try.ntmps14 fun hb => ?_
  have hla := bd_L (f := Enc.c) (l := l) hb (by simp)
  refine sg ?_
  refine as_ ?_
  refine rNil ?_
  refine sq ?_
  refine sg ?_
  refine mv ?_
  first | refine lnM ?_ | refine ln ?_ | refine lnO ?_ | refine lnN ?_ | refine lnW ?_
  refine mv ?_
  first | refine lnM ?_ | refine ln ?_ | refine lnO ?_ | refine lnN ?_ | refine lnW ?_
  refine bo ?_
  refine rNil ?_
  refine cn (fun h1 => ?_) (fun h1 => ?_)
  ·
    simp at h1 -- END
  ·
    refine awp_skip ?_
    refine tn ?_
    refine sq ?_
    refine sg ?_
    refine as_ ?_
    refine rNil ?_
    refine bk ?_
    refine lp (fun n S => ∃ k : Nat, n = l.length - k ∧ k ≤ l.length ∧ S = ⟨[(5, .r (I k)), (0, .r (L l)), (1, .r (L l))], []⟩) l.length ?_ ?_
    · exact wx 0 ⟨0, rfl, by omega, rfl⟩
    rintro n S ⟨k, hn, hk, rfl⟩
    refine sq ?_
    refine sg ?_
    refine mv ?_
    refine mv ?_
    first | refine lnM ?_ | refine ln ?_ | refine lnO ?_ | refine lnN ?_ | refine lnW ?_
    refine bo ?_
    refine rNil ?_
    refine cn (fun h2 => ?_) (fun h2 => ?_)
    ·
      obtain ⟨x, hx⟩ := ex_get (show k < l.length by simp at h2; omega)
      have hk1 : k < l.length := by simp at h2; omega
      refine awp_skip ?_
      refine tn ?_
      refine sq ?_
      refine bk ?_
      refine sd mixO ?_
      refine mv ?_
      refine mv ?_
      first | refine xs_ ?_ | refine xo ?_ | refine xw ?_
      first | refine xf ?_ | refine xb ?_ | refine xoa ?_
      first | refine lAf ?_ | refine lAb ?_ | refine lAo ?_
      refine mv ?_
      refine mv ?_
      first | refine xs_ ?_ | refine xo ?_ | refine xw ?_
      first | refine xf ?_ | refine xb ?_ | refine xoa ?_
      first | refine lAf ?_ | refine lAb ?_ | refine lAo ?_
      refine cl (c9 x.a x.a) ?_
      refine nt ?_
      refine mv ?_
      refine gd (fun h3 => ?_) (fun h3 => ?_)
      ·
        rw [eqV_refl] at h3; cases h3 -- END
      ·
        refine mv ?_
        refine mv ?_
        first | refine xs_ ?_ | refine xo ?_ | refine xw ?_
        first | refine xf ?_ | refine xb ?_ | refine xoa ?_
        first | refine lAf ?_ | refine lAb ?_ | refine lAo ?_
        refine mv ?_
        refine mv ?_
        first | refine xs_ ?_ | refine xo ?_ | refine xw ?_
        first | refine xf ?_ | refine xb ?_ | refine xoa ?_
        first | refine lAf ?_ | refine lAb ?_ | refine lAo ?_
        refine cl (c9 x.b x.b) ?_
        refine nt ?_
        refine pkF ?_
        refine mv ?_
        refine gd (fun h4 => ?_) (fun h4 => ?_)
        ·
          rw [eqV_refl] at h4; cases h4 -- END
        ·
          refine mv ?_
          refine mv ?_
          first | refine xs_ ?_ | refine xo ?_ | refine xw ?_
          first | refine xf ?_ | refine xb ?_ | refine xoa ?_
          first | refine lAf ?_ | refine lAb ?_ | refine lAo ?_
          refine mv ?_
          refine mv ?_
          first | refine xs_ ?_ | refine xo ?_ | refine xw ?_
          first | refine xf ?_ | refine xb ?_ | refine xoa ?_
          first | refine lAf ?_ | refine lAb ?_ | refine lAo ?_
          refine cl (c9 x.c x.c) ?_
          refine nt ?_
          refine pkF ?_
          refine rNil ⟨rfl, ?_⟩
          refine cn (fun h5 => ?_) (fun h5 => ?_)
          ·
            rw [eqV_refl] at h5; cases h5 -- END
          ·
            refine awp_skip ?_
            refine bn_ ?_
            refine tn ?_
            refine rg ?_
            refine mv ?_
            refine bo ?_
            refine as_ ?_
            refine rNil ?_
            refine tn ?_
            exact ⟨l.length - (k + 1), by omega, wx 0 ⟨k + 1, rfl, by omega, rfl⟩⟩ -- LEAF 1: round of loop 1
    ·
      refine awp_exit ?_
      refine te ?_
      refine te ?_
      refine xbk ?_
      refine tn ?_
      refine sg ?_
      refine as_ ?_
      refine rNil ?_
      refine awp_ret ?_
      exact ⟨.inr rfl, _, (.cons (by first | exact .v (by ((repeat apply Look.there rfl); exact Look.here)) (.f (.v _)) | exact .v (by ((repeat apply Look.there rfl); exact Look.here)) (.row rfl rfl) | exact .v (by ((repeat apply Look.there rfl); exact Look.here)) (.f .nil) | exact .a (by ((repeat apply Look.there rfl); exact Look.here)) | skip) .nil), rfl⟩ -- LEAF 2: ret

def gt (l : List V) (i : Int) : Option V := if 0 ≤ i then l[i.toNat]? else none
def sel (l : List V) (p : T3 Int) : Option (T3 V) := (gt l p.a).bind fun a => (gt l p.b).bind fun b => (gt l p.c).map fun c => ⟨a, b, c⟩
def gather (l : List V) (ps : List (T3 Int)) : List (T3 V) := ps.filterMap (sel l)
theorem gt_some {l : List V} {i : Int} (h0 : 0 ≤ i) (h1 : i < l.length) : ∃ v, l[i.toNat]? = some v ∧ gt l i = some v ∧ v ∈ l := by
  obtain ⟨v, hv⟩ := ex_get (a := l) (k := i.toNat) (by omega)
  exact ⟨v, hv, by rw [gt, if_pos h0, hv], List.mem_of_getElem? hv⟩
theorem gt_none {l : List V} {i : Int} (h : ¬ (0 ≤ i ∧ i < l.length)) : gt l i = none := by
  unfold gt
  split
  · rw [List.getElem?_eq_none (by omega)]
  · rfl
theorem sel_none {l : List V} {p : T3 Int} (h : ¬ ((0 ≤ p.a ∧ p.a < l.length) ∧ (0 ≤ p.b ∧ p.b < l.length) ∧ (0 ≤ p.c ∧ p.c < l.length))) : sel l p = none := by
  unfold sel
  by_cases h1 : 0 ≤ p.a ∧ p.a < l.length
  · by_cases h2 : 0 ≤ p.b ∧ p.b < l.length
    · have h3 : ¬ (0 ≤ p.c ∧ p.c < l.length) := fun h3 => h ⟨h1, h2, h3⟩
      rw [gt_none h3]
      cases gt l p.a <;> cases gt l p.b <;> rfl
    · rw [gt_none h2]
      cases gt l p.a <;> rfl
  · rw [gt_none h1]; rfl
theorem gather_some {l : List V} {ps : List (T3 Int)} {k : Nat} {x : T3 Int} {y : T3 V} (h : ps[k]? = some x) (hs : sel l x = some y) : gather l (ps.take (k + 1)) = gather l (ps.take k) ++ [y] := by
  rw [take_snoc h, gather, List.filterMap_append]
  simp [hs, gather]
theorem gather_none {l : List V} {ps : List (T3 Int)} {k : Nat} {x : T3 Int} (h : ps[k]? = some x) (hs : sel l x = none) : gather l (ps.take (k + 1)) = gather l (ps.take k) := by
  rw [take_snoc h, gather, List.filterMap_append]
  simp [hs, gather]
theorem gather_len (l : List V) (ps : List (T3 Int)) : (gather l ps).length ≤ ps.length := List.length_filterMap_le _ _
theorem mn3_le {a b c : Int} : 0 ≤ mn (mn a b) c ↔ 0 ≤ a ∧ 0 ≤ b ∧ 0 ≤ c := by
  unfold mn; repeat (first | omega | split)
theorem mx3_lt {a b c n : Int} : mx (mx a b) c < n ↔ a < n ∧ b < n ∧ c < n := by
  unfold mx; repeat (first | omega | split)
/-- frustum/vertexstage.Gather -/
theorem c15 (l : List V) (ps : List (T3 Int)) (hp : ps.length ≤ 1048576) (hv : ∀ v ∈ l, v.vs.length ≤ 1048576) : Fn Try.prog 15 [L l, L ps] (.one (L (gather l ps))) := by
  refine fnI Try.func15 Try.ntmps15 fun hb => ?_
  refine sg ?_
  refine as_ ?_
  refine rNil ?_
  refine sg ?_
  refine as_ ?_
  refine rNil ?_
  refine sq ?_
  refine sg ?_
  refine mv ?_
  first | refine lnM ?_ | refine ln ?_ | refine lnO ?_ | refine lnN ?_ | refine lnW ?_
  refine mv ?_
  refine rNil ?_
  refine bk ?_
  refine adN 0 5 47 15 ?_
  refine lp (fun n S => ∃ (k m : Nat), n = ps.length - k ∧ k ≤ ps.length ∧ m = (gather l (ps.take k)).length ∧ S = ⟨[(10, .r (I k)), (9, .r (I ps.length)), (8, .r (L ps)), (5, .own 0 m), (0, .r (L l))], [.row 47 15 ((gather l (ps.take k)).map Enc.c)]⟩) ps.length ?_ ?_
  · exact wx 1 ⟨0, 0, rfl, by omega, rfl, rfl⟩
  rintro n S ⟨k, m, hn, hk, hm, rfl⟩
  have hgl := gather_len l (ps.take k)
  rw [List.length_take] at hgl
  have hmm : m = ((gather l (ps.take k)).map Enc.c).length := by rw [List.length_map]; exact hm
  refine sg ?_
  refine bo ?_
  refine rNil ?_
  refine sq ?_
  refine cn (fun h1 => ?_) (fun h1 => ?_)
  ·
    have hk1 : k < ps.length := by simp at h1; omega
    obtain ⟨x, hx⟩ := ex_get hk1
    refine awp_skip ?_
    refine tn ?_
    refine sq ?_
    refine bk ?_
    refine sg ?_
    first | refine xs_ ?_ | refine xo ?_ | refine xw ?_
    first | refine lAf ?_ | refine lAb ?_ | refine lAo ?_
    refine al _ ?_
    refine sA ?_
    refine rNil ?_
    refine sg ?_
    first | refine xf ?_ | refine xb ?_ | refine xoa ?_
    first | refine l1f ?_ | refine l1b ?_ | refine l1o ?_
    first | refine xf ?_ | refine xb ?_ | refine xoa ?_
    first | refine l1f ?_ | refine l1b ?_ | refine l1o ?_
    first | refine xf ?_ | refine xb ?_ | refine xoa ?_
    first | refine l1f ?_ | refine l1b ?_ | refine l1o ?_
    refine mn3 ?_
    refine bo ?_
    refine mv ?_
    refine gd (fun h2 => ?_) (fun h2 => ?_)
    ·
      first | refine xf ?_ | refine xb ?_ | refine xoa ?_
      first | refine l1f ?_ | refine l1b ?_ | refine l1o ?_
      first | refine xf ?_ | refine xb ?_ | refine xoa ?_
      first | refine l1f ?_ | refine l1b ?_ | refine l1o ?_
      first | refine xf ?_ | refine xb ?_ | refine xoa ?_
      first | refine l1f ?_ | refine l1b ?_ | refine l1o ?_
      refine mx3 ?_
      refine mv ?_
      first | refine lnM ?_ | refine ln ?_ | refine lnO ?_ | refine lnN ?_ | refine lnW ?_
      refine bo ?_
      refine pkT ?_
      refine rNil ?_
      refine cn (fun h3 => ?_) (fun h3 => ?_)
      ·
        have hge : 0 ≤ mn (mn x.a x.b) x.c := by simpa using h2
        have hlt : mx (mx x.a x.b) x.c < l.length := by simpa using h3
        obtain ⟨ha0, hb0, hc0⟩ := mn3_le.1 hge
        obtain ⟨ha1, hb1, hc1⟩ := mx3_lt.1 hlt
        obtain ⟨va, hva, ga, ma⟩ := gt_some ha0 ha1
        obtain ⟨vb, hvb, gb, mb⟩ := gt_some hb0 hb1
        obtain ⟨vc, hvc, gc, mc⟩ := gt_some hc0 hc1
        have hs : sel l x = some ⟨va, vb, vc⟩ := by simp [sel, ga, gb, gc]
        refine rd mixO ?_
        refine mv ?_
        refine mv ?_
        first | refine xf ?_ | refine xb ?_ | refine xoa ?_
        first | refine l1f ?_ | refine l1b ?_ | refine l1o ?_
        first | refine xs_ ?_ | refine xo ?_ | refine xw ?_
        first | refine lAf ?_ | refine lAb ?_ | refine lAo ?_
        refine cl (c32 va (hv va ma)) ?_
        refine mv ?_
        first | refine xf ?_ | refine xb ?_ | refine xoa ?_
        first | refine l1f ?_ | refine l1b ?_ | refine l1o ?_
        first | refine xs_ ?_ | refine xo ?_ | refine xw ?_
        first | refine lAf ?_ | refine lAb ?_ | refine lAo ?_
        refine cl (c32 vb (hv vb mb)) ?_
        refine mv ?_
        first | refine xf ?_ | refine xb ?_ | refine xoa ?_
        first | refine l1f ?_ | refine l1b ?_ | refine l1o ?_
        first | refine xs_ ?_ | refine xo ?_ | refine xw ?_
        first | refine lAf ?_ | refine lAb ?_ | refine lAo ?_
        refine cl (c32 vc (hv vc mc)) ?_
        refine buA ?_
        refine bs ?_
        first | refine ap ?_ | refine (apN _) ?_
        refine as_ ?_
        refine rNil ⟨rfl, ?_⟩
        refine bn_ ?_
        refine tn ?_
        refine rg ?_
        refine bo ?_
        refine mv ?_
        refine rNil ?_
        refine tn ?_
        exact ⟨ps.length - (k + 1), by omega, wy 1 ⟨k + 1, m + 1, rfl, by omega, by rw [gather_some hx hs, List.length_append, hm]; rfl, rfl⟩ (by rw [gather_some hx hs, List.map_append]; rfl)⟩ -- LEAF 1: round of loop 1
      ·
        refine awp_skip ?_
        refine bn_ ?_
        refine tn ?_
        refine rg ?_
        refine bo ?_
        refine mv ?_
        refine rNil ?_
        refine tn ?_
        have hs : sel l x = none := sel_none (by have := (mx3_lt (a := x.a) (b := x.b) (c := x.c) (n := l.length)); simp at h3; omega)
        exact ⟨ps.length - (k + 1), by omega, wy 1 ⟨k + 1, m, rfl, by omega, by rw [gather_none hx hs, hm], rfl⟩ (by rw [gather_none hx hs]; rfl)⟩ -- LEAF 2: round of loop 1
    ·
      refine no ?_
      refine no ?_
      refine no ?_
      refine no ?_
      refine no ?_
      refine no ?_
      refine no ?_
      refine no ?_
      refine no ?_
      refine no ?_
      refine pkF ?_
      refine rNil ?_
      refine cn (fun h4 => ?_) (fun h4 => ?_)
      ·
        exact absurd h4 (by decide)
      ·
        refine awp_skip ?_
        refine bn_ ?_
        refine tn ?_
        refine rg ?_
        refine bo ?_
        refine mv ?_
        refine rNil ?_
        refine tn ?_
        have hs : sel l x = none := sel_none (by have := (mn3_le (a := x.a) (b := x.b) (c := x.c)); simp at h2; omega)
        exact ⟨ps.length - (k + 1), by omega, wy 1 ⟨k + 1, m, rfl, by omega, by rw [gather_none hx hs, hm], rfl⟩ (by rw [gather_none hx hs]; rfl)⟩ -- LEAF 3: round of loop 1
  ·
    refine awp_exit ?_
    refine te ?_
    refine te ?_
    refine xbk ?_
    refine tn ?_
    refine sg ?_
    refine mv ?_
    refine as_ ?_
    refine rNil ?_
    refine awp_ret ?_
    have hkk : k = ps.length := by simp at h1; omega
    subst hkk
    rw [List.take_length] at hm hmm ⊢
    exact ⟨.inr rfl, _, .cons (.v (by ((repeat apply Look.there rfl); exact Look.here)) (.row rfl hmm)) .nil, rfl⟩ -- LEAF 4: ret

/-- frustum/frustumref29.Gather -/
theorem c16 (l : List V) (ps : List (T3 Int)) (hp : ps.length ≤ 1048576) : Fn Try.prog 16 [L l, L ps] (.one (L (gather l ps))) := by
  refine fnI Try.func16 Try.ntmps16 fun hb => ?_
  refine sg ?_
  refine as_ ?_
  refine rNil ?_
  refine sg ?_
  refine (bsO _) ?_
  refine as_ ?_
  refine rNil ?_
  refine sq ?_
  refine sg ?_
  refine as_ ?_
  refine rNil ?_
  refine bk ?_
  refine lp (fun n S => ∃ (k m : Nat), n = ps.length - k ∧ k ≤ ps.length ∧ m = (gather l (ps.take k)).length ∧ S = ⟨[(6, .r (I k)), (1, .r (L ps)), (5, .own 0 m), (0, .r (L l))], [.row 47 15 ((gather l (ps.take k)).map Enc.c)]⟩) ps.length ?_ ?_
  · exact wx 1 ⟨0, 0, rfl, by omega, rfl, rfl⟩
  rintro n S ⟨k, m, hn, hk, hm, rfl⟩
  have hgl := gather_len l (ps.take k)
  rw [List.length_take] at hgl
  have hmm : m = ((gather l (ps.take k)).map Enc.c).length := by rw [List.length_map]; exact hm
  refine sq ?_
  refine sg ?_
  refine mv ?_
  refine mv ?_
  first | refine lnM ?_ | refine ln ?_ | refine lnO ?_ | refine lnN ?_ | refine lnW ?_
  refine bo ?_
  refine rNil ?_
  refine cn (fun h1 => ?_) (fun h1 => ?_)
  ·
    have hk1 : k < ps.length := by simp at h1; omega
    obtain ⟨x, hx⟩ := ex_get hk1
    refine awp_skip ?_
    refine tn ?_
    refine sq ?_
    refine bk ?_
    refine sg ?_
    refine mv ?_
    refine mv ?_
    first | refine xs_ ?_ | refine xo ?_ | refine xw ?_
    first | refine lAf ?_ | refine lAb ?_ | refine lAo ?_
    refine al _ ?_
    refine sA ?_
    refine rNil ?_
    refine sg ?_
    refine mv ?_
    first | refine lnM ?_ | refine ln ?_ | refine lnO ?_ | refine lnN ?_ | refine lnW ?_
    refine as_ ?_
    refine rNil ?_
    refine sg ?_
    first | refine xf ?_ | refine xb ?_ | refine xoa ?_
    first | refine l1f ?_ | refine l1b ?_ | refine l1o ?_
    refine bo ?_
    refine mv ?_
    refine gd (fun h2 => ?_) (fun h2 => ?_)
    ·
      first | refine xf ?_ | refine xb ?_ | refine xoa ?_
      first | refine l1f ?_ | refine l1b ?_ | refine l1o ?_
      refine mv ?_
      refine bo ?_
      refine pkT ?_
      refine mv ?_
      refine gd (fun h3 => ?_) (fun h3 => ?_)
      ·
        first | refine xf ?_ | refine xb ?_ | refine xoa ?_
        first | refine l1f ?_ | refine l1b ?_ | refine l1o ?_
        refine bo ?_
        refine pkT ?_
        refine mv ?_
        refine gd (fun h4 => ?_) (fun h4 => ?_)
        ·
          first | refine xf ?_ | refine xb ?_ | refine xoa ?_
          first | refine l1f ?_ | refine l1b ?_ | refine l1o ?_
          refine mv ?_
          refine bo ?_
          refine pkT ?_
          refine mv ?_
          refine gd (fun h5 => ?_) (fun h5 => ?_)
          ·
            first | refine xf ?_ | refine xb ?_ | refine xoa ?_
            first | refine l1f ?_ | refine l1b ?_ | refine l1o ?_
            refine bo ?_
            refine pkT ?_
            refine mv ?_
            refine gd (fun h6 => ?_) (fun h6 => ?_)
            ·
              first | refine xf ?_ | refine xb ?_ | refine xoa ?_
              first | refine l1f ?_ | refine l1b ?_ | refine l1o ?_
              refine mv ?_
              refine bo ?_
              refine pkT ?_
              refine rNil ?_
              refine cn (fun h7 => ?_) (fun h7 => ?_)
              ·
                have ha0 : 0 ≤ x.a := by simpa using h2
                have ha1 : x.a < l.length := by simpa using h3
                have hb0 : 0 ≤ x.b := by simpa using h4
                have hb1 : x.b < l.length := by simpa using h5
                have hc0 : 0 ≤ x.c := by simpa using h6
                have hc1 : x.c < l.length := by simpa using h7
                obtain ⟨va, hva, ga, ma⟩ := gt_some ha0 ha1
                obtain ⟨vb, hvb, gb, mb⟩ := gt_some hb0 hb1
                obtain ⟨vc, hvc, gc, mc⟩ := gt_some hc0 hc1
                have hs : sel l x = some ⟨va, vb, vc⟩ := by simp [sel, ga, gb, gc]
                refine rd mixO ?_
                refine mv ?_
                refine mv ?_
                first | refine xf ?_ | refine xb ?_ | refine xoa ?_
                first | refine l1f ?_ | refine l1b ?_ | refine l1o ?_
                first | refine xs_ ?_ | refine xo ?_ | refine xw ?_
                first | refine lAf ?_ | refine lAb ?_ | refine lAo ?_
                refine mv ?_
                first | refine xf ?_ | refine xb ?_ | refine xoa ?_
                first | refine l1f ?_ | refine l1b ?_ | refine l1o ?_
                first | refine xs_ ?_ | refine xo ?_ | refine xw ?_
                first | refine lAf ?_ | refine lAb ?_ | refine lAo ?_
                refine mv ?_
                first | refine xf ?_ | refine xb ?_ | refine xoa ?_
                first | refine l1f ?_ | refine l1b ?_ | refine l1o ?_
                first | refine xs_ ?_ | refine xo ?_ | refine xw ?_
                first | refine lAf ?_ | refine lAb ?_ | refine lAo ?_
                refine buA ?_
                refine bs ?_
                first | refine ap ?_ | refine (apN _) ?_
                refine as_ ?_
                refine rNil ⟨rfl, ?_⟩
                refine bn_ ?_
                refine tn ?_
                refine rg ?_
                refine mv ?_
                refine bo ?_
                refine as_ ?_
                refine rNil ?_
                refine tn ?_
                exact ⟨ps.length - (k + 1), by omega, wy 1 ⟨k + 1, m + 1, rfl, by omega, by rw [gather_some hx hs, List.length_append, hm]; rfl, rfl⟩ (by rw [gather_some hx hs, List.map_append]; rfl)⟩ -- LEAF 1: round of loop 1
              ·
                refine awp_skip ?_
                refine bn_ ?_
                refine tn ?_
                refine rg ?_
                refine mv ?_
                refine bo ?_
                refine as_ ?_
                refine rNil ?_
                refine tn ?_
                have hs : sel l x = none := sel_none (by simp at h7; omega)
                exact ⟨ps.length - (k + 1), by omega, wy 1 ⟨k + 1, m, rfl, by omega, by rw [gather_none hx hs, hm], rfl⟩ (by rw [gather_none hx hs]; rfl)⟩ -- LEAF 2: round of loop 1
            ·
              refine no ?_
              refine no ?_
              refine no ?_
              refine no ?_
              refine pkF ?_
              refine rNil ?_
              refine cn (fun h8 => ?_) (fun h8 => ?_)
              ·
                exact absurd h8 (by decide)
              ·
                refine awp_skip ?_
                refine bn_ ?_
                refine tn ?_
                refine rg ?_
                refine mv ?_
                refine bo ?_
                refine as_ ?_
                refine rNil ?_
                refine tn ?_
                have hs : sel l x = none := sel_none (by simp at h6; omega)
                exact ⟨ps.length - (k + 1), by omega, wy 1 ⟨k + 1, m, rfl, by omega, by rw [gather_none hx hs, hm], rfl⟩ (by rw [gather_none hx hs]; rfl)⟩ -- LEAF 3: round of loop 1
          ·
            refine no ?_
            refine no ?_
            refine no ?_
            refine pkF ?_
            refine mv ?_
            refine no ?_
            refine no ?_
            refine no ?_
            refine no ?_
            refine pkF ?_
            refine rNil ?_
            refine cn (fun h9 => ?_) (fun h9 => ?_)
            ·
              exact absurd h9 (by decide)
            ·
              refine awp_skip ?_
              refine bn_ ?_
              refine tn ?_
              refine rg ?_
              refine mv ?_
              refine bo ?_
              refine as_ ?_
              refine rNil ?_
              refine tn ?_
              have hs : sel l x = none := sel_none (by simp at h5; omega)
              exact ⟨ps.length - (k + 1), by omega, wy 1 ⟨k + 1, m, rfl, by omega, by rw [gather_none hx hs, hm], rfl⟩ (by rw [gather_none hx hs]; rfl)⟩ -- LEAF 4: round of loop 1
        ·
          refine no ?_
          refine no ?_
          refine no ?_
          refine no ?_
          refine pkF ?_
          refine mv ?_
          refine no ?_
          refine no ?_
          refine no ?_
          refine pkF ?_
          refine mv ?_
          refine no ?_
          refine no ?_
          refine no ?_
          refine no ?_
          refine pkF ?_
          refine rNil ?_
          refine cn (fun h10 => ?_) (fun h10 => ?_)
          ·
            exact absurd h10 (by decide)
          ·
            refine awp_skip ?_
            refine bn_ ?_
            refine tn ?_
            refine rg ?_
            refine mv ?_
            refine bo ?_
            refine as_ ?_
            refine rNil ?_
            refine tn ?_
            have hs : sel l x = none := sel_none (by simp at h4; omega)
            exact ⟨ps.length - (k + 1), by omega, wy 1 ⟨k + 1, m, rfl, by omega, by rw [gather_none hx hs, hm], rfl⟩ (by rw [gather_none hx hs]; rfl)⟩ -- LEAF 5: round of loop 1
      ·
        refine no ?_
        refine no ?_
        refine no ?_
        refine pkF ?_
        refine mv ?_
        refine no ?_
        refine no ?_
        refine no ?_
        refine no ?_
        refine pkF ?_
        refine mv ?_
        refine no ?_
        refine no ?_
        refine no ?_
        refine pkF ?_
        refine mv ?_
        refine no ?_
        refine no ?_
        refine no ?_
        refine no ?_
        refine pkF ?_
        refine rNil ?_
        refine cn (fun h11 => ?_) (fun h11 => ?_)
        ·
          exact absurd h11 (by decide)
        ·
          refine awp_skip ?_
          refine bn_ ?_
          refine tn ?_
          refine rg ?_
          refine mv ?_
          refine bo ?_
          refine as_ ?_
          refine rNil ?_
          refine tn ?_
          have hs : sel l x = none := sel_none (by simp at h3; omega)
          exact ⟨ps.length - (k + 1), by omega, wy 1 ⟨k + 1, m, rfl, by omega, by rw [gather_none hx hs, hm], rfl⟩ (by rw [gather_none hx hs]; rfl)⟩ -- LEAF 6: round of loop 1
    ·
      refine no ?_
      refine no ?_
      refine no ?_
      refine no ?_
      refine pkF ?_
      refine mv ?_
      refine no ?_
      refine no ?_
      refine no ?_
      refine pkF ?_
      refine mv ?_
      refine no ?_
      refine no ?_
      refine no ?_
      refine no ?_
      refine pkF ?_
      refine mv ?_
      refine no ?_
      refine no ?_
      refine no ?_
      refine pkF ?_
      refine mv ?_
      refine no ?_
      refine no ?_
      refine no ?_
      refine no ?_
      refine pkF ?_
      refine rNil ?_
      refine cn (fun h12 => ?_) (fun h12 => ?_)
      ·
        exact absurd h12 (by decide)
      ·
        refine awp_skip ?_
        refine bn_ ?_
        refine tn ?_
        refine rg ?_
        refine mv ?_
        refine bo ?_
        refine as_ ?_
        refine rNil ?_
        refine tn ?_
        have hs : sel l x = none := sel_none (by simp at h2; omega)
        exact ⟨ps.length - (k + 1), by omega, wy 1 ⟨k + 1, m, rfl, by omega, by rw [gather_none hx hs, hm], rfl⟩ (by rw [gather_none hx hs]; rfl)⟩ -- LEAF 7: round of loop 1
  ·
    refine awp_exit ?_
    refine te ?_
    refine te ?_
    refine xbk ?_
    refine tn ?_
    refine sg ?_
    refine mv ?_
    refine as_ ?_
    refine rNil ?_
    refine awp_ret ?_
    have hkk : k = ps.length := by simp at h1; omega
    subst hkk
    rw [List.take_length] at hm hmm ⊢
    exact ⟨.inr rfl, _, .cons (.v (by ((repeat apply Look.there rfl); exact Look.here)) (.row rfl hmm)) .nil, rfl⟩ -- LEAF 8: ret

/-- frustum/frustumlaw29.VertexstageGathers -/
theorem c4 (l : List V) (ps : List (T3 Int)) (hp : ps.length ≤ 1048576) (hv : ∀ v ∈ l, v.vs.length ≤ 1048576) : Fn Try.prog 4 [L l, L ps] (.one (B true)) := by
  refine fnI Try.func4 Try.ntmps4 fun hb => ?_
  refine sg ?_
  refine as_ ?_
  refine rNil ?_
  refine sg ?_
  refine mv ?_
  refine mv ?_
  refine cl (c15 l ps hp hv) ?_
  refine mv ?_
  refine mv ?_
  refine cl (c16 l ps hp) ?_
  refine cl (c14 (gather l ps)) ?_
  refine mv ?_
  refine gd (fun h1 => ?_) (fun h1 => ?_)
  ·
    refine cl (c13) ?_
    refine pkT ?_
    refine as_ ?_
    refine rNil ?_
    refine awp_ret ?_
    exact ⟨.inr rfl, _, (.cons (by first | exact .v (by ((repeat apply Look.there rfl); exact Look.here)) (.f (.v _)) | exact .v (by ((repeat apply Look.there rfl); exact Look.here)) (.row rfl rfl) | exact .v (by ((repeat apply Look.there rfl); exact Look.here)) (.f .nil) | exact .a (by ((repeat apply Look.there rfl); exact Look.here)) | skip) .nil), rfl⟩ -- LEAF 1: ret
  ·
    cases h1 -- END

end Go.Proofs.Ytolbhipnbhehdaa.VS
