/- The walks of functions: what each computes, by itself. Conditions: none. -/
import Derived.Test.YtlmecogidnbpjaaF4
set_option linter.unusedVariables false
set_option linter.unusedSimpArgs false
namespace Go.Proofs.Ytlmecogidnbpjaa.VS
open Go
def edgeL (a b : V) (k : Nat) : List V := if dist (satV a) k ≥ 0 then (if dist (satV b) k ≥ 0 then [satV b] else [isect (satV a) (satV b) k]) else (if dist (satV b) k ≥ 0 then [isect (satV a) (satV b) k, satV b] else [])
def Few (v : V) : Prop := v.vs.length ≤ 17592186044412
theorem few_sat {v : V} (h : Few v) : Few (satV v) := by unfold Few; rw [satV_len]; exact h
theorem few_isct {i o : V} (h : Few i) (k : Nat) : Few (isct i o k) := by unfold Few isct; rw [lv_len]; exact h
theorem few_isect {a b : V} (ha : Few a) (hb : Few b) (k : Nat) : Few (isect a b k) := by
  unfold isect
  split
  · exact few_sat ha
  · split
    · exact few_isct (few_sat hb) k
    · exact few_isct (few_sat ha) k
theorem edge_few {a b : V} (ha : Few a) (hb : Few b) (k : Nat) : (edgeL a b k).length ≤ 2 ∧ ∀ v ∈ edgeL a b k, Few v := by
  have h1 := few_isect (few_sat ha) (few_sat hb) k
  have h2 := few_sat hb
  unfold edgeL
  split <;> split <;> refine ⟨by simp, fun v hv => ?_⟩ <;> simp at hv
  · rw [hv]; exact h2
  · rw [hv]; exact h1
  · rcases hv with rfl | rfl
    · exact h1
    · exact h2
/-- frustum/clip.Edge -/
theorem c104 (a b : V) (k : Nat) (hk : k < 7) (ha : Few a) (hb' : Few b) : Fn Try.prog 104 [A a, A b, I k] (.one (L (edgeL a b k))) := by
  refine fnI Try.func104 Try.ntmps104 fun hb => ?_
  refine sg ?_
  refine bx _ ?_
  refine bx _ ?_
  refine as_ ?_
  refine rNil ?_
  refine sd mixO ?_
  first | refine lAf ?_ | refine lAb ?_ | refine lAo ?_
  refine cl (c62 a ha) ?_
  first | refine lAf ?_ | refine lAb ?_ | refine lAo ?_
  refine cl (c62 b hb') ?_
  refine sA ?_
  refine sA ?_
  refine rNil ⟨rfl, ?_⟩
  refine sd mixO ?_
  first | refine lAf ?_ | refine lAb ?_ | refine lAo ?_
  refine mv ?_
  refine cl (c114 (satV a) k hk) ?_
  refine bo (hz := by exact rfl) ?_
  first | refine lAf ?_ | refine lAb ?_ | refine lAo ?_
  refine mv ?_
  refine cl (c114 (satV b) k hk) ?_
  refine bo (hz := by exact rfl) ?_
  refine as_ ?_
  refine as_ ?_
  refine rNil ⟨rfl, ?_⟩
  refine sq ?_
  refine bk ?_
  refine sg ?_
  refine mv ?_
  refine mv ?_
  refine gd (fun h1 => ?_) (fun h1 => ?_)
  ·
    refine mv ?_
    refine pkT ?_
    refine as_ ?_
    refine rNil ?_
    refine cn (fun h2 => ?_) (fun h2 => ?_)
    ·
      refine sg ?_
      first | refine lAf ?_ | refine lAb ?_ | refine lAo ?_
      refine bs ?_
      refine as_ ?_
      refine rNil ?_
      refine awp_ret ?_
      refine br ?_
      refine tr ?_
      exact ⟨.inr rfl, _, (.cons (by first | exact .v (by ((repeat apply Look.there rfl); exact Look.here)) (.f (.v _)) | exact .v (by ((repeat apply Look.there rfl); exact Look.here)) (.row rfl rfl) | exact .v (by ((repeat apply Look.there rfl); exact Look.here)) (.f .nil) | exact .a (by ((repeat apply Look.there rfl); exact Look.here)) | skip) .nil), by rw [edgeL, if_pos (of_decide_eq_true h1), if_pos (of_decide_eq_true h2)]; rfl⟩ -- LEAF 1: ret
    ·
      refine sg ?_
      refine mv ?_
      refine as_ ?_
      refine rNil ?_
      refine cn (fun h3 => ?_) (fun h3 => ?_)
      ·
        refine sg ?_
        first | refine lAf ?_ | refine lAb ?_ | refine lAo ?_
        first | refine lAf ?_ | refine lAb ?_ | refine lAo ?_
        refine mv ?_
        refine cl (c115 (satV a) (satV b) k hk (few_sat ha) (few_sat hb')) ?_
        refine bs ?_
        refine as_ ?_
        refine rNil ?_
        refine awp_ret ?_
        refine br ?_
        refine tr ?_
        exact ⟨.inr rfl, _, (.cons (by first | exact .v (by ((repeat apply Look.there rfl); exact Look.here)) (.f (.v _)) | exact .v (by ((repeat apply Look.there rfl); exact Look.here)) (.row rfl rfl) | exact .v (by ((repeat apply Look.there rfl); exact Look.here)) (.f .nil) | exact .a (by ((repeat apply Look.there rfl); exact Look.here)) | skip) .nil), by rw [edgeL, if_pos (of_decide_eq_true h1), if_neg (of_decide_eq_false h2)]; rfl⟩ -- LEAF 2: ret
      ·
        rw [h1] at h3; cases h3 -- END
  ·
    refine no ?_
    refine pkF ?_
    refine as_ ?_
    refine rNil ?_
    refine cn (fun h4 => ?_) (fun h4 => ?_)
    ·
      exact absurd h4 (by decide)
    ·
      refine sg ?_
      refine mv ?_
      refine as_ ?_
      refine rNil ?_
      refine cn (fun h5 => ?_) (fun h5 => ?_)
      ·
        rw [h1] at h5; cases h5 -- END
      ·
        refine sg ?_
        refine mv ?_
        refine as_ ?_
        refine rNil ?_
        refine cn (fun h6 => ?_) (fun h6 => ?_)
        ·
          refine sd mixO ?_
          first | refine lAf ?_ | refine lAb ?_ | refine lAo ?_
          first | refine lAf ?_ | refine lAb ?_ | refine lAo ?_
          refine mv ?_
          refine cl (c115 (satV a) (satV b) k hk (few_sat ha) (few_sat hb')) ?_
          first | refine lAf ?_ | refine lAb ?_ | refine lAo ?_
          refine bs ?_
          refine as_ ?_
          refine rNil ⟨rfl, ?_⟩
          refine awp_ret ?_
          refine br ?_
          refine tr ?_
          exact ⟨.inr rfl, _, (.cons (by first | exact .v (by ((repeat apply Look.there rfl); exact Look.here)) (.f (.v _)) | exact .v (by ((repeat apply Look.there rfl); exact Look.here)) (.row rfl rfl) | exact .v (by ((repeat apply Look.there rfl); exact Look.here)) (.f .nil) | exact .a (by ((repeat apply Look.there rfl); exact Look.here)) | skip) .nil), by rw [edgeL, if_neg (of_decide_eq_false h1), if_pos (of_decide_eq_true h6)]; rfl⟩ -- LEAF 3: ret
        ·
          refine awp_skip ?_
          refine bn_ ?_
          refine tn ?_
          refine sg ?_
          refine as_ ?_
          refine rNil ?_
          refine awp_ret ?_
          exact ⟨.inr rfl, _, (.cons (by first | exact .v (by ((repeat apply Look.there rfl); exact Look.here)) (.f (.v _)) | exact .v (by ((repeat apply Look.there rfl); exact Look.here)) (.row rfl rfl) | exact .v (by ((repeat apply Look.there rfl); exact Look.here)) (.f .nil) | exact .a (by ((repeat apply Look.there rfl); exact Look.here)) | skip) .nil), by rw [edgeL, if_neg (of_decide_eq_false h1), if_neg (of_decide_eq_false h6)]; rfl⟩ -- LEAF 4: ret

/-- frustum/frustumref31.Edge -/
theorem c105 (a b : V) (k : Nat) (ha : Few a) (hb' : Few b) : Fn Try.prog 105 [A a, A b, I k] (.one (L (edgeL a b k))) := by
  refine fnI Try.func105 Try.ntmps105 fun hb => ?_
  refine sg ?_
  refine bx _ ?_
  refine bx _ ?_
  refine as_ ?_
  refine rNil ?_
  refine sd mixO ?_
  first | refine lAf ?_ | refine lAb ?_ | refine lAo ?_
  refine cl (c71 a ha) ?_
  first | refine lAf ?_ | refine lAb ?_ | refine lAo ?_
  refine cl (c71 b hb') ?_
  refine sA ?_
  refine sA ?_
  refine rNil ⟨rfl, ?_⟩
  refine sd mixO ?_
  first | refine lAf ?_ | refine lAb ?_ | refine lAo ?_
  refine mv ?_
  refine cl (c116 (satV a) k) ?_
  first | refine lAf ?_ | refine lAb ?_ | refine lAo ?_
  refine mv ?_
  refine cl (c116 (satV b) k) ?_
  refine as_ ?_
  refine as_ ?_
  refine rNil ⟨rfl, ?_⟩
  refine sq ?_
  refine sg ?_
  refine mv ?_
  refine mv ?_
  refine gd (fun h1 => ?_) (fun h1 => ?_)
  ·
    refine mv ?_
    refine pkT ?_
    refine rNil ?_
    refine cn (fun h2 => ?_) (fun h2 => ?_)
    ·
      refine sg ?_
      first | refine lAf ?_ | refine lAb ?_ | refine lAo ?_
      refine bs ?_
      refine as_ ?_
      refine rNil ?_
      refine awp_ret ?_
      refine tr ?_
      exact ⟨.inr rfl, _, (.cons (by first | exact .v (by ((repeat apply Look.there rfl); exact Look.here)) (.f (.v _)) | exact .v (by ((repeat apply Look.there rfl); exact Look.here)) (.row rfl rfl) | exact .v (by ((repeat apply Look.there rfl); exact Look.here)) (.f .nil) | exact .a (by ((repeat apply Look.there rfl); exact Look.here)) | skip) .nil), by rw [edgeL, if_pos (of_decide_eq_true h1), if_pos (of_decide_eq_true h2)]; rfl⟩ -- LEAF 1: ret
    ·
      refine awp_skip ?_
      refine tn ?_
      refine sq ?_
      refine sg ?_
      refine mv ?_
      refine rNil ?_
      refine cn (fun h3 => ?_) (fun h3 => ?_)
      ·
        refine sg ?_
        first | refine lAf ?_ | refine lAb ?_ | refine lAo ?_
        first | refine lAf ?_ | refine lAb ?_ | refine lAo ?_
        refine mv ?_
        refine cl (c117 (satV a) (satV b) k (few_sat ha) (few_sat hb')) ?_
        refine bs ?_
        refine as_ ?_
        refine rNil ?_
        refine awp_ret ?_
        refine tr ?_
        exact ⟨.inr rfl, _, (.cons (by first | exact .v (by ((repeat apply Look.there rfl); exact Look.here)) (.f (.v _)) | exact .v (by ((repeat apply Look.there rfl); exact Look.here)) (.row rfl rfl) | exact .v (by ((repeat apply Look.there rfl); exact Look.here)) (.f .nil) | exact .a (by ((repeat apply Look.there rfl); exact Look.here)) | skip) .nil), by rw [edgeL, if_pos (of_decide_eq_true h1), if_neg (of_decide_eq_false h2)]; rfl⟩ -- LEAF 2: ret
      ·
        rw [h1] at h3; cases h3 -- END
  ·
    refine no ?_
    refine pkF ?_
    refine rNil ?_
    refine cn (fun h4 => ?_) (fun h4 => ?_)
    ·
      exact absurd h4 (by decide)
    ·
      refine awp_skip ?_
      refine tn ?_
      refine sq ?_
      refine sg ?_
      refine mv ?_
      refine rNil ?_
      refine cn (fun h5 => ?_) (fun h5 => ?_)
      ·
        rw [h1] at h5; cases h5 -- END
      ·
        refine awp_skip ?_
        refine tn ?_
        refine sq ?_
        refine sg ?_
        refine mv ?_
        refine rNil ?_
        refine cn (fun h6 => ?_) (fun h6 => ?_)
        ·
          refine sd mixO ?_
          first | refine lAf ?_ | refine lAb ?_ | refine lAo ?_
          first | refine lAf ?_ | refine lAb ?_ | refine lAo ?_
          refine mv ?_
          refine cl (c117 (satV a) (satV b) k (few_sat ha) (few_sat hb')) ?_
          first | refine lAf ?_ | refine lAb ?_ | refine lAo ?_
          refine bs ?_
          refine as_ ?_
          refine rNil ⟨rfl, ?_⟩
          refine awp_ret ?_
          refine tr ?_
          exact ⟨.inr rfl, _, (.cons (by first | exact .v (by ((repeat apply Look.there rfl); exact Look.here)) (.f (.v _)) | exact .v (by ((repeat apply Look.there rfl); exact Look.here)) (.row rfl rfl) | exact .v (by ((repeat apply Look.there rfl); exact Look.here)) (.f .nil) | exact .a (by ((repeat apply Look.there rfl); exact Look.here)) | skip) .nil), by rw [edgeL, if_neg (of_decide_eq_false h1), if_pos (of_decide_eq_true h6)]; rfl⟩ -- LEAF 3: ret
        ·
          refine awp_skip ?_
          refine tn ?_
          refine sg ?_
          refine as_ ?_
          refine rNil ?_
          refine awp_ret ?_
          exact ⟨.inr rfl, _, (.cons (by first | exact .v (by ((repeat apply Look.there rfl); exact Look.here)) (.f (.v _)) | exact .v (by ((repeat apply Look.there rfl); exact Look.here)) (.row rfl rfl) | exact .v (by ((repeat apply Look.there rfl); exact Look.here)) (.f .nil) | exact .a (by ((repeat apply Look.there rfl); exact Look.here)) | skip) .nil), by rw [edgeL, if_neg (of_decide_eq_false h1), if_neg (of_decide_eq_false h6)]; rfl⟩ -- LEAF 4: ret

def ag1 (l : List V) (k i : Nat) : List V := edgeL (l.getD (((i : Int) + l.length - 1) % l.length).toNat dflt) (l.getD i dflt) k
def agk (l : List V) (k j : Nat) : List V := (List.range j).flatMap (ag1 l k)
def against (l : List V) (k : Nat) : List V := agk l k l.length
def FewL (l : List V) : Prop := ∀ v ∈ l, Few v
theorem few_getD {l : List V} (h : FewL l) (i : Nat) : Few (l.getD i dflt) := by
  rw [List.getD_eq_getElem?_getD]
  cases hx : l[i]? with
  | none => show (0 : Nat) ≤ _; omega
  | some v => exact h v (List.mem_of_getElem? hx)
theorem fm_len {α : Type} {f : Nat → List α} {c : Nat} (h : ∀ i, (f i).length ≤ c) : ∀ k, ((List.range k).flatMap f).length ≤ k * c
  | 0 => by simp
  | k + 1 => by
    have h1 := fm_len h k
    have h2 := h k
    have h3 : ([k].flatMap f).length = (f k).length := by simp
    rw [List.range_succ, List.flatMap_append, List.length_append, Nat.succ_mul, h3]
    omega
theorem fm_succ {α : Type} (f : Nat → List α) (k : Nat) : (List.range (k + 1)).flatMap f = (List.range k).flatMap f ++ f k := by
  rw [List.range_succ, List.flatMap_append]; simp
theorem agk_len {l : List V} (h : FewL l) (k j : Nat) : (agk l k j).length ≤ j * 2 := fm_len (fun i => (edge_few (few_getD h _) (few_getD h _) k).1) j
theorem agk_few {l : List V} (h : FewL l) (k j : Nat) : FewL (agk l k j) := by
  intro v hv
  obtain ⟨i, _, hi⟩ := List.mem_flatMap.1 hv
  exact (edge_few (few_getD h _) (few_getD h _) k).2 v hi
theorem ag1_eq {l : List V} {i : Nat} {a b : V} (k : Nat) (ha : l[(((i : Int) + l.length - 1) % l.length).toNat]? = some a) (hb : l[i]? = some b) : ag1 l k i = edgeL a b k := by
  rw [ag1, List.getD_eq_getElem?_getD, List.getD_eq_getElem?_getD, ha, hb]; rfl
/-- frustum/clip.Against -/
theorem c64 (l : List V) (k : Nat) (hk : k < 7) (hl : l.length ≤ 384) (hf : FewL l) : Fn Try.prog 64 [L l, I k] (.one (L (against l k))) := by
  refine fnI Try.func64 Try.ntmps64 fun hb => ?_
  refine sg ?_
  refine as_ ?_
  refine rNil ?_
  refine sg ?_
  refine as_ ?_
  refine rNil ?_
  refine sq ?_
  refine sg ?_
  refine mv ?_
  first | refine lnM ?_ | refine ln ?_ | refine lnO ?_ | refine lnN ?_ | refine lnW ?_
  refine mv ?_
  refine rNil ?_
  refine bk ?_
  refine adN 0 5 51 5 ?_
  refine lp (fun n S => ∃ (j m : Nat), n = l.length - j ∧ j ≤ l.length ∧ m = (agk l k j).length ∧ S = ⟨[(11, .r (I j)), (10, .r (I l.length)), (9, .r (L l)), (5, .own 0 m), (0, .r (L l)), (1, .r (I k))], [.row 51 5 ((agk l k j).map Enc.c)]⟩) l.length ?_ ?_
  · exact wx 1 ⟨0, 0, by omega, by omega, rfl, rfl⟩
  rintro n S ⟨j, m, hn, hj, hm, rfl⟩
  have hal := agk_len hf k j
  have hrow : m = ((agk l k j).map Enc.c).length := by rw [List.length_map]; exact hm
  refine sg ?_
  refine bo (hz := by exact rfl) ?_
  refine rNil ?_
  refine sq ?_
  refine cn (fun h1 => ?_) (fun h1 => ?_)
  ·
    have hj1 : j < l.length := by simpa using h1
    obtain ⟨b, hbj⟩ := ex_get hj1
    have hmod := Int.emod_nonneg ((j : Int) + l.length - 1) (show (l.length : Int) ≠ 0 by omega)
    have hmod2 := Int.emod_lt_of_pos ((j : Int) + l.length - 1) (show (0 : Int) < l.length by omega)
    obtain ⟨a, ha⟩ := ex_get (a := l) (k := (((j : Int) + l.length - 1) % l.length).toNat) (by omega)
    have hfa := hf a (List.mem_of_getElem? ha)
    have hfb := hf b (List.mem_of_getElem? hbj)
    have hef := (edge_few hfa hfb k).1
    have hsn : agk l k (j + 1) = agk l k j ++ edgeL a b k := by rw [agk, fm_succ, ag1_eq k ha hbj]; rfl
    generalize agk l k j = done at *
    refine awp_skip ?_
    refine tn ?_
    refine sq ?_
    refine bk ?_
    refine sg ?_
    refine mv ?_
    first | refine xs_ ?_ | refine xo ?_ | refine xw ?_
    first | refine lAf ?_ | refine lAb ?_ | refine lAo ?_
    refine al _ ?_
    refine as_ ?_
    refine sA ?_
    refine rNil ?_
    refine sg ?_
    refine mv ?_
    refine mv ?_
    refine mv ?_
    first | refine lnM ?_ | refine ln ?_ | refine lnO ?_ | refine lnN ?_ | refine lnW ?_
    refine bo (hz := by first | exact bop_add (by omega) (by omega) | exact rfl) ?_
    refine bo (hz := by first | exact bop_sub (by omega) (by omega) | exact rfl) ?_
    refine mv ?_
    first | refine lnM ?_ | refine ln ?_ | refine lnO ?_ | refine lnN ?_ | refine lnW ?_
    refine bo (hz := by first | exact bop_rem (by omega) (by omega) | exact rfl) ?_
    first | refine xs_ ?_ | refine xo ?_ | refine xw ?_
    first | refine lAf ?_ | refine lAb ?_ | refine lAo ?_
    refine al _ ?_
    refine sA ?_
    refine rNil ?_
    refine rg ?_
    refine mv ?_
    first | refine lAf ?_ | refine lAb ?_ | refine lAo ?_
    first | refine lAf ?_ | refine lAb ?_ | refine lAo ?_
    refine mv ?_
    refine cl (c104 a b k hk hfa hfb) ?_
    first | refine ap ?_ | refine (apN _) ?_
    refine as_ ?_
    refine rNil ?_
    refine bn_ ?_
    refine tn ?_
    refine rg ?_
    refine bo (hz := by first | exact bop_add (by omega) (by omega) | exact rfl) ?_
    refine mv ?_
    refine rNil ?_
    refine tn ?_
    exact ⟨l.length - (j + 1), by omega, wy 1 ⟨j + 1, m + (edgeL a b k).length, by omega, by omega, by rw [hsn, List.length_append, ← hm], rfl⟩ (by rw [hsn, List.map_append]; rfl)⟩ -- LEAF 1: round of loop 1
  ·
    refine awp_exit ?_
    refine te ?_
    refine te ?_
    refine xbk ?_
    refine tn ?_
    refine sg ?_
    refine mv ?_
    refine as_ ?_
    refine rNil ?_
    refine awp_ret ?_
    have hjj : j = l.length := by simp at h1; omega
    subst hjj
    exact ⟨.inr rfl, _, .cons (.v (by ((repeat apply Look.there rfl); exact Look.here)) (.row rfl hrow)) .nil, rfl⟩ -- LEAF 2: ret

/-- frustum/frustumref31.Against -/
theorem c72 (l : List V) (k : Nat) (hl : l.length ≤ 384) (hf : FewL l) : Fn Try.prog 72 [L l, I k] (.one (L (against l k))) := by
  refine fnI Try.func72 Try.ntmps72 fun hb => ?_
  refine sg ?_
  refine as_ ?_
  refine rNil ?_
  refine sg ?_
  refine as_ ?_
  refine rNil ?_
  refine sg ?_
  refine mv ?_
  first | refine lnM ?_ | refine ln ?_ | refine lnO ?_ | refine lnN ?_ | refine lnW ?_
  refine as_ ?_
  refine rNil ?_
  refine sq ?_
  refine sg ?_
  refine as_ ?_
  refine rNil ?_
  refine bk ?_
  refine adN 0 5 51 5 ?_
  refine lp (fun n S => ∃ (j m : Nat), n = l.length - j ∧ j ≤ l.length ∧ m = (agk l k j).length ∧ S = ⟨[(7, .r (I j)), (6, .r (I l.length)), (5, .own 0 m), (0, .r (L l)), (1, .r (I k))], [.row 51 5 ((agk l k j).map Enc.c)]⟩) l.length ?_ ?_
  · exact wx 1 ⟨0, 0, by omega, by omega, rfl, rfl⟩
  rintro n S ⟨j, m, hn, hj, hm, rfl⟩
  have hal := agk_len hf k j
  have hrow : m = ((agk l k j).map Enc.c).length := by rw [List.length_map]; exact hm
  refine sq ?_
  refine sg ?_
  refine mv ?_
  refine mv ?_
  refine bo (hz := by exact rfl) ?_
  refine rNil ?_
  refine cn (fun h1 => ?_) (fun h1 => ?_)
  ·
    have hj1 : j < l.length := by simpa using h1
    obtain ⟨b, hbj⟩ := ex_get hj1
    have hmod := Int.emod_nonneg ((j : Int) + l.length - 1) (show (l.length : Int) ≠ 0 by omega)
    have hmod2 := Int.emod_lt_of_pos ((j : Int) + l.length - 1) (show (0 : Int) < l.length by omega)
    obtain ⟨a, ha⟩ := ex_get (a := l) (k := (((j : Int) + l.length - 1) % l.length).toNat) (by omega)
    have hfa := hf a (List.mem_of_getElem? ha)
    have hfb := hf b (List.mem_of_getElem? hbj)
    have hef := (edge_few hfa hfb k).1
    have hsn : agk l k (j + 1) = agk l k j ++ edgeL a b k := by rw [agk, fm_succ, ag1_eq k ha hbj]; rfl
    generalize agk l k j = done at *
    refine awp_skip ?_
    refine tn ?_
    refine sq ?_
    refine bk ?_
    refine rd mixO ?_
    refine mv ?_
    refine mv ?_
    refine mv ?_
    refine mv ?_
    refine bo (hz := by first | exact bop_add (by omega) (by omega) | exact rfl) ?_
    refine bo (hz := by first | exact bop_sub (by omega) (by omega) | exact rfl) ?_
    refine mv ?_
    refine bo (hz := by first | exact bop_rem (by omega) (by omega) | exact rfl) ?_
    first | refine xs_ ?_ | refine xo ?_ | refine xw ?_
    first | refine lAf ?_ | refine lAb ?_ | refine lAo ?_
    refine mv ?_
    refine mv ?_
    first | refine xs_ ?_ | refine xo ?_ | refine xw ?_
    first | refine lAf ?_ | refine lAb ?_ | refine lAo ?_
    refine mv ?_
    refine cl (c105 a b k hfa hfb) ?_
    first | refine ap ?_ | refine (apN _) ?_
    refine as_ ?_
    refine rNil ⟨rfl, ?_⟩
    refine bn_ ?_
    refine tn ?_
    refine rg ?_
    refine mv ?_
    refine bo (hz := by first | exact bop_add (by omega) (by omega) | exact rfl) ?_
    refine as_ ?_
    refine rNil ?_
    refine tn ?_
    exact ⟨l.length - (j + 1), by omega, wy 1 ⟨j + 1, m + (edgeL a b k).length, by omega, by omega, by rw [hsn, List.length_append, ← hm], rfl⟩ (by rw [hsn, List.map_append]; rfl)⟩ -- LEAF 1: round of loop 1
  ·
    refine awp_exit ?_
    refine te ?_
    refine te ?_
    refine xbk ?_
    refine tn ?_
    refine sg ?_
    refine mv ?_
    refine as_ ?_
    refine rNil ?_
    refine awp_ret ?_
    have hjj : j = l.length := by simp at h1; omega
    subst hjj
    exact ⟨.inr rfl, _, .cons (.v (by ((repeat apply Look.there rfl); exact Look.here)) (.row rfl hrow)) .nil, rfl⟩ -- LEAF 2: ret

def pg (t : T3 V) : Nat → List V
  | 0 => [satV t.a, satV t.b, satV t.c]
  | k + 1 => against (pg t k) k
def FewT (t : T3 V) : Prop := Few t.a ∧ Few t.b ∧ Few t.c
theorem pg_fine {t : T3 V} (h : FewT t) : ∀ k, (pg t k).length ≤ 3 * 2 ^ k ∧ FewL (pg t k)
  | 0 => ⟨by simp [pg], fun v hv => by
      simp only [pg, List.mem_cons, List.not_mem_nil, or_false] at hv
      rcases hv with rfl | rfl | rfl
      · exact few_sat h.1
      · exact few_sat h.2.1
      · exact few_sat h.2.2⟩
  | k + 1 => by
    obtain ⟨h1, h2⟩ := pg_fine h k
    refine ⟨?_, agk_few h2 k _⟩
    have h3 := agk_len h2 k (pg t k).length
    rw [pg, against, Nat.pow_succ]; omega
theorem pg_384 {t : T3 V} (h : FewT t) {k : Nat} (hk : k ≤ 7) : (pg t k).length ≤ 384 := by
  have h1 := (pg_fine h k).1
  have h2 : 2 ^ k ≤ 2 ^ 7 := Nat.pow_le_pow_right (by decide) hk
  omega
/-- frustum/clip.Polygon -/
theorem c33 (t : T3 V) (h : FewT t) : Fn Try.prog 33 [A t] (.one (L (pg t 7))) := by
  refine fnI Try.func33 Try.ntmps33 fun hb => ?_
  refine sg ?_
  refine bx _ ?_
  refine as_ ?_
  refine rNil ?_
  refine sd mixO ?_
  first | refine xf ?_ | refine xb ?_ | refine xoa ?_
  first | refine lAf ?_ | refine lAb ?_ | refine lAo ?_
  refine cl (c62 t.a h.1) ?_
  first | refine xf ?_ | refine xb ?_ | refine xoa ?_
  first | refine lAf ?_ | refine lAb ?_ | refine lAo ?_
  refine cl (c62 t.b h.2.1) ?_
  first | refine xf ?_ | refine xb ?_ | refine xoa ?_
  first | refine lAf ?_ | refine lAb ?_ | refine lAo ?_
  refine cl (c62 t.c h.2.2) ?_
  refine bs (hs := fun x hx => by simp only [List.mem_cons, List.not_mem_nil, or_false] at hx; rcases hx with rfl | rfl | rfl <;> rfl) ?_
  refine as_ ?_
  refine rNil ⟨rfl, ?_⟩
  refine sq ?_
  refine sg ?_
  refine cl (c63) ?_
  first | refine lnM ?_ | refine ln ?_ | refine lnO ?_ | refine lnN ?_ | refine lnW ?_
  refine mv ?_
  refine rNil ?_
  refine bk ?_
  refine lp (fun n S => ∃ k : Nat, n = 7 - k ∧ k ≤ 7 ∧ S = ⟨[(17, .r (I k)), (16, .r (I 7)), (3, .r (L (pg t k)))], []⟩) 7 ?_ ?_
  · exact wx 0 ⟨0, by omega, by omega, rfl⟩
  rintro n S ⟨k, hn, hk, rfl⟩
  refine sg ?_
  refine bo (hz := by exact rfl) ?_
  refine rNil ?_
  refine sq ?_
  refine cn (fun h1 => ?_) (fun h1 => ?_)
  ·
    have hk1 : k < 7 := by simp at h1; omega
    refine awp_skip ?_
    refine tn ?_
    refine sq ?_
    refine bk ?_
    refine sg ?_
    refine mv ?_
    refine as_ ?_
    refine rNil ?_
    refine rg ?_
    refine mv ?_
    refine mv ?_
    refine cl (c64 (pg t k) k hk1 (pg_384 h hk) (pg_fine h k).2) ?_
    refine as_ ?_
    refine rNil ?_
    refine bn_ ?_
    refine tn ?_
    refine rg ?_
    refine bo (hz := by first | exact bop_add (by omega) (by omega) | exact rfl) ?_
    refine mv ?_
    refine rNil ?_
    refine tn ?_
    exact ⟨7 - (k + 1), by omega, wx 0 ⟨k + 1, by omega, by omega, rfl⟩⟩ -- LEAF 1: round of loop 1
  ·
    refine awp_exit ?_
    refine te ?_
    refine te ?_
    refine xbk ?_
    refine tn ?_
    refine sg ?_
    refine mv ?_
    refine as_ ?_
    refine rNil ?_
    refine awp_ret ?_
    have hkk : k = 7 := by simp at h1; omega
    subst hkk
    exact ⟨.inr rfl, _, (.cons (by first | exact .v (by ((repeat apply Look.there rfl); exact Look.here)) (.f (.v _)) | exact .v (by ((repeat apply Look.there rfl); exact Look.here)) (.row rfl rfl) | exact .v (by ((repeat apply Look.there rfl); exact Look.here)) (.f .nil) | exact .a (by ((repeat apply Look.there rfl); exact Look.here)) | skip) .nil), rfl⟩ -- LEAF 2: ret

/-- frustum/frustumref31.Polygon -/
theorem c44 (t : T3 V) (h : FewT t) : Fn Try.prog 44 [A t] (.one (L (pg t 7))) := by
  refine fnI Try.func44 Try.ntmps44 fun hb => ?_
  refine sg ?_
  refine bx _ ?_
  refine as_ ?_
  refine rNil ?_
  refine sd mixO ?_
  first | refine xf ?_ | refine xb ?_ | refine xoa ?_
  first | refine lAf ?_ | refine lAb ?_ | refine lAo ?_
  refine cl (c71 t.a h.1) ?_
  first | refine xf ?_ | refine xb ?_ | refine xoa ?_
  first | refine lAf ?_ | refine lAb ?_ | refine lAo ?_
  refine cl (c71 t.b h.2.1) ?_
  first | refine xf ?_ | refine xb ?_ | refine xoa ?_
  first | refine lAf ?_ | refine lAb ?_ | refine lAo ?_
  refine cl (c71 t.c h.2.2) ?_
  refine bs (hs := fun x hx => by simp only [List.mem_cons, List.not_mem_nil, or_false] at hx; rcases hx with rfl | rfl | rfl <;> rfl) ?_
  refine as_ ?_
  refine rNil ⟨rfl, ?_⟩
  refine sq ?_
  refine sg ?_
  refine as_ ?_
  refine rNil ?_
  refine bk ?_
  refine lp (fun n S => ∃ k : Nat, n = 7 - k ∧ k ≤ 7 ∧ S = ⟨[(4, .r (I k)), (3, .r (L (pg t k)))], []⟩) 7 ?_ ?_
  · exact wx 0 ⟨0, by omega, by omega, rfl⟩
  rintro n S ⟨k, hn, hk, rfl⟩
  refine sq ?_
  refine sg ?_
  refine mv ?_
  refine bo (hz := by exact rfl) ?_
  refine rNil ?_
  refine cn (fun h1 => ?_) (fun h1 => ?_)
  ·
    have hk1 : k < 7 := by simp at h1; omega
    refine awp_skip ?_
    refine tn ?_
    refine sq ?_
    refine bk ?_
    refine rg ?_
    refine mv ?_
    refine mv ?_
    refine cl (c72 (pg t k) k (pg_384 h hk) (pg_fine h k).2) ?_
    refine as_ ?_
    refine rNil ?_
    refine bn_ ?_
    refine tn ?_
    refine rg ?_
    refine mv ?_
    refine bo (hz := by first | exact bop_add (by omega) (by omega) | exact rfl) ?_
    refine as_ ?_
    refine rNil ?_
    refine tn ?_
    exact ⟨7 - (k + 1), by omega, wx 0 ⟨k + 1, by omega, by omega, rfl⟩⟩ -- LEAF 1: round of loop 1
  ·
    refine awp_exit ?_
    refine te ?_
    refine te ?_
    refine xbk ?_
    refine tn ?_
    refine sg ?_
    refine mv ?_
    refine as_ ?_
    refine rNil ?_
    refine awp_ret ?_
    have hkk : k = 7 := by simp at h1; omega
    subst hkk
    exact ⟨.inr rfl, _, (.cons (by first | exact .v (by ((repeat apply Look.there rfl); exact Look.here)) (.f (.v _)) | exact .v (by ((repeat apply Look.there rfl); exact Look.here)) (.row rfl rfl) | exact .v (by ((repeat apply Look.there rfl); exact Look.here)) (.f .nil) | exact .a (by ((repeat apply Look.there rfl); exact Look.here)) | skip) .nil), rfl⟩ -- LEAF 2: ret

def tri1 (l : List V) (i : Nat) : T3 V := ⟨satV (l.getD 0 dflt), satV (l.getD (i + 1) dflt), satV (l.getD (i + 2) dflt)⟩
def tris (l : List V) : List (T3 V) := (List.range (l.length - 2)).map (tri1 l)
@[simp] theorem tris_len (l : List V) : (tris l).length = l.length - 2 := by simp [tris]
theorem tris_get {l : List V} {i : Nat} (h : i < l.length - 2) : (tris l)[i]? = some (tri1 l i) := by simp [tris, h]
theorem tri1_eq {l : List V} {i : Nat} {a b c : V} (ha : l[0]? = some a) (hb : l[i + 1]? = some b) (hc : l[i + 2]? = some c) : tri1 l i = ⟨satV a, satV b, satV c⟩ := by
  rw [tri1, List.getD_eq_getElem?_getD, List.getD_eq_getElem?_getD, List.getD_eq_getElem?_getD, ha, hb, hc]; rfl
theorem tris_few {l : List V} (h : FewL l) : ∀ t ∈ tris l, FewT t := by
  intro t ht
  obtain ⟨i, _, rfl⟩ := List.mem_map.1 ht
  exact ⟨few_sat (few_getD h _), few_sat (few_getD h _), few_sat (few_getD h _)⟩
/-- frustum/clip.Triangles -/
theorem c32 (l : List V) (hl : l.length ≤ 384) (hf : FewL l) : Fn Try.prog 32 [L l] (.one (L (tris l))) := by
  refine fnI Try.func32 Try.ntmps32 fun hb => ?_
  refine sg ?_
  refine as_ ?_
  refine rNil ?_
  refine sg ?_
  refine as_ ?_
  refine rNil ?_
  refine sq ?_
  refine sg ?_
  refine as_ ?_
  refine rNil ?_
  refine bk ?_
  refine adN 0 3 52 15 ?_
  refine lp (fun n S => ∃ (i m : Nat), n = l.length - i ∧ (i = 0 ∨ i ≤ l.length - 2) ∧ m = i ∧ S = ⟨[(4, .r (I (i + 1 : Nat))), (3, .own 0 m), (0, .r (L l))], [.row 52 15 (((tris l).take i).map Enc.c)]⟩) l.length ?_ ?_
  · exact wx 1 ⟨0, 0, by omega, by omega, rfl, rfl⟩
  rintro n S ⟨i, m, hn, hi, hm, rfl⟩
  have hil : ((tris l).take i).length = i := by rw [List.length_take, tris_len]; omega
  have hrow : m = (((tris l).take i).map Enc.c).length := by rw [List.length_map, hil, hm]
  refine sq ?_
  refine sg ?_
  refine mv ?_
  refine bo (hz := by first | exact bop_add (by omega) (by omega) | exact rfl) ?_
  refine mv ?_
  first | refine lnM ?_ | refine ln ?_ | refine lnO ?_ | refine lnN ?_ | refine lnW ?_
  refine bo (hz := by exact rfl) ?_
  refine rNil ?_
  refine cn (fun h1 => ?_) (fun h1 => ?_)
  ·
    have hi1 : i < l.length - 2 := by simp at h1; omega
    obtain ⟨a, ha⟩ := ex_get (show 0 < l.length by omega)
    obtain ⟨b, hbb⟩ := ex_get (show i + 1 < l.length by omega)
    obtain ⟨c, hc⟩ := ex_get (show i + 2 < l.length by omega)
    have hc' : l[(((i + 1 : Nat) : Int) + 1).toNat]? = some c := by rw [← hc]; congr 1
    have hsn := take_snoc (tris_get hi1)
    rw [tri1_eq ha hbb hc] at hsn
    refine awp_skip ?_
    refine tn ?_
    refine sq ?_
    refine bk ?_
    refine rd mixO ?_
    refine mv ?_
    refine mv ?_
    first | refine xs_ ?_ | refine xo ?_ | refine xw ?_
    first | refine lAf ?_ | refine lAb ?_ | refine lAo ?_
    refine cl (c62 a (hf a (List.mem_of_getElem? ha))) ?_
    refine mv ?_
    refine mv ?_
    first | refine xs_ ?_ | refine xo ?_ | refine xw ?_
    first | refine lAf ?_ | refine lAb ?_ | refine lAo ?_
    refine cl (c62 b (hf b (List.mem_of_getElem? hbb))) ?_
    refine mv ?_
    refine mv ?_
    refine bo (hz := by first | exact bop_add (by omega) (by omega) | exact rfl) ?_
    first | refine xs_ ?_ | refine xo ?_ | refine xw ?_
    first | refine lAf ?_ | refine lAb ?_ | refine lAo ?_
    refine cl (c62 c (hf c (List.mem_of_getElem? hc))) ?_
    refine buA ?_
    refine bs ?_
    first | refine ap ?_ | refine (apN _) ?_
    refine as_ ?_
    refine rNil ⟨rfl, ?_⟩
    refine bn_ ?_
    refine tn ?_
    refine rg ?_
    refine mv ?_
    refine bo (hz := by first | exact bop_add (by omega) (by omega) | exact rfl) ?_
    refine as_ ?_
    refine rNil ?_
    refine tn ?_
    exact ⟨l.length - (i + 1), by omega, wy 1 ⟨i + 1, m + 1, by omega, by omega, by omega, rfl⟩ (by rw [hsn, List.map_append]; rfl)⟩ -- LEAF 1: round of loop 1
  ·
    refine awp_exit ?_
    refine te ?_
    refine te ?_
    refine xbk ?_
    refine tn ?_
    refine sg ?_
    refine mv ?_
    refine as_ ?_
    refine rNil ?_
    refine awp_ret ?_
    have hii : (tris l).take i = tris l := List.take_of_length_le (by rw [tris_len]; simp at h1; omega)
    rw [hii] at hrow ⊢
    exact ⟨.inr rfl, _, .cons (.v (by ((repeat apply Look.there rfl); exact Look.here)) (.row rfl hrow)) .nil, rfl⟩ -- LEAF 2: ret

/-- frustum/frustumref31.Triangles -/
theorem c43 (l : List V) (hl : l.length ≤ 384) (hf : FewL l) : Fn Try.prog 43 [L l] (.one (L (tris l))) := by
  refine fnI Try.func43 Try.ntmps43 fun hb => ?_
  refine sg ?_
  refine as_ ?_
  refine rNil ?_
  refine sg ?_
  refine as_ ?_
  refine rNil ?_
  refine sq ?_
  refine sg ?_
  refine as_ ?_
  refine rNil ?_
  refine bk ?_
  refine adN 0 3 52 15 ?_
  refine lp (fun n S => ∃ (i m : Nat), n = l.length - i ∧ (i = 0 ∨ i ≤ l.length - 2) ∧ m = i ∧ S = ⟨[(4, .r (I (i + 1 : Nat))), (3, .own 0 m), (0, .r (L l))], [.row 52 15 (((tris l).take i).map Enc.c)]⟩) l.length ?_ ?_
  · exact wx 1 ⟨0, 0, by omega, by omega, rfl, rfl⟩
  rintro n S ⟨i, m, hn, hi, hm, rfl⟩
  have hil : ((tris l).take i).length = i := by rw [List.length_take, tris_len]; omega
  have hrow : m = (((tris l).take i).map Enc.c).length := by rw [List.length_map, hil, hm]
  refine sq ?_
  refine sg ?_
  refine mv ?_
  refine bo (hz := by first | exact bop_add (by omega) (by omega) | exact rfl) ?_
  refine mv ?_
  first | refine lnM ?_ | refine ln ?_ | refine lnO ?_ | refine lnN ?_ | refine lnW ?_
  refine bo (hz := by exact rfl) ?_
  refine rNil ?_
  refine cn (fun h1 => ?_) (fun h1 => ?_)
  ·
    have hi1 : i < l.length - 2 := by simp at h1; omega
    obtain ⟨a, ha⟩ := ex_get (show 0 < l.length by omega)
    obtain ⟨b, hbb⟩ := ex_get (show i + 1 < l.length by omega)
    obtain ⟨c, hc⟩ := ex_get (show i + 2 < l.length by omega)
    have hc' : l[(((i + 1 : Nat) : Int) + 1).toNat]? = some c := by rw [← hc]; congr 1
    have hsn := take_snoc (tris_get hi1)
    rw [tri1_eq ha hbb hc] at hsn
    refine awp_skip ?_
    refine tn ?_
    refine sq ?_
    refine bk ?_
    refine rd mixO ?_
    refine mv ?_
    refine mv ?_
    first | refine xs_ ?_ | refine xo ?_ | refine xw ?_
    first | refine lAf ?_ | refine lAb ?_ | refine lAo ?_
    refine cl (c71 a (hf a (List.mem_of_getElem? ha))) ?_
    refine mv ?_
    refine mv ?_
    first | refine xs_ ?_ | refine xo ?_ | refine xw ?_
    first | refine lAf ?_ | refine lAb ?_ | refine lAo ?_
    refine cl (c71 b (hf b (List.mem_of_getElem? hbb))) ?_
    refine mv ?_
    refine mv ?_
    refine bo (hz := by first | exact bop_add (by omega) (by omega) | exact rfl) ?_
    first | refine xs_ ?_ | refine xo ?_ | refine xw ?_
    first | refine lAf ?_ | refine lAb ?_ | refine lAo ?_
    refine cl (c71 c (hf c (List.mem_of_getElem? hc))) ?_
    refine buA ?_
    refine bs ?_
    first | refine ap ?_ | refine (apN _) ?_
    refine as_ ?_
    refine rNil ⟨rfl, ?_⟩
    refine bn_ ?_
    refine tn ?_
    refine rg ?_
    refine mv ?_
    refine bo (hz := by first | exact bop_add (by omega) (by omega) | exact rfl) ?_
    refine as_ ?_
    refine rNil ?_
    refine tn ?_
    exact ⟨l.length - (i + 1), by omega, wy 1 ⟨i + 1, m + 1, by omega, by omega, by omega, rfl⟩ (by rw [hsn, List.map_append]; rfl)⟩ -- LEAF 1: round of loop 1
  ·
    refine awp_exit ?_
    refine te ?_
    refine te ?_
    refine xbk ?_
    refine tn ?_
    refine sg ?_
    refine mv ?_
    refine as_ ?_
    refine rNil ?_
    refine awp_ret ?_
    have hii : (tris l).take i = tris l := List.take_of_length_le (by rw [tris_len]; simp at h1; omega)
    rw [hii] at hrow ⊢
    exact ⟨.inr rfl, _, .cons (.v (by ((repeat apply Look.there rfl); exact Look.here)) (.row rfl hrow)) .nil, rfl⟩ -- LEAF 2: ret

def clipF (t : T3 V) : List (T3 V) := tris (pg t 7)
theorem clip_fine {t : T3 V} (h : FewT t) : (clipF t).length ≤ 384 ∧ ∀ x ∈ clipF t, FewT x :=
  ⟨by have := pg_384 h (Nat.le_refl 7); unfold clipF; rw [tris_len]; omega, tris_few (pg_fine h 7).2⟩
/-- frustum/clip.Clip -/
theorem c17 (t : T3 V) (h : FewT t) : Fn Try.prog 17 [A t] (.one (L (clipF t))) := by
  refine fnI Try.func17 Try.ntmps17 fun hb => ?_
  refine sg ?_
  refine bx _ ?_
  refine as_ ?_
  refine rNil ?_
  refine sg ?_
  first | refine lAf ?_ | refine lAb ?_ | refine lAo ?_
  refine cl (c33 t h) ?_
  refine cl (c32 (pg t 7) (pg_384 h (Nat.le_refl 7)) (pg_fine h 7).2) ?_
  refine as_ ?_
  refine rNil ?_
  refine awp_ret ?_
  exact ⟨.inr rfl, _, (.cons (by first | exact .v (by ((repeat apply Look.there rfl); exact Look.here)) (.f (.v _)) | exact .v (by ((repeat apply Look.there rfl); exact Look.here)) (.row rfl rfl) | exact .v (by ((repeat apply Look.there rfl); exact Look.here)) (.f .nil) | exact .a (by ((repeat apply Look.there rfl); exact Look.here)) | skip) .nil), rfl⟩ -- LEAF 1: ret

/-- frustum/frustumref31.Clip -/
theorem c20 (t : T3 V) (h : FewT t) : Fn Try.prog 20 [A t] (.one (L (clipF t))) := by
  refine fnI Try.func20 Try.ntmps20 fun hb => ?_
  refine sg ?_
  refine bx _ ?_
  refine as_ ?_
  refine rNil ?_
  refine sg ?_
  first | refine lAf ?_ | refine lAb ?_ | refine lAo ?_
  refine cl (c44 t h) ?_
  refine cl (c43 (pg t 7) (pg_384 h (Nat.le_refl 7)) (pg_fine h 7).2) ?_
  refine as_ ?_
  refine rNil ?_
  refine awp_ret ?_
  exact ⟨.inr rfl, _, (.cons (by first | exact .v (by ((repeat apply Look.there rfl); exact Look.here)) (.f (.v _)) | exact .v (by ((repeat apply Look.there rfl); exact Look.here)) (.row rfl rfl) | exact .v (by ((repeat apply Look.there rfl); exact Look.here)) (.f .nil) | exact .a (by ((repeat apply Look.there rfl); exact Look.here)) | skip) .nil), rfl⟩ -- LEAF 1: ret

end Go.Proofs.Ytlmecogidnbpjaa.VS
