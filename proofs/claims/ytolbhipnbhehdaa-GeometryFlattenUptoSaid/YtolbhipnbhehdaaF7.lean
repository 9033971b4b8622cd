/- The walks of functions: what each computes, by itself. Conditions: none. -/
import Derived.Test.YtolbhipnbhehdaaF6
set_option linter.unusedVariables false
set_option linter.unusedSimpArgs false
namespace Go.Proofs.Ytolbhipnbhehdaa.VS
open Go
theorem tri_get {n i : Nat} (hi : i < n - 2) : ∃ b c : Int, tri i = ⟨(i : Int), b, c⟩ ∧ 0 ≤ b ∧ (iota n)[b.toNat]? = some b ∧ 0 ≤ c ∧ (iota n)[c.toNat]? = some c := by
  by_cases hm : i % 2 = 1
  · exact ⟨i + 2, i + 1, if_pos hm, by omega, iota_get2 (by omega), by omega, iota_get1 (by omega)⟩
  · exact ⟨i + 1, i + 2, if_neg hm, by omega, iota_get1 (by omega), by omega, iota_get2 (by omega)⟩
/-- frustum/frustumref16.Triangle -/
theorem c46 (n i : Nat) (hn : n ≤ 300) (hi : i < n - 2) : Fn Try.prog 46 [I 2, L (iota n), I i] (.many [A (tri i), B true]) := by
  refine fnI Try.func46 Try.ntmps46 fun hb => ?_
  have hl := iota_len n
  have g0 : (iota n)[i]? = some (i : Int) := iota_get (by omega)
  obtain ⟨b, c, htri, hb0, gb, hc0, gc⟩ := tri_get hi
  have hcor : Fn Try.prog 49 [I 2, I i] (.one (.agg [.i .i64 (i : Int), .i .i64 b, .i .i64 c])) := by have h := c49 i (by omega); rw [htri] at h; exact h
  rw [← hl] at hn hi
  refine sg ?_
  refine al _ ?_
  refine as_ ?_
  refine rNil ?_
  refine sq ?_
  refine sg ?_
  refine mv ?_
  refine bo ?_
  refine mv ?_
  refine gd (fun h1 => ?_) (fun h1 => ?_)
  ·
    simp at h1; omega -- END
  ·
    refine mv ?_
    refine mv ?_
    refine mv ?_
    first | refine lnM ?_ | refine ln ?_ | refine lnO ?_ | refine lnN ?_ | refine lnW ?_
    refine cl (c45 (iota n).length hn) ?_
    refine bo ?_
    refine pkF ?_
    refine rNil ?_
    refine cn (fun h2 => ?_) (fun h2 => ?_)
    ·
      simp at h2; omega -- END
    ·
      refine awp_skip ?_
      refine tn ?_
      refine sg ?_
      refine mv ?_
      refine mv ?_
      refine cl (hcor) ?_
      refine al _ ?_
      refine sA ?_
      refine rNil ?_
      refine sd mixO ?_
      refine mv ?_
      first | refine xf ?_ | refine xb ?_ | refine xoa ?_
      first | refine l1f ?_ | refine l1b ?_ | refine l1o ?_
      first | refine xs_ ?_ | refine xo ?_ | refine xw ?_
      first | refine l1f ?_ | refine l1b ?_ | refine l1o ?_
      refine mv ?_
      first | refine xf ?_ | refine xb ?_ | refine xoa ?_
      first | refine l1f ?_ | refine l1b ?_ | refine l1o ?_
      first | refine xs_ ?_ | refine xo ?_ | refine xw ?_
      first | refine l1f ?_ | refine l1b ?_ | refine l1o ?_
      refine mv ?_
      first | refine xf ?_ | refine xb ?_ | refine xoa ?_
      first | refine l1f ?_ | refine l1b ?_ | refine l1o ?_
      first | refine xs_ ?_ | refine xo ?_ | refine xw ?_
      first | refine l1f ?_ | refine l1b ?_ | refine l1o ?_
      refine buA ?_
      refine sA ?_
      refine as_ ?_
      refine rNil ⟨rfl, ?_⟩
      refine awp_ret ?_
      exact ⟨.inr rfl, _, (.cons (resC (by ((repeat apply Look.there rfl); exact Look.here)) (by exact rfl) (by exact rfl) (by ((repeat (apply All2.cons; first | exact .f (.v _) | exact .row rfl (by first | exact rfl | simp) | exact .f .nil | exact .f (.fro rfl (by first | exact rfl | simp)))); exact All2.nil))) (.cons (by first | exact .v (by ((repeat apply Look.there rfl); exact Look.here)) (.f (.v _)) | exact .v (by ((repeat apply Look.there rfl); exact Look.here)) (.row rfl rfl) | exact .v (by ((repeat apply Look.there rfl); exact Look.here)) (.f .nil) | exact .a (by ((repeat apply Look.there rfl); exact Look.here)) | skip) .nil)), by rw [htri]; rfl⟩ -- LEAF 1: ret

def flush (s : List (List Int) × List Int) : List (List Int) := if s.2 = [] then s.1 else s.1 ++ [s.2]
def stepR (s : List (List Int) × List Int) (n : Int) : List (List Int) × List Int := if 0 ≤ n then (s.1, s.2 ++ [n]) else (flush s, [])
def runsF (l : List Int) : List (List Int) × List Int := l.foldl stepR ([], [])
def runs (l : List Int) : List (List Int) := flush (runsF l)
theorem runsF_snoc {l : List Int} {k : Nat} {x : Int} (h : l[k]? = some x) : runsF (l.take (k + 1)) = stepR (runsF (l.take k)) x := by
  rw [take_snoc h]; simp [runsF, List.foldl_append]
def RInv (l : List Int) (k : Nat) (os : List (List Int)) (st : List Int) : Prop := (k < l.length ∧ runsF (l.take k) = (os, st)) ∨ (k = l.length ∧ os = runs l ∧ st = [])
theorem rinv_push {l : List Int} {k : Nat} {x : Int} {os : List (List Int)} {st : List Int} (h : l[k]? = some x) (hr : runsF (l.take k) = (os, st)) (hx : 0 ≤ x) (hk : k + 1 < l.length) : RInv l (k + 1) os (st ++ [x]) :=
  .inl ⟨hk, by rw [runsF_snoc h, hr, stepR, if_pos hx]⟩
theorem rinv_last {l : List Int} {k : Nat} {x : Int} {os : List (List Int)} {st : List Int} (h : l[k]? = some x) (hr : runsF (l.take k) = (os, st)) (hx : 0 ≤ x) (hk : k + 1 = l.length) : RInv l (k + 1) (os ++ [st ++ [x]]) [] := by
  refine .inr ⟨hk, ?_, rfl⟩
  have h1 := runsF_snoc h
  rw [hk, List.take_length, hr, stepR, if_pos hx] at h1
  rw [runs, h1, flush, if_neg (by simp)]
theorem rinv_neg {l : List Int} {k : Nat} {x : Int} {os : List (List Int)} {st : List Int} (h : l[k]? = some x) (hr : runsF (l.take k) = (os, st)) (hx : x < 0) : RInv l (k + 1) (flush (os, st)) [] := by
  have hk := (List.getElem?_eq_some_iff.1 h).1
  have h1 := runsF_snoc h
  rw [hr, stepR, if_neg (by omega)] at h1
  rcases Nat.lt_or_ge (k + 1) l.length with h2 | h2
  · exact .inl ⟨h2, h1⟩
  · have h3 : k + 1 = l.length := by omega
    refine .inr ⟨h3, ?_, rfl⟩
    rw [h3, List.take_length] at h1
    rw [runs, h1]; simp [flush]
/-- frustum/assemble.Runs -/
theorem c41 (l : List Int) (hl : l.length ≤ 1048576) : Fn Try.prog 41 [L l] (.one (L (runs l))) := by
  refine fnI Try.func41 Try.ntmps41 fun hb => ?_
  refine sg ?_
  refine as_ ?_
  refine rNil ?_
  refine sg ?_
  refine as_ ?_
  refine rNil ?_
  refine sg ?_
  refine as_ ?_
  refine rNil ?_
  refine sq ?_
  refine sg ?_
  refine mv ?_
  first | refine lnM ?_ | refine ln ?_ | refine lnO ?_ | refine lnN ?_ | refine lnW ?_
  refine mv ?_
  refine rNil ?_
  refine bk ?_
  refine adN 0 3 22 1 ?_
  refine adN 1 4 3 1 ?_
  refine lp (fun n S => ∃ (k nu ns : Nat) (os : List (List Int)) (st : List Int), n = l.length - k ∧ k ≤ l.length ∧ RInv l k os st ∧ os.length ≤ k ∧ st.length ≤ k ∧ nu = os.length ∧ ns = st.length ∧ S = ⟨[(9, .r (I k)), (8, .r (I l.length)), (7, .r (L l)), (0, .r (L l)), (3, .own 0 nu), (4, .own 1 ns)], [.row 22 1 (os.map Enc.c), .row 3 1 (st.map Enc.c)]⟩) l.length ?_ ?_
  · refine wx 2 ⟨0, 0, 0, [], [], rfl, by omega, ?_, by simp, by simp, rfl, rfl, rfl⟩
    cases l with
    | nil => exact .inr ⟨rfl, rfl, rfl⟩
    | cons a l => exact .inl ⟨by simp, rfl⟩
  rintro n S ⟨k, nu, ns, os, st, hn, hk, hinv, hos, hst, hnu, hns, rfl⟩
  have hnum : nu = (os.map Enc.c).length := by rw [List.length_map, hnu]
  have hnsm : ns = (st.map Enc.c).length := by rw [List.length_map, hns]
  refine sg ?_
  refine bo ?_
  refine rNil ?_
  refine sq ?_
  refine cn (fun h1 => ?_) (fun h1 => ?_)
  ·
    have hk1 : k < l.length := by simp at h1; omega
    obtain ⟨x, hx⟩ := ex_get hk1
    have hrun : runsF (l.take k) = (os, st) := by
      rcases hinv with ⟨_, h⟩ | ⟨h, _⟩
      · exact h
      · omega
    refine awp_skip ?_
    refine tn ?_
    refine sq ?_
    refine bk ?_
    refine sg ?_
    refine mv ?_
    first | refine xs_ ?_ | refine xo ?_ | refine xw ?_
    first | refine l1f ?_ | refine l1b ?_ | refine l1o ?_
    refine as_ ?_
    refine as_ ?_
    refine rNil ?_
    refine sq ?_
    refine sg ?_
    refine mv ?_
    refine bo ?_
    refine rNil ?_
    refine cn (fun h2 => ?_) (fun h2 => ?_)
    ·
      have hx0 : 0 ≤ x := by simpa using h2
      refine rg ?_
      refine mv ?_
      refine mv ?_
      refine bs ?_
      first | refine ap ?_ | refine (apN _) ?_
      refine as_ ?_
      refine rNil ?_
      refine tn ?_
      refine sg ?_
      refine mv ?_
      refine bo ?_
      refine mv ?_
      refine gd (fun h3 => ?_) (fun h3 => ?_)
      ·
        simp at h3; omega -- END
      ·
        refine mv ?_
        refine mv ?_
        first | refine lnM ?_ | refine ln ?_ | refine lnO ?_ | refine lnN ?_ | refine lnW ?_
        refine bo ?_
        refine bo ?_
        refine pkF ?_
        refine mv ?_
        refine gd (fun h4 => ?_) (fun h4 => ?_)
        ·
          have hlast : k + 1 = l.length := by simp at h4; omega
          refine mv ?_
          first | refine lnM ?_ | refine ln ?_ | refine lnO ?_ | refine lnN ?_ | refine lnW ?_
          refine bo ?_
          refine pkT ?_
          refine rNil ?_
          refine cn (fun h5 => ?_) (fun h5 => ?_)
          ·
            refine fz 1 ?_
            refine sg ?_
            refine mv ?_
            refine mv ?_
            refine (bsF [1]) ?_
            first | refine ap ?_ | refine (apN _) ?_
            refine as_ ?_
            refine rNil ?_
            refine rg ?_
            refine as_ ?_
            refine rNil ?_
            refine bn_ ?_
            refine tn ?_
            first | refine adN 2 4 3 1 ?_ | skip
            refine rg ?_
            refine bo ?_
            refine mv ?_
            refine rNil ?_
            refine tn ?_
            refine ⟨l.length - (k + 1), by omega, wr2 [0, 2] ⟨k + 1, ((os.map Enc.c) ++ [[FV.sl (st.map Enc.c ++ [Enc.c x])]]).length, 0, os ++ [st ++ [x]], [], rfl, by omega, rinv_last hx hrun hx0 hlast, by simp; omega, by simp, by simp, rfl, rfl⟩ (.cons (.row _ _ _) (.cons (.row _ _ _) (.nil _))) (by simp [RV.flat, Enc.c]) ?_⟩
            ((repeat refine KeptR.cons (by ((repeat apply Look.there rfl); exact Look.here)) (by first | exact SRen.r _ | exact SRen.own _ _) ?_); exact KeptR.nil) -- LEAF 1: round of loop 1
          ·
            refine awp_skip ?_
            refine bn_ ?_
            refine tn ?_
            first | refine adN 2 4 3 1 ?_ | skip
            refine rg ?_
            refine bo ?_
            refine mv ?_
            refine rNil ?_
            refine tn ?_
            simp at h5 -- LEAF 2: round of loop 1
        ·
          refine no ?_
          refine no ?_
          refine no ?_
          refine pkF ?_
          refine rNil ?_
          refine cn (fun h6 => ?_) (fun h6 => ?_)
          ·
            exact absurd h6 (by decide)
          ·
            refine awp_skip ?_
            refine bn_ ?_
            refine tn ?_
            first | refine adN 2 4 3 1 ?_ | skip
            refine rg ?_
            refine bo ?_
            refine mv ?_
            refine rNil ?_
            refine tn ?_
            have hlast : k + 1 < l.length := by simp at h4; omega
            exact ⟨l.length - (k + 1), by omega, wy 2 ⟨k + 1, nu, ns + 1, os, st ++ [x], rfl, by omega, rinv_push hx hrun hx0 hlast, by omega, by simp; omega, hnu, by simp [hns], rfl⟩ (by simp [RV.flat, Enc.c])⟩ -- LEAF 3: round of loop 1
    ·
      have hx0 : x < 0 := by simp at h2; omega
      refine awp_skip ?_
      refine tn ?_
      refine sg ?_
      refine mv ?_
      refine bo ?_
      refine mv ?_
      refine gd (fun h7 => ?_) (fun h7 => ?_)
      ·
        refine no ?_
        refine no ?_
        refine no ?_
        refine no ?_
        refine no ?_
        refine pkT ?_
        refine mv ?_
        refine mv ?_
        first | refine lnM ?_ | refine ln ?_ | refine lnO ?_ | refine lnN ?_ | refine lnW ?_
        refine bo ?_
        refine pkT ?_
        refine rNil ?_
        refine cn (fun h8 => ?_) (fun h8 => ?_)
        ·
          refine fz 1 ?_
          refine sg ?_
          refine mv ?_
          refine mv ?_
          refine (bsF [1]) ?_
          first | refine ap ?_ | refine (apN _) ?_
          refine as_ ?_
          refine rNil ?_
          refine rg ?_
          refine as_ ?_
          refine rNil ?_
          refine bn_ ?_
          refine tn ?_
          first | refine adN 2 4 3 1 ?_ | skip
          refine rg ?_
          refine bo ?_
          refine mv ?_
          refine rNil ?_
          refine tn ?_
          have hne : st ≠ [] := by intro h; subst h; simp at hns; subst hns; simp at h8
          refine ⟨l.length - (k + 1), by omega, wr2 [0, 2] ⟨k + 1, ((os.map Enc.c) ++ [Enc.c st]).length, 0, os ++ [st], [], rfl, by omega, ?_, by simp; omega, by simp, by simp, rfl, rfl⟩ (.cons (.row _ _ _) (.cons (.row _ _ _) (.nil _))) (by simp [RV.flat, Enc.c]) ?_⟩
          · have h := rinv_neg hx hrun hx0; simpa only [flush, if_neg hne] using h
          · ((repeat refine KeptR.cons (by ((repeat apply Look.there rfl); exact Look.here)) (by first | exact SRen.r _ | exact SRen.own _ _) ?_); exact KeptR.nil) -- LEAF 4: round of loop 1
        ·
          refine awp_skip ?_
          refine bn_ ?_
          refine tn ?_
          first | refine adN 2 4 3 1 ?_ | skip
          refine rg ?_
          refine bo ?_
          refine mv ?_
          refine rNil ?_
          refine tn ?_
          have hne : st = [] := by cases st with | nil => rfl | cons a st => simp at hns; subst hns; simp at h8
          subst hne
          refine ⟨l.length - (k + 1), by omega, wx 2 ⟨k + 1, nu, ns, os, [], rfl, by omega, ?_, by omega, by simp, hnu, hns, rfl⟩⟩
          have h := rinv_neg hx hrun hx0; simpa only [flush, if_true] using h -- LEAF 5: round of loop 1
      ·
        simp at h7; omega -- END
  ·
    refine awp_exit ?_
    refine te ?_
    refine te ?_
    refine xbk ?_
    refine tn ?_
    refine sg ?_
    refine mv ?_
    refine as_ ?_
    refine rNil ?_
    refine awp_ret ?_
    have hkk : k = l.length := by simp at h1; omega
    have hor : os = runs l := by
      rcases hinv with ⟨h, _⟩ | ⟨_, h, _⟩
      · omega
      · exact h
    exact ⟨.inr rfl, _, .cons (.v (by ((repeat apply Look.there rfl); exact Look.here)) (.row rfl hnum)) .nil, by rw [hor]; rfl⟩ -- LEAF 6: ret

theorem runs_snoc {l : List Int} {os : List (List Int)} {st : List Int} (hr : runsF (l.take l.length) = (os, st)) : runs l = flush (os, st) := by rw [List.take_length] at hr; rw [runs, hr]
def QInv (l : List Int) (k : Nat) (os : List (List Int)) (st : List Int) : Prop := (k ≤ l.length ∧ runsF (l.take k) = (os, st)) ∨ (k = l.length + 1 ∧ os = runs l ∧ st = [])
theorem qinv_push {l : List Int} {k : Nat} {x : Int} {os : List (List Int)} {st : List Int} (h : l[k]? = some x) (hr : runsF (l.take k) = (os, st)) (hx : 0 ≤ x) : QInv l (k + 1) os (st ++ [x]) :=
  .inl ⟨(List.getElem?_eq_some_iff.1 h).1, by rw [runsF_snoc h, hr, stepR, if_pos hx]⟩
theorem qinv_flush {l : List Int} {k : Nat} {os : List (List Int)} {st : List Int} (hk : k ≤ l.length) (hr : runsF (l.take k) = (os, st)) (hx : ∀ x, l[k]? = some x → x < 0) : QInv l (k + 1) (flush (os, st)) [] := by
  rcases Nat.lt_or_ge k l.length with h2 | h2
  · obtain ⟨x, h⟩ := ex_get h2
    exact .inl ⟨h2, by rw [runsF_snoc h, hr, stepR, if_neg (by have := hx x h; omega)]⟩
  · have h3 : k = l.length := by omega
    subst h3
    exact .inr ⟨rfl, (runs_snoc hr).symm, rfl⟩
/-- frustum/frustumref16.Runs -/
theorem c44 (l : List Int) (hl : l.length ≤ 1048576) : Fn Try.prog 44 [L l] (.one (L (runs l))) := by
  refine fnI Try.func44 Try.ntmps44 fun hb => ?_
  refine sg ?_
  refine as_ ?_
  refine rNil ?_
  refine sg ?_
  refine as_ ?_
  refine rNil ?_
  refine sg ?_
  refine as_ ?_
  refine rNil ?_
  refine sq ?_
  refine sg ?_
  refine as_ ?_
  refine rNil ?_
  refine bk ?_
  refine adN 0 3 22 1 ?_
  refine adN 1 4 3 1 ?_
  refine lp (fun n S => ∃ (k nu ns : Nat) (os : List (List Int)) (st : List Int), n = l.length + 1 - k ∧ k ≤ l.length + 1 ∧ QInv l k os st ∧ os.length ≤ k ∧ st.length ≤ k ∧ nu = os.length ∧ ns = st.length ∧ S = ⟨[(5, .r (I k)), (0, .r (L l)), (3, .own 0 nu), (4, .own 1 ns)], [.row 22 1 (os.map Enc.c), .row 3 1 (st.map Enc.c)]⟩) (l.length + 1) ?_ ?_
  · exact wx 2 ⟨0, 0, 0, [], [], rfl, by omega, .inl ⟨by omega, rfl⟩, by simp, by simp, rfl, rfl, rfl⟩
  rintro n S ⟨k, nu, ns, os, st, hn, hk, hinv, hos, hst, hnu, hns, rfl⟩
  have hnum : nu = (os.map Enc.c).length := by rw [List.length_map, hnu]
  have hnsm : ns = (st.map Enc.c).length := by rw [List.length_map, hns]
  refine sq ?_
  refine sg ?_
  refine mv ?_
  refine mv ?_
  first | refine lnM ?_ | refine ln ?_ | refine lnO ?_ | refine lnN ?_ | refine lnW ?_
  refine bo ?_
  refine rNil ?_
  refine cn (fun h1 => ?_) (fun h1 => ?_)
  ·
    have hk1 : k ≤ l.length := by simp at h1; omega
    have hrun : runsF (l.take k) = (os, st) := by
      rcases hinv with ⟨_, h⟩ | ⟨h, _⟩
      · exact h
      · omega
    refine awp_skip ?_
    refine tn ?_
    refine sq ?_
    refine bk ?_
    refine sq ?_
    refine sg ?_
    refine mv ?_
    refine mv ?_
    first | refine lnM ?_ | refine ln ?_ | refine lnO ?_ | refine lnN ?_ | refine lnW ?_
    refine bo ?_
    refine mv ?_
    refine gd (fun h2 => ?_) (fun h2 => ?_)
    ·
      have hk2 : k < l.length := by simpa using h2
      obtain ⟨x, hx⟩ := ex_get hk2
      refine mv ?_
      refine mv ?_
      first | refine xs_ ?_ | refine xo ?_ | refine xw ?_
      first | refine l1f ?_ | refine l1b ?_ | refine l1o ?_
      refine bo ?_
      refine pkT ?_
      refine rNil ?_
      refine cn (fun h3 => ?_) (fun h3 => ?_)
      ·
        have hx0 : 0 ≤ x := by simpa using h3
        refine sg ?_
        refine mv ?_
        refine mv ?_
        refine mv ?_
        first | refine xs_ ?_ | refine xo ?_ | refine xw ?_
        first | refine l1f ?_ | refine l1b ?_ | refine l1o ?_
        refine bs ?_
        first | refine ap ?_ | refine (apN _) ?_
        refine as_ ?_
        refine rNil ?_
        refine awp_exit ?_
        refine te ?_
        refine xbk ?_
        refine tn ?_
        first | refine adN 2 4 3 1 ?_ | skip
        refine rg ?_
        refine mv ?_
        refine bo ?_
        refine as_ ?_
        refine rNil ?_
        refine tn ?_
        exact ⟨l.length + 1 - (k + 1), by omega, wy 2 ⟨k + 1, nu, ns + 1, os, st ++ [x], rfl, by omega, qinv_push hx hrun hx0, by omega, by simp; omega, hnu, by simp [hns], rfl⟩ (by simp [RV.flat, Enc.c])⟩ -- LEAF 1: round of loop 1
      ·
        have hneg : ∀ y, l[k]? = some y → y < 0 := by intro y hy; rw [hx] at hy; cases hy; simp at h3; omega
        refine awp_skip ?_
        refine tn ?_
        refine sq ?_
        refine sg ?_
        refine mv ?_
        first | refine lnM ?_ | refine ln ?_ | refine lnO ?_ | refine lnN ?_ | refine lnW ?_
        refine bo ?_
        refine rNil ?_
        refine cn (fun h4 => ?_) (fun h4 => ?_)
        ·
          refine fz 1 ?_
          refine rg ?_
          refine mv ?_
          refine mv ?_
          refine (bsF [1]) ?_
          first | refine ap ?_ | refine (apN _) ?_
          refine as_ ?_
          refine rNil ?_
          refine tn ?_
          refine rg ?_
          refine as_ ?_
          refine rNil ?_
          refine bn_ ?_
          refine tn ?_
          first | refine adN 2 4 3 1 ?_ | skip
          refine rg ?_
          refine mv ?_
          refine bo ?_
          refine as_ ?_
          refine rNil ?_
          refine tn ?_
          have hne : st ≠ [] := by intro h; subst h; simp at hns; subst hns; simp at h4
          refine ⟨l.length + 1 - (k + 1), by omega, wr2 [0, 2] ⟨k + 1, ((os.map Enc.c) ++ [Enc.c st]).length, 0, os ++ [st], [], rfl, by omega, ?_, by simp; omega, by simp, by simp, rfl, rfl⟩ (.cons (.row _ _ _) (.cons (.row _ _ _) (.nil _))) (by simp [RV.flat, Enc.c]) ?_⟩
          · have h := qinv_flush hk1 hrun hneg; simpa only [flush, if_neg hne] using h
          · ((repeat refine KeptR.cons (by ((repeat apply Look.there rfl); exact Look.here)) (by first | exact SRen.r _ | exact SRen.own _ _) ?_); exact KeptR.nil) -- LEAF 2: round of loop 1
        ·
          refine awp_skip ?_
          refine tn ?_
          refine rg ?_
          refine as_ ?_
          refine rNil ?_
          refine bn_ ?_
          refine tn ?_
          first | refine adN 2 4 3 1 ?_ | skip
          refine rg ?_
          refine mv ?_
          refine bo ?_
          refine as_ ?_
          refine rNil ?_
          refine tn ?_
          have hne : st = [] := by cases st with | nil => rfl | cons a st => simp at hns; subst hns; simp at h4
          subst hne
          refine ⟨l.length + 1 - (k + 1), by omega, wr2 [0, 2] ⟨k + 1, nu, 0, os, [], rfl, by omega, ?_, by omega, by simp, hnu, rfl, rfl⟩ (.cons (.row _ _ _) (.cons (.row _ _ _) (.nil _))) (by simp) ?_⟩
          · have h := qinv_flush hk1 hrun hneg; simpa only [flush, if_true] using h
          · ((repeat refine KeptR.cons (by ((repeat apply Look.there rfl); exact Look.here)) (by first | exact SRen.r _ | exact SRen.own _ _) ?_); exact KeptR.nil) -- LEAF 3: round of loop 1
    ·
      have hneg : ∀ y, l[k]? = some y → y < 0 := by intro y hy; have := (List.getElem?_eq_some_iff.1 hy).1; simp at h2; omega
      refine no ?_
      refine no ?_
      refine no ?_
      refine no ?_
      refine no ?_
      refine pkF ?_
      refine rNil ?_
      refine cn (fun h5 => ?_) (fun h5 => ?_)
      ·
        exact absurd h5 (by decide)
      ·
        refine awp_skip ?_
        refine tn ?_
        refine sq ?_
        refine sg ?_
        refine mv ?_
        first | refine lnM ?_ | refine ln ?_ | refine lnO ?_ | refine lnN ?_ | refine lnW ?_
        refine bo ?_
        refine rNil ?_
        refine cn (fun h6 => ?_) (fun h6 => ?_)
        ·
          refine fz 1 ?_
          refine rg ?_
          refine mv ?_
          refine mv ?_
          refine (bsF [1]) ?_
          first | refine ap ?_ | refine (apN _) ?_
          refine as_ ?_
          refine rNil ?_
          refine tn ?_
          refine rg ?_
          refine as_ ?_
          refine rNil ?_
          refine bn_ ?_
          refine tn ?_
          first | refine adN 2 4 3 1 ?_ | skip
          refine rg ?_
          refine mv ?_
          refine bo ?_
          refine as_ ?_
          refine rNil ?_
          refine tn ?_
          have hne : st ≠ [] := by intro h; subst h; simp at hns; subst hns; simp at h6
          refine ⟨l.length + 1 - (k + 1), by omega, wr2 [0, 2] ⟨k + 1, ((os.map Enc.c) ++ [Enc.c st]).length, 0, os ++ [st], [], rfl, by omega, ?_, by simp; omega, by simp, by simp, rfl, rfl⟩ (.cons (.row _ _ _) (.cons (.row _ _ _) (.nil _))) (by simp [RV.flat, Enc.c]) ?_⟩
          · have h := qinv_flush hk1 hrun hneg; simpa only [flush, if_neg hne] using h
          · ((repeat refine KeptR.cons (by ((repeat apply Look.there rfl); exact Look.here)) (by first | exact SRen.r _ | exact SRen.own _ _) ?_); exact KeptR.nil) -- LEAF 4: round of loop 1
        ·
          refine awp_skip ?_
          refine tn ?_
          refine rg ?_
          refine as_ ?_
          refine rNil ?_
          refine bn_ ?_
          refine tn ?_
          first | refine adN 2 4 3 1 ?_ | skip
          refine rg ?_
          refine mv ?_
          refine bo ?_
          refine as_ ?_
          refine rNil ?_
          refine tn ?_
          have hne : st = [] := by cases st with | nil => rfl | cons a st => simp at hns; subst hns; simp at h6
          subst hne
          refine ⟨l.length + 1 - (k + 1), by omega, wr2 [0, 2] ⟨k + 1, nu, 0, os, [], rfl, by omega, ?_, by omega, by simp, hnu, rfl, rfl⟩ (.cons (.row _ _ _) (.cons (.row _ _ _) (.nil _))) (by simp) ?_⟩
          · have h := qinv_flush hk1 hrun hneg; simpa only [flush, if_true] using h
          · ((repeat refine KeptR.cons (by ((repeat apply Look.there rfl); exact Look.here)) (by first | exact SRen.r _ | exact SRen.own _ _) ?_); exact KeptR.nil) -- LEAF 5: round of loop 1
  ·
    refine awp_exit ?_
    refine te ?_
    refine te ?_
    refine xbk ?_
    refine tn ?_
    refine sg ?_
    refine mv ?_
    refine as_ ?_
    refine rNil ?_
    refine awp_ret ?_
    have hkk : k = l.length + 1 := by simp at h1; omega
    have hor : os = runs l := by
      rcases hinv with ⟨h, _⟩ | ⟨_, h, _⟩
      · omega
      · exact h
    exact ⟨.inr rfl, _, .cons (.v (by ((repeat apply Look.there rfl); exact Look.here)) (.row rfl hnum)) .nil, by rw [hor]; rfl⟩ -- LEAF 6: ret

end Go.Proofs.Ytolbhipnbhehdaa.VS
