/- The walks of functions: what each computes, by itself. Conditions: none. -/
import Derived.Test.YtolbhipnbhehdaaF2
import Derived.Test.YtolbhipnbhehdaaF4
set_option linter.unusedVariables false
set_option linter.unusedSimpArgs false
namespace Go.Proofs.Ytolbhipnbhehdaa.VS
open Go
theorem t3_get {x : T3 V} {k : Nat} (h : k < 3) : ∃ v : V, (List.drop (k * 5) (Enc.c x)).take 5 = Enc.c v := by
  match k, h with
  | 0, _ => exact ⟨x.a, rfl⟩
  | 1, _ => exact ⟨x.b, rfl⟩
  | 2, _ => exact ⟨x.c, rfl⟩
/-- frustum/frustumref30.SameTriangles -/
theorem c20 (l : List (T3 V)) : Fn Try.prog 20 [L l, L l] (.one (B true)) := by
  refine fnI Try.func20 Try.ntmps20 fun hb => ?_
  have hla := bd_L (f := Enc.c) (l := l) hb (by simp)
  refine sg ?_
  refine as_ ?_
  refine rNil ?_
  refine sq ?_
  refine sg ?_
  refine mv ?_
  first | refine lnM ?_ | refine ln ?_ | refine lnO ?_ | refine lnN ?_ | refine lnW ?_
  refine mv ?_
  first | refine lnM ?_ | refine ln ?_ | refine lnO ?_ | refine lnN ?_ | refine lnW ?_
  refine bo ?_
  refine rNil ?_
  refine cn (fun h1 => ?_) (fun h1 => ?_)
  ·
    simp at h1 -- END
  ·
    refine awp_skip ?_
    refine tn ?_
    refine sq ?_
    refine sg ?_
    refine as_ ?_
    refine rNil ?_
    refine bk ?_
    refine lp (fun n S => ∃ k : Nat, n = l.length - k ∧ k ≤ l.length ∧ S = ⟨[(5, .r (I k)), (0, .r (L l)), (1, .r (L l))], []⟩) l.length ?_ ?_
    · exact wx 0 ⟨0, rfl, by omega, rfl⟩
    rintro n S ⟨k, hn, hk, rfl⟩
    refine sq ?_
    refine sg ?_
    refine mv ?_
    refine mv ?_
    first | refine lnM ?_ | refine ln ?_ | refine lnO ?_ | refine lnN ?_ | refine lnW ?_
    refine bo ?_
    refine rNil ?_
    refine cn (fun h2 => ?_) (fun h2 => ?_)
    ·
      obtain ⟨x, hx⟩ := ex_get (show k < l.length by simp at h2; omega)
      have hk1 : k < l.length := by simp at h2; omega
      refine awp_skip ?_
      refine tn ?_
      refine sq ?_
      refine bk ?_
      refine sg ?_
      refine as_ ?_
      refine rNil ?_
      refine bk ?_
      refine lp (fun n S => ∃ j : Nat, n = 3 - j ∧ j ≤ 3 ∧ S = ⟨[(6, .r (I j)), (5, .r (I k)), (0, .r (L l)), (1, .r (L l))], []⟩) 3 ?_ ?_
      · exact wx 0 ⟨0, rfl, by omega, rfl⟩
      rintro n' S ⟨j, hn', hj, rfl⟩
      refine sq ?_
      refine sg ?_
      refine mv ?_
      refine bo ?_
      refine rNil ?_
      refine cn (fun h3 => ?_) (fun h3 => ?_)
      ·
        have hj3 : j < 3 := by simp at h3; omega
        obtain ⟨v, hv⟩ := t3_get (x := x) hj3
        have hv' : List.take 5 (List.drop (Int.toNat (j : Int) * 5) (Enc.c x)) = Enc.c v := hv
        refine awp_skip ?_
        refine tn ?_
        refine sq ?_
        refine bk ?_
        refine sd mixO ?_
        refine mv ?_
        refine mv ?_
        refine mv ?_
        first | refine xs_ ?_ | refine xo ?_ | refine xw ?_
        first | refine xf ?_ | refine xb ?_ | refine xoa ?_
        refine lAf (hn := by have h15 : (Enc.c x).length = 15 := rfl; rw [List.length_drop, h15]; simp; omega) ?_
        rw [hv']
        refine mv ?_
        refine mv ?_
        refine mv ?_
        first | refine xs_ ?_ | refine xo ?_ | refine xw ?_
        first | refine xf ?_ | refine xb ?_ | refine xoa ?_
        refine lAf (hn := by have h15 : (Enc.c x).length = 15 := rfl; rw [List.length_drop, h15]; simp; omega) ?_
        rw [hv']
        refine cl (c9 v v) ?_
        refine nt ?_
        refine rNil ⟨rfl, ?_⟩
        refine cn (fun h4 => ?_) (fun h4 => ?_)
        ·
          rw [eqV_refl] at h4; cases h4 -- END
        ·
          refine awp_skip ?_
          refine bn_ ?_
          refine tn ?_
          refine rg ?_
          refine mv ?_
          refine bo ?_
          refine as_ ?_
          refine rNil ?_
          refine tn ?_
          exact ⟨3 - (j + 1), by omega, wx 0 ⟨j + 1, rfl, by omega, rfl⟩⟩ -- LEAF 1: round of loop 2
      ·
        refine awp_exit ?_
        refine te ?_
        refine te ?_
        refine xbk ?_
        refine bn_ ?_
        refine tn ?_
        refine rg ?_
        refine mv ?_
        refine bo ?_
        refine as_ ?_
        refine rNil ?_
        refine tn ?_
        exact ⟨l.length - (k + 1), by omega, wx 0 ⟨k + 1, rfl, by omega, rfl⟩⟩ -- LEAF 2: round of loop 1
    ·
      refine awp_exit ?_
      refine te ?_
      refine te ?_
      refine xbk ?_
      refine tn ?_
      refine sg ?_
      refine as_ ?_
      refine rNil ?_
      refine awp_ret ?_
      exact ⟨.inr rfl, _, (.cons (by first | exact .v (by ((repeat apply Look.there rfl); exact Look.here)) (.f (.v _)) | exact .v (by ((repeat apply Look.there rfl); exact Look.here)) (.row rfl rfl) | exact .v (by ((repeat apply Look.there rfl); exact Look.here)) (.f .nil) | exact .a (by ((repeat apply Look.there rfl); exact Look.here)) | skip) .nil), rfl⟩ -- LEAF 3: ret

/-- frustum/frustumlaw30.sameInts -/
theorem c25 (a : List Int) : Fn Try.prog 25 [L a, L a] (.one (B true)) := by
  refine fnI Try.func25 Try.ntmps25 fun hb => ?_
  have hla := bd_L (f := Enc.c) (l := a) hb (by simp)
  refine sg ?_
  refine as_ ?_
  refine rNil ?_
  refine sq ?_
  refine sg ?_
  refine mv ?_
  first | refine lnM ?_ | refine ln ?_ | refine lnO ?_ | refine lnN ?_ | refine lnW ?_
  refine mv ?_
  first | refine lnM ?_ | refine ln ?_ | refine lnO ?_ | refine lnN ?_ | refine lnW ?_
  refine bo ?_
  refine rNil ?_
  refine cn (fun h1 => ?_) (fun h1 => ?_)
  ·
    simp at h1 -- END
  ·
    refine awp_skip ?_
    refine tn ?_
    refine sq ?_
    refine sg ?_
    refine as_ ?_
    refine rNil ?_
    refine bk ?_
    refine lp (fun n S => ∃ k : Nat, n = a.length - k ∧ k ≤ a.length ∧ S = ⟨[(5, .r (I k)), (0, .r (L a)), (1, .r (L a))], []⟩) a.length ?_ ?_
    · exact wx 0 ⟨0, rfl, by omega, rfl⟩
    rintro n S ⟨k, hn, hk, rfl⟩
    refine sq ?_
    refine sg ?_
    refine mv ?_
    refine mv ?_
    first | refine lnM ?_ | refine ln ?_ | refine lnO ?_ | refine lnN ?_ | refine lnW ?_
    refine bo ?_
    refine rNil ?_
    refine cn (fun h2 => ?_) (fun h2 => ?_)
    ·
      have hk' : k < a.length := by simp at h2; omega
      obtain ⟨x, hx⟩ := ex_get hk'
      refine awp_skip ?_
      refine tn ?_
      refine sq ?_
      refine bk ?_
      refine sd mixO ?_
      refine mv ?_
      refine mv ?_
      first | refine xs_ ?_ | refine xo ?_ | refine xw ?_
      first | refine l1f ?_ | refine l1b ?_ | refine l1o ?_
      refine mv ?_
      refine mv ?_
      first | refine xs_ ?_ | refine xo ?_ | refine xw ?_
      first | refine l1f ?_ | refine l1b ?_ | refine l1o ?_
      refine bo ?_
      refine rNil ⟨rfl, ?_⟩
      refine cn (fun h3 => ?_) (fun h3 => ?_)
      ·
        simp at h3 -- END
      ·
        refine awp_skip ?_
        refine bn_ ?_
        refine tn ?_
        refine rg ?_
        refine mv ?_
        refine bo ?_
        refine as_ ?_
        refine rNil ?_
        refine tn ?_
        exact ⟨a.length - (k + 1), by omega, wx 0 ⟨k + 1, rfl, by omega, rfl⟩⟩ -- LEAF 1: round of loop 1
    ·
      refine awp_exit ?_
      refine te ?_
      refine te ?_
      refine xbk ?_
      refine tn ?_
      refine sg ?_
      refine as_ ?_
      refine rNil ?_
      refine awp_ret ?_
      exact ⟨.inr rfl, _, (.cons (by first | exact .v (by ((repeat apply Look.there rfl); exact Look.here)) (.f (.v _)) | exact .v (by ((repeat apply Look.there rfl); exact Look.here)) (.row rfl rfl) | exact .v (by ((repeat apply Look.there rfl); exact Look.here)) (.f .nil) | exact .a (by ((repeat apply Look.there rfl); exact Look.here)) | skip) .nil), rfl⟩ -- LEAF 2: ret

/-- frustum/geometrystage.copied -/
theorem c35 (v : V) (hl : v.vs.length ≤ 17592186044416) : Fn Try.prog 35 [A v] (.one (A v)) := by
  refine fnI Try.func35 Try.ntmps35 fun hb => ?_
  refine sg ?_
  refine bx _ ?_
  refine al _ ?_
  refine rNil ?_
  refine sg ?_
  first | refine ff ?_ | refine fb ?_ | refine fo ?_
  first | refine l1f ?_ | refine l1b ?_ | refine l1o ?_
  first | refine ap ?_ | refine (apN _) ?_
  first | refine ff ?_ | refine fb ?_ | refine fo ?_
  first | refine s1 ?_ | refine s1w ?_
  refine rNil ?_
  refine fz 2 ?_
  refine sg ?_
  refine lAbF 0 [2] ?_
  refine sA ?_
  refine rNil ?_
  refine awp_ret ?_
  exact ⟨.inr rfl, _, (.cons (resC (by ((repeat apply Look.there rfl); exact Look.here)) (by exact rfl) (by exact rfl) (by ((repeat (apply All2.cons; first | exact .f (.v _) | exact .row rfl (by first | exact rfl | simp) | exact .f .nil | exact .f (.fro rfl (by first | exact rfl | simp)))); exact All2.nil))) .nil), rfl⟩ -- LEAF 1: ret

def iota (n : Nat) : List Int := (List.range n).map (fun k : Nat => (k : Int))
theorem iota_snoc (n : Nat) : iota (n + 1) = iota n ++ [(n : Int)] := by simp [iota, List.range_succ]
theorem iota_len (n : Nat) : (iota n).length = n := by simp [iota]
theorem iota_get {n k : Nat} (h : k < n) : (iota n)[k]? = some (k : Int) := by simp [iota, h]
/-- frustum/frustumref30.numbers -/
theorem c37 (n : Nat) (hn : n ≤ 300) : Fn Try.prog 37 [I n] (.one (L (iota n))) := by
  refine fnI Try.func37 Try.ntmps37 fun hb => ?_
  refine sg ?_
  refine as_ ?_
  refine rNil ?_
  refine sg ?_
  refine (bsO _) ?_
  refine as_ ?_
  refine rNil ?_
  refine sq ?_
  refine sg ?_
  refine as_ ?_
  refine rNil ?_
  refine bk ?_
  refine lp (fun m S => ∃ (k j : Nat), m = n - k ∧ k ≤ n ∧ j = k ∧ S = ⟨[(4, .r (I k)), (3, .own 0 j), (0, .r (I n))], [.row 3 1 ((iota k).map Enc.c)]⟩) n ?_ ?_
  · exact wx 1 ⟨0, 0, by omega, by omega, rfl, rfl⟩
  rintro m S ⟨k, j, hm, hk, hj, rfl⟩
  have hjj : j = ((iota k).map Enc.c).length := by rw [List.length_map, iota_len, hj]
  have hil := iota_len k
  refine sq ?_
  refine sg ?_
  refine mv ?_
  refine mv ?_
  refine bo ?_
  refine rNil ?_
  refine cn (fun h1 => ?_) (fun h1 => ?_)
  ·
    refine awp_skip ?_
    refine tn ?_
    refine sq ?_
    refine bk ?_
    refine rg ?_
    refine mv ?_
    refine mv ?_
    refine bs ?_
    first | refine ap ?_ | refine (apN _) ?_
    refine as_ ?_
    refine rNil ?_
    refine bn_ ?_
    refine tn ?_
    refine rg ?_
    refine mv ?_
    refine bo ?_
    refine as_ ?_
    refine rNil ?_
    refine tn ?_
    exact ⟨n - (k + 1), by simp at h1; omega, wy 1 ⟨k + 1, j + 1, rfl, by simp at h1; omega, by omega, rfl⟩ (by simp [iota_snoc, RV.flat, Enc.c])⟩ -- LEAF 1: round of loop 1
  ·
    refine awp_exit ?_
    refine te ?_
    refine te ?_
    refine xbk ?_
    refine tn ?_
    refine sg ?_
    refine mv ?_
    refine as_ ?_
    refine rNil ?_
    refine awp_ret ?_
    obtain rfl : k = n := by simp at h1; omega
    exact ⟨.inr rfl, _, .cons (.v (by ((repeat apply Look.there rfl); exact Look.here)) (.row rfl hjj)) .nil, rfl⟩ -- LEAF 2: ret

end Go.Proofs.Ytolbhipnbhehdaa.VS
