/- The walks of functions: what each computes, by itself. Conditions: none. -/
import Derived.Test.YtnhljpbpfaablaaF7
set_option linter.unusedVariables false
set_option linter.unusedSimpArgs false
namespace Go.Proofs.Ytnhljpbpfaablaa.VS
open Go
theorem ex_get {α : Type} {a : List α} {k : Nat} (h : k < a.length) : ∃ x, a[((k : Int)).toNat]? = some x := ⟨a[k], by simp [h]⟩
/-- frustum/regalloc.mentioned -/
theorem c33 (q : Pr) : Fn Try.prog 33 [A q] (.one (B (q.y != -2))) := by
  refine fnI Try.func33 Try.ntmps33 fun hb => ?_
  refine sg ?_
  refine bx _ ?_
  refine as_ ?_
  refine rNil ?_
  refine sg ?_
  first | refine xf ?_ | refine xb ?_ | refine xoa ?_
  first | refine l1f ?_ | refine l1b ?_ | refine l1o ?_
  refine bo (hz := by exact rfl) ?_
  refine as_ ?_
  refine rNil ?_
  refine awp_ret ?_
  exact ⟨.inr rfl, _, (.cons (by first | exact .v (by ((repeat apply Look.there rfl); exact Look.here)) (.f (.v _)) | exact .v (by ((repeat apply Look.there rfl); exact Look.here)) (.row rfl (by first | exact rfl | (simp; done) | (simp; omega))) | exact .v (by ((repeat apply Look.there rfl); exact Look.here)) (.f .nil) | exact .a (by ((repeat apply Look.there rfl); exact Look.here)) | skip) .nil), rfl⟩ -- LEAF 1: ret

/-- frustum/frustumref05.SameInts -/
theorem c16 (a : List Int) : Fn Try.prog 16 [L a, L a] (.one (B true)) := by
  refine fnI Try.func16 Try.ntmps16 fun hb => ?_
  have hla := bd_L (f := Enc.c) (l := a) hb (by simp)
  refine sg ?_
  refine as_ ?_
  refine rNil ?_
  refine sq ?_
  refine sg ?_
  refine mv ?_
  first | refine lnM ?_ | refine ln ?_ | refine lnO ?_ | refine lnN ?_ | refine lnW ?_ | refine lnS ?_
  refine mv ?_
  first | refine lnM ?_ | refine ln ?_ | refine lnO ?_ | refine lnN ?_ | refine lnW ?_ | refine lnS ?_
  refine bo (hz := by exact rfl) ?_
  refine rNil ?_
  refine cn (fun h1 => ?_) (fun h1 => ?_)
  ·
    simp at h1 -- END
  ·
    refine awp_skip ?_
    refine tn ?_
    refine sq ?_
    refine sg ?_
    refine as_ ?_
    refine rNil ?_
    refine bk ?_
    refine lp (fun n S => ∃ k : Nat, n = a.length - k ∧ k ≤ a.length ∧ S = ⟨[(5, .r (I k)), (0, .r (L a)), (1, .r (L a))], []⟩) a.length ?_ ?_
    · exact wx 0 ⟨0, rfl, by omega, rfl⟩
    rintro n S ⟨k, hn, hk, rfl⟩
    refine sq ?_
    refine sg ?_
    refine mv ?_
    refine mv ?_
    first | refine lnM ?_ | refine ln ?_ | refine lnO ?_ | refine lnN ?_ | refine lnW ?_ | refine lnS ?_
    refine bo (hz := by exact rfl) ?_
    refine rNil ?_
    refine cn (fun h2 => ?_) (fun h2 => ?_)
    ·
      have hk' : k < a.length := by simp at h2; omega
      obtain ⟨x, hx⟩ := ex_get hk'
      refine awp_skip ?_
      refine tn ?_
      refine sq ?_
      refine bk ?_
      refine sd mixO ?_
      refine mv ?_
      refine mv ?_
      first | refine xs_ ?_ | refine xo ?_ | refine xw ?_ | refine xsl ?_
      first | refine l1f ?_ | refine l1b ?_ | refine l1o ?_
      refine mv ?_
      refine mv ?_
      first | refine xs_ ?_ | refine xo ?_ | refine xw ?_ | refine xsl ?_
      first | refine l1f ?_ | refine l1b ?_ | refine l1o ?_
      refine bo (hz := by exact rfl) ?_
      refine rNil ⟨rfl, ?_⟩
      refine cn (fun h3 => ?_) (fun h3 => ?_)
      ·
        simp at h3 -- END
      ·
        refine awp_skip ?_
        refine bn_ ?_
        refine tn ?_
        refine rg ?_
        refine mv ?_
        refine bo (hz := by first | exact bop_add (by omega) (by omega) | exact rfl) ?_
        refine as_ ?_
        refine rNil ?_
        refine tn ?_
        exact ⟨a.length - (k + 1), by omega, wx 0 ⟨k + 1, rfl, by omega, rfl⟩⟩ -- LEAF 1: round of loop 1
    ·
      refine awp_exit ?_
      refine te ?_
      refine te ?_
      refine xbk ?_
      refine tn ?_
      refine sg ?_
      refine as_ ?_
      refine rNil ?_
      refine awp_ret ?_
      exact ⟨.inr rfl, _, (.cons (by first | exact .v (by ((repeat apply Look.there rfl); exact Look.here)) (.f (.v _)) | exact .v (by ((repeat apply Look.there rfl); exact Look.here)) (.row rfl (by first | exact rfl | (simp; done) | (simp; omega))) | exact .v (by ((repeat apply Look.there rfl); exact Look.here)) (.f .nil) | exact .a (by ((repeat apply Look.there rfl); exact Look.here)) | skip) .nil), rfl⟩ -- LEAF 2: ret

/-- frustum/frustumref25.SamePairs -/
theorem c10 (a : List Pr) : Fn Try.prog 10 [L a, L a] (.one (B true)) := by
  refine fnI Try.func10 Try.ntmps10 fun hb => ?_
  have hla := bd_L (f := Enc.c) (l := a) hb (by simp)
  refine sg ?_
  refine as_ ?_
  refine rNil ?_
  refine sq ?_
  refine sg ?_
  refine mv ?_
  first | refine lnM ?_ | refine ln ?_ | refine lnO ?_ | refine lnN ?_ | refine lnW ?_ | refine lnS ?_
  refine mv ?_
  first | refine lnM ?_ | refine ln ?_ | refine lnO ?_ | refine lnN ?_ | refine lnW ?_ | refine lnS ?_
  refine bo (hz := by exact rfl) ?_
  refine rNil ?_
  refine cn (fun h1 => ?_) (fun h1 => ?_)
  ·
    simp at h1 -- END
  ·
    refine awp_skip ?_
    refine tn ?_
    refine sq ?_
    refine sg ?_
    refine as_ ?_
    refine rNil ?_
    refine bk ?_
    refine lp (fun n S => ∃ k : Nat, n = a.length - k ∧ k ≤ a.length ∧ S = ⟨[(5, .r (I k)), (0, .r (L a)), (1, .r (L a))], []⟩) a.length ?_ ?_
    · exact wx 0 ⟨0, rfl, by omega, rfl⟩
    rintro n S ⟨k, hn, hk, rfl⟩
    refine sq ?_
    refine sg ?_
    refine mv ?_
    refine mv ?_
    first | refine lnM ?_ | refine ln ?_ | refine lnO ?_ | refine lnN ?_ | refine lnW ?_ | refine lnS ?_
    refine bo (hz := by exact rfl) ?_
    refine rNil ?_
    refine cn (fun h2 => ?_) (fun h2 => ?_)
    ·
      have hk' : k < a.length := by simp at h2; omega
      obtain ⟨x, hx⟩ := ex_get hk'
      refine awp_skip ?_
      refine tn ?_
      refine sq ?_
      refine bk ?_
      refine sd mixO ?_
      refine mv ?_
      refine mv ?_
      first | refine xs_ ?_ | refine xo ?_ | refine xw ?_ | refine xsl ?_
      first | refine lAf ?_ | refine lAb ?_ | refine lAo ?_
      refine mv ?_
      refine mv ?_
      first | refine xs_ ?_ | refine xo ?_ | refine xw ?_ | refine xsl ?_
      first | refine lAf ?_ | refine lAb ?_ | refine lAo ?_
      refine eian ?_
      refine rNil ⟨rfl, ?_⟩
      refine cn (fun h3 => ?_) (fun h3 => ?_)
      ·
        simp at h3 -- END
      ·
        refine awp_skip ?_
        refine bn_ ?_
        refine tn ?_
        refine rg ?_
        refine mv ?_
        refine bo (hz := by first | exact bop_add (by omega) (by omega) | exact rfl) ?_
        refine as_ ?_
        refine rNil ?_
        refine tn ?_
        exact ⟨a.length - (k + 1), by omega, wx 0 ⟨k + 1, rfl, by omega, rfl⟩⟩ -- LEAF 1: round of loop 1
    ·
      refine awp_exit ?_
      refine te ?_
      refine te ?_
      refine xbk ?_
      refine tn ?_
      refine sg ?_
      refine as_ ?_
      refine rNil ?_
      refine awp_ret ?_
      exact ⟨.inr rfl, _, (.cons (by first | exact .v (by ((repeat apply Look.there rfl); exact Look.here)) (.f (.v _)) | exact .v (by ((repeat apply Look.there rfl); exact Look.here)) (.row rfl (by first | exact rfl | (simp; done) | (simp; omega))) | exact .v (by ((repeat apply Look.there rfl); exact Look.here)) (.f .nil) | exact .a (by ((repeat apply Look.there rfl); exact Look.here)) | skip) .nil), rfl⟩ -- LEAF 2: ret

def rdF (x : Ins) (r : Int) : Bool := (usesF x).contains r
def wrF (x : Ins) (r : Int) : Bool := dF x.op && x.dst == r
/-- frustum/frustumref25.reads -/
theorem c30 (x : Ins) (r : Int) : Fn Try.prog 30 [A x, I r] (.one (B (rdF x r))) := by
  refine fnI Try.func30 Try.ntmps30 fun hb => ?_
  refine sg ?_
  refine bx _ ?_
  refine as_ ?_
  refine rNil ?_
  refine sg ?_
  first | refine lAf ?_ | refine lAb ?_ | refine lAo ?_
  refine cl (c48 x) ?_
  refine as_ ?_
  refine rNil ?_
  refine sq ?_
  refine sg ?_
  refine as_ ?_
  refine rNil ?_
  refine bk ?_
  have hul : (usesF x).length ≤ 3 := by unfold usesF; split <;> split <;> split <;> simp
  refine lp (fun n S => ∃ k : Nat, n = (usesF x).length - k ∧ k ≤ (usesF x).length ∧ (∀ j < k, (usesF x)[j]? ≠ some r) ∧ S = ⟨[(6, .r (I k)), (5, .r (L (usesF x))), (1, .r (I r))], []⟩) (usesF x).length ?_ ?_
  · exact wx 0 ⟨0, rfl, by omega, fun j hj => absurd hj (Nat.not_lt_zero _), rfl⟩
  rintro n S ⟨k, hn, hk, hno, rfl⟩
  refine sq ?_
  refine sg ?_
  refine mv ?_
  refine mv ?_
  first | refine lnM ?_ | refine ln ?_ | refine lnO ?_ | refine lnN ?_ | refine lnW ?_ | refine lnS ?_
  refine bo (hz := by exact rfl) ?_
  refine rNil ?_
  refine cn (fun h1 => ?_) (fun h1 => ?_)
  ·
    have hk' : k < (usesF x).length := by simp at h1; omega
    obtain ⟨u, hu⟩ := ex_get hk'
    have hu' : (usesF x)[k]? = some u := by simpa using hu
    refine awp_skip ?_
    refine tn ?_
    refine sq ?_
    refine bk ?_
    refine sg ?_
    refine mv ?_
    refine mv ?_
    first | refine xs_ ?_ | refine xo ?_ | refine xw ?_ | refine xsl ?_
    first | refine l1f ?_ | refine l1b ?_ | refine l1o ?_
    refine mv ?_
    refine bo (hz := by exact rfl) ?_
    refine rNil ?_
    refine cn (fun h2 => ?_) (fun h2 => ?_)
    ·
      have e : u = r := by simpa using h2
      subst e
      refine sg ?_
      refine as_ ?_
      refine rNil ?_
      refine awp_ret ?_
      refine br ?_
      refine tr ?_
      refine tr ?_
      refine br ?_
      refine tr ?_
      exact ⟨.inr rfl, _, (.cons (by first | exact .v (by ((repeat apply Look.there rfl); exact Look.here)) (.f (.v _)) | exact .v (by ((repeat apply Look.there rfl); exact Look.here)) (.row rfl (by first | exact rfl | (simp; done) | (simp; omega))) | exact .v (by ((repeat apply Look.there rfl); exact Look.here)) (.f .nil) | exact .a (by ((repeat apply Look.there rfl); exact Look.here)) | skip) .nil), oneB (by symm; exact List.contains_iff_mem.2 (List.mem_of_getElem? hu'))⟩ -- LEAF 1: ret
    ·
      have e : u ≠ r := by simpa using h2
      refine awp_skip ?_
      refine bn_ ?_
      refine tn ?_
      refine rg ?_
      refine mv ?_
      refine bo (hz := by first | exact bop_add (by omega) (by omega) | exact rfl) ?_
      refine as_ ?_
      refine rNil ?_
      refine tn ?_
      exact ⟨(usesF x).length - (k + 1), by omega, wx 0 ⟨k + 1, rfl, by omega, upto_succ hno (by rw [hu']; simpa using e), rfl⟩⟩ -- LEAF 2: round of loop 1
  ·
    have hk' : k = (usesF x).length := by simp at h1; omega
    refine awp_exit ?_
    refine te ?_
    refine te ?_
    refine xbk ?_
    refine tn ?_
    refine sg ?_
    refine as_ ?_
    refine rNil ?_
    refine awp_ret ?_
    exact ⟨.inr rfl, _, (.cons (by first | exact .v (by ((repeat apply Look.there rfl); exact Look.here)) (.f (.v _)) | exact .v (by ((repeat apply Look.there rfl); exact Look.here)) (.row rfl (by first | exact rfl | (simp; done) | (simp; omega))) | exact .v (by ((repeat apply Look.there rfl); exact Look.here)) (.f .nil) | exact .a (by ((repeat apply Look.there rfl); exact Look.here)) | skip) .nil), oneB (by
      symm
      rw [rdF, ← Bool.not_eq_true, List.contains_iff_mem]
      intro hm
      obtain ⟨j, hj, he⟩ := List.mem_iff_getElem.1 hm
      exact hno j (by omega) (by rw [List.getElem?_eq_getElem hj, he]))⟩ -- LEAF 3: ret

/-- frustum/frustumref25.writes -/
theorem c31 (x : Ins) (r : Int) : Fn Try.prog 31 [A x, I r] (.one (B (wrF x r))) := by
  refine fnI Try.func31 Try.ntmps31 fun hb => ?_
  refine sg ?_
  refine bx _ ?_
  refine as_ ?_
  refine rNil ?_
  refine sg ?_
  first | refine ff ?_ | refine fb ?_ | refine fo ?_
  first | refine l1f ?_ | refine l1b ?_ | refine l1o ?_
  refine cl (c49 x.op) ?_
  refine mv ?_
  refine ex ?_
  refine ex ?_
  refine ex ?_
  refine ex ?_
  refine ex ?_
  refine as_ ?_
  refine as_ ?_
  refine as_ ?_
  refine as_ ?_
  refine as_ ?_
  refine rNil ?_
  refine sg ?_
  refine mv ?_
  refine mv ?_
  refine gd (fun h1 => ?_) (fun h1 => ?_)
  ·
    first | refine ff ?_ | refine fb ?_ | refine fo ?_
    first | refine l1f ?_ | refine l1b ?_ | refine l1o ?_
    refine mv ?_
    refine bo (hz := by exact rfl) ?_
    refine pkT ?_
    refine as_ ?_
    refine rNil ?_
    refine awp_ret ?_
    exact ⟨.inr rfl, _, (.cons (by first | exact .v (by ((repeat apply Look.there rfl); exact Look.here)) (.f (.v _)) | exact .v (by ((repeat apply Look.there rfl); exact Look.here)) (.row rfl (by first | exact rfl | (simp; done) | (simp; omega))) | exact .v (by ((repeat apply Look.there rfl); exact Look.here)) (.f .nil) | exact .a (by ((repeat apply Look.there rfl); exact Look.here)) | skip) .nil), oneB (by simp_all [wrF])⟩ -- LEAF 1: ret
  ·
    refine no ?_
    refine no ?_
    refine no ?_
    refine no ?_
    refine pkF ?_
    refine as_ ?_
    refine rNil ?_
    refine awp_ret ?_
    exact ⟨.inr rfl, _, (.cons (by first | exact .v (by ((repeat apply Look.there rfl); exact Look.here)) (.f (.v _)) | exact .v (by ((repeat apply Look.there rfl); exact Look.here)) (.row rfl (by first | exact rfl | (simp; done) | (simp; omega))) | exact .v (by ((repeat apply Look.there rfl); exact Look.here)) (.f .nil) | exact .a (by ((repeat apply Look.there rfl); exact Look.here)) | skip) .nil), oneB (by simp_all [wrF])⟩ -- LEAF 2: ret

/-- frustum/frustumlaw25.small -/
theorem c9 (p : Prg) : Fn Try.prog 9 [A p] (.one (B (decide (p.rg ≤ 200 ∧ p.code.length ≤ 400)))) := by
  refine fnI Try.func9 Try.ntmps9 fun hb => ?_
  refine sg ?_
  refine bx _ ?_
  refine as_ ?_
  refine rNil ?_
  refine sg ?_
  first | refine ff ?_ | refine fb ?_ | refine fo ?_
  first | refine l1f ?_ | refine l1b ?_ | refine l1o ?_
  refine bo (hz := by exact rfl) ?_
  refine mv ?_
  refine gd (fun h1 => ?_) (fun h1 => ?_)
  ·
    first | refine ff ?_ | refine fb ?_ | refine fo ?_
    first | refine l1f ?_ | refine l1b ?_ | refine l1o ?_
    first | refine lnM ?_ | refine ln ?_ | refine lnO ?_ | refine lnN ?_ | refine lnW ?_ | refine lnS ?_
    refine bo (hz := by exact rfl) ?_
    refine pkT ?_
    refine as_ ?_
    refine rNil ?_
    refine awp_ret ?_
    exact ⟨.inr rfl, _, (.cons (by first | exact .v (by ((repeat apply Look.there rfl); exact Look.here)) (.f (.v _)) | exact .v (by ((repeat apply Look.there rfl); exact Look.here)) (.row rfl (by first | exact rfl | (simp; done) | (simp; omega))) | exact .v (by ((repeat apply Look.there rfl); exact Look.here)) (.f .nil) | exact .a (by ((repeat apply Look.there rfl); exact Look.here)) | skip) .nil), oneB (by simp_all <;> omega)⟩ -- LEAF 1: ret
  ·
    refine no ?_
    refine no ?_
    refine no ?_
    refine no ?_
    refine pkF ?_
    refine as_ ?_
    refine rNil ?_
    refine awp_ret ?_
    exact ⟨.inr rfl, _, (.cons (by first | exact .v (by ((repeat apply Look.there rfl); exact Look.here)) (.f (.v _)) | exact .v (by ((repeat apply Look.there rfl); exact Look.here)) (.row rfl (by first | exact rfl | (simp; done) | (simp; omega))) | exact .v (by ((repeat apply Look.there rfl); exact Look.here)) (.f .nil) | exact .a (by ((repeat apply Look.there rfl); exact Look.here)) | skip) .nil), oneB (by simp_all <;> omega)⟩ -- LEAF 2: ret

def smp : Prg := ⟨1, 3, 0, 1, 0, 0, 0, [⟨1, 0, 0, 0, 0, 1⟩, ⟨1, 1, 0, 0, 0, 2⟩, ⟨3, 2, 0, 1, 0, 0⟩, ⟨39, 0, 2, 0, 0, 0⟩]⟩
/-- frustum/frustumlaw25.sample -/
theorem c32 : Fn Try.prog 32 [] (.one (A smp)) := by
  refine fnI Try.func32 Try.ntmps32 fun hb => ?_
  refine sg ?_
  refine al _ ?_
  refine rNil ?_
  refine sg ?_
  refine buS ?_
  refine buS ?_
  refine buS ?_
  refine buS ?_
  refine bs ?_
  refine buS ?_
  refine sA ?_
  refine rNil ?_
  refine awp_ret ?_
  exact ⟨.inr rfl, _, (.cons (resC (by ((repeat apply Look.there rfl); exact Look.here)) (by exact rfl) (by exact rfl) (by ((repeat (apply All2.cons; first | exact .f (.v _) | exact .row rfl (by first | exact rfl | simp) | exact .f .nil | exact .f (.fro rfl (by first | exact rfl | simp)))); exact All2.nil))) .nil), rfl⟩ -- LEAF 1: ret

def om (d f i : Int) : List Ins → List Pr
  | [] => []
  | x :: l => if x.op = 46 then om (d + 1) (if d = 0 then i else f) (i + 1) l else if x.op = 49 then (if d - 1 = 0 then ⟨f, i⟩ :: om (d - 1) f (i + 1) l else om (d - 1) f (i + 1) l) else om d f (i + 1) l
/-- frustum/regalloc.outermost -/
theorem c25 (l : List Ins) (hl : l.length ≤ 16384) : Fn Try.prog 25 [L l] (.one (L (om 0 0 0 l))) := by
  refine fnI Try.func25 Try.ntmps25 fun hb => ?_
  have hla := bd_L (f := Enc.c) (l := l) hb (by simp)
  refine sg ?_
  refine as_ ?_
  refine rNil ?_
  refine sg ?_
  refine as_ ?_
  refine rNil ?_
  refine sg ?_
  refine as_ ?_
  refine as_ ?_
  refine rNil ?_
  refine sq ?_
  refine sg ?_
  refine mv ?_
  first | refine lnM ?_ | refine ln ?_ | refine lnO ?_ | refine lnN ?_ | refine lnW ?_ | refine lnS ?_
  refine mv ?_
  refine rNil ?_
  refine bk ?_
  refine adN 0 3 37 2 ?_
  refine lp (fun n S => ∃ (k : Nat) (d f : Int) (q : List Pr), n = l.length - k ∧ k ≤ l.length ∧ om 0 0 0 l = q ++ om d f k (l.drop k) ∧ q.length ≤ k ∧ -k ≤ d ∧ d ≤ k ∧ S = ⟨[(10, .r (I k)), (9, .r (I l.length)), (8, .r (L l)), (5, .r (I f)), (4, .r (I d)), (3, .own 0 q.length)], [.row 37 2 (q.map Enc.c)]⟩) l.length ?_ ?_
  · exact wx 1 ⟨0, 0, 0, [], rfl, Nat.zero_le _, rfl, Nat.le_refl _, by omega, by omega, rfl⟩
  rintro n S ⟨k, d, f, q, hn, hk, hq, hql, hd1, hd2, rfl⟩
  refine sg ?_
  refine bo (hz := by exact rfl) ?_
  refine rNil ?_
  refine sq ?_
  refine cn (fun h1 => ?_) (fun h1 => ?_)
  ·
    have hk' : k < l.length := by simp at h1; omega
    obtain ⟨x, hx⟩ := ex_get hk'
    have hdr := drop_at (show l[k]? = some x by simpa using hx)
    rw [hdr, om] at hq
    refine awp_skip ?_
    refine tn ?_
    refine sq ?_
    refine bk ?_
    refine sg ?_
    refine mv ?_
    first | refine xs_ ?_ | refine xo ?_ | refine xw ?_ | refine xsl ?_
    first | refine lAf ?_ | refine lAb ?_ | refine lAo ?_
    refine al _ ?_
    refine as_ ?_
    refine sA ?_
    refine rNil ?_
    refine sg ?_
    first | refine ff ?_ | refine fb ?_ | refine fo ?_
    first | refine l1f ?_ | refine l1b ?_ | refine l1o ?_
    refine rNil ?_
    refine bk ?_
    refine sg ?_
    refine bo (hz := by exact rfl) ?_
    refine as_ ?_
    refine rNil ?_
    refine cn (fun h2 => ?_) (fun h2 => ?_)
    ·
      have e1 : x.op = 46 := by simpa using h2
      rw [if_pos e1] at hq
      refine sq ?_
      refine sg ?_
      refine mv ?_
      refine bo (hz := by exact rfl) ?_
      refine rNil ?_
      refine cn (fun h3 => ?_) (fun h3 => ?_)
      ·
        have e2 : d = 0 := by simpa using h3
        rw [if_pos e2] at hq
        refine rg ?_
        refine mv ?_
        refine as_ ?_
        refine rNil ?_
        refine tn ?_
        refine rg ?_
        refine mv ?_
        refine bo (hz := by first | exact bop_add (by omega) (by omega) | exact rfl) ?_
        refine as_ ?_
        refine rNil ?_
        refine bn_ ?_
        refine bn_ ?_
        refine tn ?_
        refine rg ?_
        refine bo (hz := by first | exact bop_add (by omega) (by omega) | exact rfl) ?_
        refine mv ?_
        refine rNil ?_
        refine tn ?_
        exact ⟨l.length - (k + 1), by omega, wx 1 ⟨k + 1, d + 1, k, q, rfl, by omega, hq, by omega, by omega, by omega, rfl⟩⟩ -- LEAF 1: round of loop 1
      ·
        have e2 : d ≠ 0 := by simpa using h3
        rw [if_neg e2] at hq
        refine awp_skip ?_
        refine tn ?_
        refine rg ?_
        refine mv ?_
        refine bo (hz := by first | exact bop_add (by omega) (by omega) | exact rfl) ?_
        refine as_ ?_
        refine rNil ?_
        refine bn_ ?_
        refine bn_ ?_
        refine tn ?_
        refine rg ?_
        refine bo (hz := by first | exact bop_add (by omega) (by omega) | exact rfl) ?_
        refine mv ?_
        refine rNil ?_
        refine tn ?_
        exact ⟨l.length - (k + 1), by omega, wx 1 ⟨k + 1, d + 1, f, q, rfl, by omega, hq, by omega, by omega, by omega, rfl⟩⟩ -- LEAF 2: round of loop 1
    ·
      have e1 : x.op ≠ 46 := by simpa using h2
      rw [if_neg e1] at hq
      refine sg ?_
      refine bo (hz := by exact rfl) ?_
      refine as_ ?_
      refine rNil ?_
      refine cn (fun h4 => ?_) (fun h4 => ?_)
      ·
        have e2 : x.op = 49 := by simpa using h4
        rw [if_pos e2] at hq
        refine sg ?_
        refine mv ?_
        refine bo (hz := by first | exact bop_sub (by omega) (by omega) | exact rfl) ?_
        refine as_ ?_
        refine rNil ?_
        refine sg ?_
        refine mv ?_
        refine bo (hz := by exact rfl) ?_
        refine rNil ?_
        refine cn (fun h5 => ?_) (fun h5 => ?_)
        ·
          have e3 : d - 1 = 0 := by simpa using h5
          rw [if_pos e3] at hq
          refine rg ?_
          refine mv ?_
          refine mv ?_
          refine mv ?_
          refine buA ?_
          refine bs ?_
          first | refine ap ?_ | refine (apN _) ?_
          refine as_ ?_
          refine rNil ?_
          refine bn_ ?_
          refine bn_ ?_
          refine tn ?_
          refine rg ?_
          refine bo (hz := by first | exact bop_add (by omega) (by omega) | exact rfl) ?_
          refine mv ?_
          refine rNil ?_
          refine tn ?_
          exact ⟨l.length - (k + 1), by omega, wy 1 ⟨k + 1, d - 1, f, q ++ [⟨f, k⟩], rfl, by omega, by rw [hq]; simp, by simp; omega, by omega, by omega, rfl⟩ (by simp; rfl)⟩ -- LEAF 3: round of loop 1
        ·
          have e3 : d - 1 ≠ 0 := by simpa using h5
          rw [if_neg e3] at hq
          refine awp_skip ?_
          refine bn_ ?_
          refine bn_ ?_
          refine tn ?_
          refine rg ?_
          refine bo (hz := by first | exact bop_add (by omega) (by omega) | exact rfl) ?_
          refine mv ?_
          refine rNil ?_
          refine tn ?_
          exact ⟨l.length - (k + 1), by omega, wx 1 ⟨k + 1, d - 1, f, q, rfl, by omega, hq, by omega, by omega, by omega, rfl⟩⟩ -- LEAF 4: round of loop 1
      ·
        have e2 : x.op ≠ 49 := by simpa using h4
        rw [if_neg e2] at hq
        refine awp_skip ?_
        refine bn_ ?_
        refine bn_ ?_
        refine tn ?_
        refine rg ?_
        refine bo (hz := by first | exact bop_add (by omega) (by omega) | exact rfl) ?_
        refine mv ?_
        refine rNil ?_
        refine tn ?_
        exact ⟨l.length - (k + 1), by omega, wx 1 ⟨k + 1, d, f, q, rfl, by omega, hq, by omega, by omega, by omega, rfl⟩⟩ -- LEAF 5: round of loop 1
  ·
    have hk' : k = l.length := by simp at h1; omega
    rw [hk', List.drop_length, om, List.append_nil] at hq
    subst hq
    refine awp_exit ?_
    refine te ?_
    refine te ?_
    refine xbk ?_
    refine tn ?_
    refine sg ?_
    refine mv ?_
    refine as_ ?_
    refine rNil ?_
    refine awp_ret ?_
    exact ⟨.inr rfl, _, (.cons (by first | exact .v (by ((repeat apply Look.there rfl); exact Look.here)) (.f (.v _)) | exact .v (by ((repeat apply Look.there rfl); exact Look.here)) (.row rfl (by first | exact rfl | (simp; done) | (simp; omega))) | exact .v (by ((repeat apply Look.there rfl); exact Look.here)) (.f .nil) | exact .a (by ((repeat apply Look.there rfl); exact Look.here)) | skip) .nil), rfl⟩ -- LEAF 6: ret

end Go.Proofs.Ytnhljpbpfaablaa.VS
