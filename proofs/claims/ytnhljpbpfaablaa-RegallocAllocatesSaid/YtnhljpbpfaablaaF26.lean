/- RegallocAllocates: the program's Allocate gives what the reference's gives. Conditions: none. -/
import Derived.Test.YtnhljpbpfaablaaF23
import Derived.Test.YtnhljpbpfaablaaPL
import Derived.Test.YtnhljpbpfaablaaVD
set_option linter.unusedVariables false
set_option linter.unusedSimpArgs false
namespace Go.Proofs.Ytnhljpbpfaablaa.VS
open Go Go.RowKit Go.ChangeShapes Go.WideShapes Go.ChangeAt
theorem ren_len' (p : Prg) (nums : List Int) (m : Int) : (renF p nums m).1.code.length ≤ 16384 := by
  unfold renF
  split
  · simp [zP]
  rename_i h
  obtain ⟨_, hl, _⟩ := valid_of (show validF p = 0 by simpa using h)
  repeat' split
  all_goals first | simp [zP]; done | (simp; exact hl)
theorem c18v (p : Prg) (h : p.code.length ≤ 16384) : Fn Try.prog 18 [A p] (.one (L (asg (ivF p)))) := by
  rw [(asg_main (ivF_okL h)).1]
  exact c18 p h
theorem asg_bd {p : Prg} (h : p.code.length ≤ 16384) : (asg (ivF p)).length ≤ 8192 ∧ ∀ (k : Nat) (z : Int), (asg (ivF p))[k]? = some z → -1 ≤ z ∧ z < 8192 := by
  obtain ⟨_, hI⟩ := asg_main (ivF_okL h)
  have hl := (ivF_okL h).1
  have hol : (ordF (ivF p)).length ≤ 8192 := by
    have := ordK_len (ivF p) (ivF p).length
    unfold ordF
    rw [lexs_len]; omega
  have hu := hI.ulen
  refine ⟨by rw [hI.len]; exact hl, fun k z hz => ?_⟩
  have hk : k < (ivF p).length := by rw [← hI.len]; exact (List.getElem?_eq_some_iff.1 hz).1
  have hg := getD_of hz
  by_cases hm : (k : Int) ∈ ordF (ivF p)
  · have := hI.num _ hm
    rw [Int.toNat_natCast, hg] at this
    omega
  · have := hI.out k hk hm
    rw [hg] at this
    omega
def mxK (l : List Int) (k : Nat) : Int := (l.take k).foldl (fun a z => mx a (z + 1)) 0
theorem mxK_succ {l : List Int} {k : Nat} {z : Int} (h : l[k]? = some z) : mxK l (k + 1) = mx (mxK l k) (z + 1) := by
  unfold mxK
  rw [take_snoc h, List.foldl_append]; rfl
def allF (p : Prg) (lim : Int) : Prg × Int :=
  if validF p ≠ 0 then (zP, 17) else if mxK (asg (ivF p)) (asg (ivF p)).length > lim then (zP, 9) else renF p (asg (ivF p)) (mxK (asg (ivF p)) (asg (ivF p)).length)
theorem all_len (p : Prg) (lim : Int) : (allF p lim).1.code.length ≤ 16384 := by
  unfold allF
  split
  · simp [zP]
  split
  · simp [zP]
  exact ren_len' _ _ _
/-- frustum/regalloc.Allocate -/
theorem c23 (p : Prg) (lim : Int) : Fn Try.prog 23 [A p, I lim] (.many [A (allF p lim).1, I (allF p lim).2]) := by
  refine fnI Try.func23 Try.ntmps23 fun hb => ?_
  refine sg ?_
  refine bx _ ?_
  refine al _ ?_
  refine as_ ?_
  refine rNil ?_
  refine sq ?_
  refine sg ?_
  first | refine lAf ?_ | refine lAb ?_ | refine lAo ?_
  refine cl (c19 p) ?_
  refine bo (hz := by exact rfl) ?_
  refine rNil ?_
  refine cn (fun h1 => ?_) (fun h1 => ?_)
  ·
    have g1 : validF p ≠ 0 := by simpa using h1
    refine sg ?_
    refine buS ?_
    refine sA ?_
    refine as_ ?_
    refine rNil ?_
    refine awp_ret ?_
    refine tr ?_
    exact ⟨.inr rfl, _, (.cons (resC (by ((repeat apply Look.there rfl); exact Look.here)) (by exact rfl) (by exact rfl) (by ((repeat (apply All2.cons; first | exact .f (.v _) | exact .row rfl (by first | exact rfl | simp) | exact .f .nil | exact .f (.fro rfl (by first | exact rfl | simp)))); exact All2.nil))) (.cons (by first | exact .v (by ((repeat apply Look.there rfl); exact Look.here)) (.f (.v _)) | exact .v (by ((repeat apply Look.there rfl); exact Look.here)) (.row rfl (by first | exact rfl | (simp; done) | (simp; omega))) | exact .v (by ((repeat apply Look.there rfl); exact Look.here)) (.f .nil) | exact .a (by ((repeat apply Look.there rfl); exact Look.here)) | skip) .nil)), (by rw [allF, if_pos g1]; rfl)⟩ -- LEAF 1: ret
  ·
    have g1 : validF p = 0 := by simpa using h1
    obtain ⟨hs, hl, hv, _⟩ := valid_of g1
    obtain ⟨hal, hab⟩ := asg_bd hl
    have hall : allF p lim = if mxK (asg (ivF p)) (asg (ivF p)).length > lim then (zP, 9) else renF p (asg (ivF p)) (mxK (asg (ivF p)) (asg (ivF p)).length) := by rw [allF, if_neg (by simpa using g1)]
    refine awp_skip ?_
    refine tn ?_
    refine sg ?_
    first | refine lAf ?_ | refine lAb ?_ | refine lAo ?_
    refine cl (c17 p) ?_
    refine as_ ?_
    refine rNil ?_
    refine sg ?_
    refine as_ ?_
    refine rNil ?_
    refine sq ?_
    refine sg ?_
    refine mv ?_
    first | refine lnM ?_ | refine ln ?_ | refine lnO ?_ | refine lnN ?_ | refine lnW ?_ | refine lnS ?_
    refine mv ?_
    refine rNil ?_
    refine bk ?_
    generalize hnu : asg (ivF p) = nums at *
    refine lp (fun mm S => ∃ k : Nat, mm = nums.length - k ∧ k ≤ nums.length ∧ S = ⟨[(18, .r (I k)), (17, .r (I nums.length)), (16, .r (L nums)), (7, .r (I (mxK nums k))), (6, .r (L nums)), (5, .r (I 0)), (4, .box 1 0), (2, .box 0 0), (1, .r (I lim))], [bxP p, bxZ]⟩) nums.length ?_ ?_
    · exact wx 2 ⟨0, rfl, Nat.zero_le _, rfl⟩
    rintro mm S ⟨k, hmm, hk, rfl⟩
    refine sg ?_
    refine bo (hz := by exact rfl) ?_
    refine rNil ?_
    refine sq ?_
    refine cn (fun h2 => ?_) (fun h2 => ?_)
    ·
      have hk' : k < nums.length := by simpa using h2
      obtain ⟨z, hz⟩ := ex_get hk'
      have hz' : nums[k]? = some z := by simpa using hz
      obtain ⟨hz0, hz1⟩ := hab k z hz'
      refine awp_skip ?_
      refine tn ?_
      refine sq ?_
      refine bk ?_
      refine sg ?_
      first | refine xs_ ?_ | refine xo ?_ | refine xw ?_ | refine xsl ?_
      first | refine l1f ?_ | refine l1b ?_ | refine l1o ?_
      refine as_ ?_
      refine rNil ?_
      refine rg ?_
      refine mv ?_
      refine mv ?_
      refine bo (hz := by first | exact bop_add (by omega) (by omega) | exact rfl) ?_
      refine mx2 ?_
      refine as_ ?_
      refine rNil ?_
      refine bn_ ?_
      refine tn ?_
      refine rg ?_
      refine bo (hz := by first | exact bop_add (by omega) (by omega) | exact rfl) ?_
      refine mv ?_
      refine rNil ?_
      refine tn ?_
      exact ⟨nums.length - (k + 1), by omega, wx 2 ⟨k + 1, rfl, by omega, by rw [mxK_succ hz']; rfl⟩⟩ -- LEAF 2: round of loop 1
    ·
      have hk' : k = nums.length := by simp at h2; omega
      rw [hk']
      refine awp_exit ?_
      refine te ?_
      refine te ?_
      refine xbk ?_
      refine tn ?_
      refine sq ?_
      refine sg ?_
      refine mv ?_
      refine mv ?_
      refine bo (hz := by exact rfl) ?_
      refine rNil ?_
      refine cn (fun h3 => ?_) (fun h3 => ?_)
      ·
        have g3 : mxK nums nums.length > lim := by simpa using h3
        refine sg ?_
        refine buS ?_
        refine sA ?_
        refine as_ ?_
        refine rNil ?_
        refine awp_ret ?_
        refine tr ?_
        exact ⟨.inr rfl, _, (.cons (resC (by ((repeat apply Look.there rfl); exact Look.here)) (by exact rfl) (by exact rfl) (by ((repeat (apply All2.cons; first | exact .f (.v _) | exact .row rfl (by first | exact rfl | simp) | exact .f .nil | exact .f (.fro rfl (by first | exact rfl | simp)))); exact All2.nil))) (.cons (by first | exact .v (by ((repeat apply Look.there rfl); exact Look.here)) (.f (.v _)) | exact .v (by ((repeat apply Look.there rfl); exact Look.here)) (.row rfl (by first | exact rfl | (simp; done) | (simp; omega))) | exact .v (by ((repeat apply Look.there rfl); exact Look.here)) (.f .nil) | exact .a (by ((repeat apply Look.there rfl); exact Look.here)) | skip) .nil)), (by rw [hall, if_pos g3]; rfl)⟩ -- LEAF 3: ret
      ·
        have g3 : ¬ mxK nums nums.length > lim := by simpa using h3
        rw [if_neg g3] at hall
        have k20 := c20 p nums (mxK nums nums.length)
        rw [← hall] at k20
        generalize allF p lim = R at *
        obtain ⟨r, e⟩ := R
        dsimp only at *
        refine awp_skip ?_
        refine tn ?_
        refine sg ?_
        first | refine lAf ?_ | refine lAb ?_ | refine lAo ?_
        refine mv ?_
        refine mv ?_
        refine cl (k20) ?_
        refine ex ?_
        refine ex ?_
        refine sA ?_
        refine as_ ?_
        refine rNil ?_
        refine awp_ret ?_
        exact ⟨.inr rfl, _, (.cons (resC (by ((repeat apply Look.there rfl); exact Look.here)) (by exact rfl) (by exact rfl) (by ((repeat (apply All2.cons; first | exact .f (.v _) | exact .row rfl (by first | exact rfl | simp) | exact .f .nil | exact .f (.fro rfl (by first | exact rfl | simp)))); exact All2.nil))) (.cons (by first | exact .v (by ((repeat apply Look.there rfl); exact Look.here)) (.f (.v _)) | exact .v (by ((repeat apply Look.there rfl); exact Look.here)) (.row rfl (by first | exact rfl | (simp; done) | (simp; omega))) | exact .v (by ((repeat apply Look.there rfl); exact Look.here)) (.f .nil) | exact .a (by ((repeat apply Look.there rfl); exact Look.here)) | skip) .nil)), rfl⟩ -- LEAF 4: ret

/-- frustum/frustumref25.Allocate -/
theorem c24 (p : Prg) (lim : Int) : Fn Try.prog 24 [A p, I lim] (.many [A (allF p lim).1, I (allF p lim).2]) := by
  refine fnI Try.func24 Try.ntmps24 fun hb => ?_
  refine sg ?_
  refine bx _ ?_
  refine al _ ?_
  refine as_ ?_
  refine rNil ?_
  refine sq ?_
  refine sg ?_
  first | refine lAf ?_ | refine lAb ?_ | refine lAo ?_
  refine cl (c27 p) ?_
  refine bo (hz := by exact rfl) ?_
  refine rNil ?_
  refine cn (fun h1 => ?_) (fun h1 => ?_)
  ·
    have g1 : validF p ≠ 0 := by simpa using h1
    refine sg ?_
    refine buS ?_
    refine sA ?_
    refine as_ ?_
    refine rNil ?_
    refine awp_ret ?_
    refine tr ?_
    exact ⟨.inr rfl, _, (.cons (resC (by ((repeat apply Look.there rfl); exact Look.here)) (by exact rfl) (by exact rfl) (by ((repeat (apply All2.cons; first | exact .f (.v _) | exact .row rfl (by first | exact rfl | simp) | exact .f .nil | exact .f (.fro rfl (by first | exact rfl | simp)))); exact All2.nil))) (.cons (by first | exact .v (by ((repeat apply Look.there rfl); exact Look.here)) (.f (.v _)) | exact .v (by ((repeat apply Look.there rfl); exact Look.here)) (.row rfl (by first | exact rfl | (simp; done) | (simp; omega))) | exact .v (by ((repeat apply Look.there rfl); exact Look.here)) (.f .nil) | exact .a (by ((repeat apply Look.there rfl); exact Look.here)) | skip) .nil)), (by rw [allF, if_pos g1]; rfl)⟩ -- LEAF 1: ret
  ·
    have g1 : validF p = 0 := by simpa using h1
    obtain ⟨hs, hl, hv, _⟩ := valid_of g1
    obtain ⟨hal, hab⟩ := asg_bd hl
    have hall : allF p lim = if mxK (asg (ivF p)) (asg (ivF p)).length > lim then (zP, 9) else renF p (asg (ivF p)) (mxK (asg (ivF p)) (asg (ivF p)).length) := by rw [allF, if_neg (by simpa using g1)]
    refine awp_skip ?_
    refine tn ?_
    refine sg ?_
    first | refine lAf ?_ | refine lAb ?_ | refine lAo ?_
    refine cl (c18v p hl) ?_
    refine as_ ?_
    refine rNil ?_
    refine sg ?_
    refine as_ ?_
    refine rNil ?_
    refine sq ?_
    refine sg ?_
    refine as_ ?_
    refine rNil ?_
    refine bk ?_
    generalize hnu : asg (ivF p) = nums at *
    refine lp (fun mm S => ∃ k : Nat, mm = nums.length - k ∧ k ≤ nums.length ∧ S = ⟨[(8, .r (I k)), (7, .r (I (mxK nums k))), (6, .r (L nums)), (5, .r (I 0)), (4, .box 1 0), (2, .box 0 0), (1, .r (I lim))], [bxP p, bxZ]⟩) nums.length ?_ ?_
    · exact wx 2 ⟨0, rfl, Nat.zero_le _, rfl⟩
    rintro mm S ⟨k, hmm, hk, rfl⟩
    refine sq ?_
    refine sg ?_
    refine mv ?_
    refine mv ?_
    first | refine lnM ?_ | refine ln ?_ | refine lnO ?_ | refine lnN ?_ | refine lnW ?_ | refine lnS ?_
    refine bo (hz := by exact rfl) ?_
    refine rNil ?_
    refine cn (fun h2 => ?_) (fun h2 => ?_)
    ·
      have hk' : k < nums.length := by simpa using h2
      obtain ⟨z, hz⟩ := ex_get hk'
      have hz' : nums[k]? = some z := by simpa using hz
      obtain ⟨hz0, hz1⟩ := hab k z hz'
      refine awp_skip ?_
      refine tn ?_
      refine sq ?_
      refine bk ?_
      refine rg ?_
      refine mv ?_
      refine mv ?_
      refine mv ?_
      first | refine xs_ ?_ | refine xo ?_ | refine xw ?_ | refine xsl ?_
      first | refine l1f ?_ | refine l1b ?_ | refine l1o ?_
      refine bo (hz := by first | exact bop_add (by omega) (by omega) | exact rfl) ?_
      refine mx2 ?_
      refine as_ ?_
      refine rNil ?_
      refine bn_ ?_
      refine tn ?_
      refine rg ?_
      refine mv ?_
      refine bo (hz := by first | exact bop_add (by omega) (by omega) | exact rfl) ?_
      refine as_ ?_
      refine rNil ?_
      refine tn ?_
      exact ⟨nums.length - (k + 1), by omega, wx 2 ⟨k + 1, rfl, by omega, by rw [mxK_succ hz']; rfl⟩⟩ -- LEAF 2: round of loop 1
    ·
      have hk' : k = nums.length := by simp at h2; omega
      rw [hk']
      refine awp_exit ?_
      refine te ?_
      refine te ?_
      refine xbk ?_
      refine tn ?_
      refine sq ?_
      refine sg ?_
      refine mv ?_
      refine mv ?_
      refine bo (hz := by exact rfl) ?_
      refine rNil ?_
      refine cn (fun h3 => ?_) (fun h3 => ?_)
      ·
        have g3 : mxK nums nums.length > lim := by simpa using h3
        refine sg ?_
        refine buS ?_
        refine sA ?_
        refine as_ ?_
        refine rNil ?_
        refine awp_ret ?_
        refine tr ?_
        exact ⟨.inr rfl, _, (.cons (resC (by ((repeat apply Look.there rfl); exact Look.here)) (by exact rfl) (by exact rfl) (by ((repeat (apply All2.cons; first | exact .f (.v _) | exact .row rfl (by first | exact rfl | simp) | exact .f .nil | exact .f (.fro rfl (by first | exact rfl | simp)))); exact All2.nil))) (.cons (by first | exact .v (by ((repeat apply Look.there rfl); exact Look.here)) (.f (.v _)) | exact .v (by ((repeat apply Look.there rfl); exact Look.here)) (.row rfl (by first | exact rfl | (simp; done) | (simp; omega))) | exact .v (by ((repeat apply Look.there rfl); exact Look.here)) (.f .nil) | exact .a (by ((repeat apply Look.there rfl); exact Look.here)) | skip) .nil)), (by rw [hall, if_pos g3]; rfl)⟩ -- LEAF 3: ret
      ·
        have g3 : ¬ mxK nums nums.length > lim := by simpa using h3
        rw [if_neg g3] at hall
        have k21 := c21 p nums (mxK nums nums.length)
        rw [← hall] at k21
        generalize allF p lim = R at *
        obtain ⟨r, e⟩ := R
        dsimp only at *
        refine awp_skip ?_
        refine tn ?_
        refine sg ?_
        first | refine lAf ?_ | refine lAb ?_ | refine lAo ?_
        refine mv ?_
        refine mv ?_
        refine cl (k21) ?_
        refine ex ?_
        refine ex ?_
        refine sA ?_
        refine as_ ?_
        refine rNil ?_
        refine awp_ret ?_
        exact ⟨.inr rfl, _, (.cons (resC (by ((repeat apply Look.there rfl); exact Look.here)) (by exact rfl) (by exact rfl) (by ((repeat (apply All2.cons; first | exact .f (.v _) | exact .row rfl (by first | exact rfl | simp) | exact .f .nil | exact .f (.fro rfl (by first | exact rfl | simp)))); exact All2.nil))) (.cons (by first | exact .v (by ((repeat apply Look.there rfl); exact Look.here)) (.f (.v _)) | exact .v (by ((repeat apply Look.there rfl); exact Look.here)) (.row rfl (by first | exact rfl | (simp; done) | (simp; omega))) | exact .v (by ((repeat apply Look.there rfl); exact Look.here)) (.f .nil) | exact .a (by ((repeat apply Look.there rfl); exact Look.here)) | skip) .nil)), rfl⟩ -- LEAF 4: ret

/-- frustum/frustumlaw25.RegallocAllocates -/
theorem c8 (p : Prg) (lim : Int) : Fn Try.prog 8 [A p, I lim] (.one (B true)) := by
  refine fnI Try.func8 Try.ntmps8 fun hb => ?_
  have k23 := c23 p lim
  have k24 := c24 p lim
  have hlen := all_len p lim
  generalize allF p lim = R at *
  obtain ⟨r, e⟩ := R
  have k22 := c22 r hlen
  dsimp only at *
  refine sg ?_
  refine bx _ ?_
  refine as_ ?_
  refine rNil ?_
  refine sq ?_
  refine sg ?_
  first | refine lAf ?_ | refine lAb ?_ | refine lAo ?_
  refine cl (c9 p) ?_
  refine nt ?_
  refine rNil ?_
  refine cn (fun h1 => ?_) (fun h1 => ?_)
  ·
    refine sg ?_
    refine cl (c13) ?_
    refine as_ ?_
    refine rNil ?_
    refine awp_ret ?_
    refine tr ?_
    exact ⟨.inr rfl, _, (.cons (by first | exact .v (by ((repeat apply Look.there rfl); exact Look.here)) (.f (.v _)) | exact .v (by ((repeat apply Look.there rfl); exact Look.here)) (.row rfl (by first | exact rfl | (simp; done) | (simp; omega))) | exact .v (by ((repeat apply Look.there rfl); exact Look.here)) (.f .nil) | exact .a (by ((repeat apply Look.there rfl); exact Look.here)) | skip) .nil), rfl⟩ -- LEAF 1: ret
  ·
    refine awp_skip ?_
    refine tn ?_
    refine sg ?_
    first | refine lAf ?_ | refine lAb ?_ | refine lAo ?_
    refine mv ?_
    refine cl (k23) ?_
    refine mv ?_
    refine ex ?_
    refine ex ?_
    refine al _ ?_
    refine sA ?_
    refine as_ ?_
    refine rNil ?_
    refine sg ?_
    first | refine lAf ?_ | refine lAb ?_ | refine lAo ?_
    refine mv ?_
    refine cl (k24) ?_
    refine mv ?_
    refine ex ?_
    refine ex ?_
    refine al _ ?_
    refine sA ?_
    refine as_ ?_
    refine rNil ?_
    refine sg ?_
    refine mv ?_
    refine mv ?_
    refine bo (hz := by exact rfl) ?_
    refine mv ?_
    refine gd (fun h2 => ?_) (fun h2 => ?_)
    ·
      first | refine lAf ?_ | refine lAb ?_ | refine lAo ?_
      first | refine lAf ?_ | refine lAb ?_ | refine lAo ?_
      refine cl (k22) ?_
      refine pkT ?_
      refine mv ?_
      refine gd (fun h3 => ?_) (fun h3 => ?_)
      ·
        refine cl (c13) ?_
        refine pkT ?_
        refine as_ ?_
        refine rNil ?_
        refine awp_ret ?_
        exact ⟨.inr rfl, _, (.cons (by first | exact .v (by ((repeat apply Look.there rfl); exact Look.here)) (.f (.v _)) | exact .v (by ((repeat apply Look.there rfl); exact Look.here)) (.row rfl (by first | exact rfl | (simp; done) | (simp; omega))) | exact .v (by ((repeat apply Look.there rfl); exact Look.here)) (.f .nil) | exact .a (by ((repeat apply Look.there rfl); exact Look.here)) | skip) .nil), rfl⟩ -- LEAF 2: ret
      ·
        exact absurd h3 (by decide) -- END
    ·
      simp at h2 -- END

theorem c8_fn (xs : List RV) (h : All2 (Top bdF) [(true, ctP), (false, [.i .i64])] xs) : Fn Try.prog 8 xs (.one (.v (.b true))) := by
  cases h with
  | cons h1 h =>
  cases h with
  | cons h3 h =>
  cases h
  cases h1 with
  | agg h1 =>
  cases h3 with
  | one h3 =>
  obtain ⟨p, rfl, _⟩ := dec_P _ h1
  obtain ⟨m, rfl, _⟩ := has_int h3
  exact c8 p m
set_option maxRecDepth 100000 in
theorem vo_lifted (os : Os) (started : os.Started) (H : Type) (enc : TypeId × Value → H) :
    ReturnsInHanded {} Try.checked os 8 .any (Rows.regallocAllocatesSpec.pre6 enc Try.prog Try.f8 Rows.regallocAllocatesRow.domain false) (Rows.regallocAllocatesSpec.post enc Try.prog Try.f8 false true false false) := by
  refine returnsInHanded_of_change_sized (C := Try.checked) own started (by kernel_rfl) Try.func8
    (ChangeSpec.witness6 (enc := enc) (C := Try.checked) false ⟨#[], #[.agg #[.int .i64 0, .int .i64 0, .int .i64 0, .int .i64 0, .int .i64 0, .int .i64 0, .int .i64 0, .slice none 0 0], .int .i64 0], []⟩ 8 (by kernel_rfl) (by kernel_rfl) (by kernel_rfl) (by kernel_rfl)) ?_
  intro W base args ds gs before hval hW _ hw _
  refine law_contract (n := 20) (tb := 4) closedF laid rfl (by kernel_rfl) (by kernel_rfl) Try.underlying4 ?_ (by kernel_rfl) c8_fn hval hW (weights_in hw)
  intro ds h
  match ds, h with
  | [d1, d2], _ => exact ⟨rfl, rfl, rfl⟩

theorem regallocAllocates_holds : Rows.RegallocAllocatesSaid :=
  OpenClaim.holds_of_wide 8 Try.f8 rfl rfl rfl rfl rfl rfl rfl ⟨rfl, rfl, rfl, rfl, rfl⟩ rfl rfl rfl rfl rfl (by kernel_rfl) Try.func8 (by kernel_rfl)
    (of_decide_eq_true (by kernel_rfl)) (by unfold Func.isWrapper; first | (rw [if_pos (by decide +kernel)]; kernel_rfl) | (rw [if_neg (by decide +kernel)]; exact ⟨rfl, rfl⟩))
    (fun os started H enc _ => vo_lifted os started H enc)
#print axioms regallocAllocates_holds
end Go.Proofs.Ytnhljpbpfaablaa.VS
