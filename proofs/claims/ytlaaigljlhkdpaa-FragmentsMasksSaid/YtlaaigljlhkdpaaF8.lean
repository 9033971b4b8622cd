/- The walks of functions: what each computes, by itself. Conditions: none. -/
import Derived.Test.YtlaaigljlhkdpaaF7
set_option linter.unusedVariables false
set_option linter.unusedSimpArgs false
namespace Go.Proofs.Ytlaaigljlhkdpaa.VS
open Go
def bitF (t : Tri) (x y n : Int) (i : Nat) : Bool := decide ((spF x y n i).1 ≥ 0) && covers t (spF x y n i).1 (spF x y n i).2
def maskN (t : Tri) (x y n : Int) : Nat → Int
  | 0 => 0
  | k + 1 => maskN t x y n k + if bitF t x y n k = true then 2 ^ k else 0
def maskF (t : Tri) (x y n : Int) : Int := maskN t x y n (pos n).length
theorem maskN_bd (t : Tri) (x y n : Int) : ∀ k, 0 ≤ maskN t x y n k ∧ maskN t x y n k < 2 ^ k
  | 0 => by simp [maskN]
  | k + 1 => by
    have ih := maskN_bd t x y n k
    have h2 : (2 : Int) ^ (k + 1) = 2 ^ k * 2 := Int.pow_succ _ _
    rw [maskN]
    split <;> omega
theorem pow8 {k : Nat} (h : k ≤ 8) : 1 ≤ (2 : Int) ^ k ∧ (2 : Int) ^ k ≤ 256 := by
  rcases (show k = 0 ∨ k = 1 ∨ k = 2 ∨ k = 3 ∨ k = 4 ∨ k = 5 ∨ k = 6 ∨ k = 7 ∨ k = 8 by omega) with h | h | h | h | h | h | h | h | h <;> subst h <;> decide
theorem shl1 {k : Nat} (h : k ≤ 8) : shop .shl .i64 1 (k : Int) = some (.i .i64 (2 ^ k)) := by
  have h1 : min ((k : Int)).toNat IntKind.i64.bits = k := by
    show min k 64 = k
    omega
  have h2 := pow8 h
  have hn : ¬ (k : Int) < 0 := by omega
  simp only [shop]
  rw [if_neg hn, h1, Int.one_mul, wrap64_in (by omega) (by omega)]
theorem bop_or1 {k : Nat} {m : Int} (h : k ≤ 8) (h0 : 0 ≤ m ∧ m < 2 ^ k) : bop .or .i64 m (2 ^ k) = some (.i .i64 (m + 2 ^ k)) := by
  have h2 := pow8 h
  obtain ⟨a, rfl⟩ : ∃ a : Nat, m = a := ⟨m.toNat, by omega⟩
  have hk : ((2 ^ k : Nat) : Int) = (2 : Int) ^ k := by simp
  have hlt : a < 2 ^ k := by omega
  have h1 : (BitVec.ofInt 64 (a : Int) ||| BitVec.ofInt 64 ((2 : Int) ^ k)).toNat = a + 2 ^ k := by
    rw [← hk, BitVec.toNat_or, BitVec.toNat_ofInt, BitVec.toNat_ofInt]
    have e1 : ((a : Int) % ((2 ^ 64 : Nat) : Int)).toNat = a := by omega
    have e2 : (((2 ^ k : Nat) : Int) % ((2 ^ 64 : Nat) : Int)).toNat = 2 ^ k := by omega
    rw [e1, e2, Nat.or_comm]
    have := Nat.two_pow_add_eq_or_of_lt hlt 1
    rw [Nat.mul_one] at this
    rw [← this, Nat.add_comm]
  show some (FV.i .i64 (IntKind.i64.wrap ((BitVec.ofInt 64 (a : Int) ||| BitVec.ofInt 64 ((2 : Int) ^ k)).toNat : Nat))) = _
  rw [h1, wrap64_in (by omega) (by omega)]
  congr 2
/-- frustum/coverage.Mask -/
theorem c35 (t : Tri) (x y n : Int) : Fn Try.prog 35 [A t, I x, I y, I n] (.one (I (maskF t x y n))) := by
  refine fnI Try.func35 Try.ntmps35 fun hb => ?_
  have hp8 := pos_len n
  refine sg ?_
  refine bx _ ?_
  refine as_ ?_
  refine rNil ?_
  refine sg ?_
  refine as_ ?_
  refine rNil ?_
  refine sq ?_
  refine sg ?_
  refine mv ?_
  refine cl (c36 _) ?_
  first | refine lnM ?_ | refine ln ?_ | refine lnO ?_ | refine lnN ?_ | refine lnW ?_
  refine mv ?_
  refine rNil ?_
  refine bk ?_
  refine lp (fun m S => ∃ k : Nat, m = (pos n).length - k ∧ k ≤ (pos n).length ∧ S = ⟨[(16, .r (I k)), (15, .r (I (pos n).length)), (9, .r (I (maskN t x y n k))), (4, .box 0 0), (1, .r (I x)), (2, .r (I y)), (3, .r (I n))], [.box 27 (triC t)]⟩) (pos n).length ?_ ?_
  · exact wx 1 ⟨0, rfl, by omega, rfl⟩
  rintro m S ⟨k, hm, hk, rfl⟩
  have hmb := maskN_bd t x y n k
  refine sg ?_
  refine bo ?_
  refine rNil ?_
  refine sq ?_
  refine cn (fun h1 => ?_) (fun h1 => ?_)
  ·
    have hk1 : k < (pos n).length := by simpa using h1
    have hk8 : k ≤ 8 := by omega
    refine awp_skip ?_
    refine tn ?_
    refine sq ?_
    refine bk ?_
    refine sg ?_
    refine mv ?_
    refine as_ ?_
    refine rNil ?_
    refine sg ?_
    refine mv ?_
    refine mv ?_
    refine mv ?_
    refine mv ?_
    refine cl (c19 _ _ _ _) ?_
    refine mv ?_
    refine ex ?_
    refine ex ?_
    refine as_ ?_
    refine as_ ?_
    refine rNil ?_
    refine sg ?_
    refine mv ?_
    refine bo ?_
    refine mv ?_
    refine gd (fun h2 => ?_) (fun h2 => ?_)
    ·
      first | refine lAf ?_ | refine lAb ?_ | refine lAo ?_
      refine mv ?_
      refine mv ?_
      refine cl (c57 t _ _) ?_
      refine pkT ?_
      refine rNil ?_
      refine cn (fun h3 => ?_) (fun h3 => ?_)
      ·
        refine rg ?_
        refine mv ?_
        refine mv ?_
        refine sh (hz := shl1 hk8) ?_
        refine bo (hz := bop_or1 hk8 hmb) ?_
        refine as_ ?_
        refine rNil ?_
        refine bn_ ?_
        refine tn ?_
        refine rg ?_
        refine bo ?_
        refine mv ?_
        refine rNil ?_
        refine tn ?_
        have hb1 : bitF t x y n k = true := by simp only [bitF, h2, h3, Bool.and_self]
        exact ⟨(pos n).length - (k + 1), by omega, wx 1 ⟨k + 1, rfl, by omega, by rw [maskN, if_pos hb1]; rfl⟩⟩ -- LEAF 1: round of loop 1
      ·
        refine awp_skip ?_
        refine bn_ ?_
        refine tn ?_
        refine rg ?_
        refine bo ?_
        refine mv ?_
        refine rNil ?_
        refine tn ?_
        have hb1 : bitF t x y n k = false := by simp only [bitF, h2, h3, Bool.and_false]
        exact ⟨(pos n).length - (k + 1), by omega, wx 1 ⟨k + 1, rfl, by omega, by rw [maskN, if_neg (by rw [hb1]; decide), Int.add_zero]; rfl⟩⟩ -- LEAF 2: round of loop 1
    ·
      refine no ?_
      refine no ?_
      refine no ?_
      refine no ?_
      refine pkF ?_
      refine rNil ?_
      refine cn (fun h4 => ?_) (fun h4 => ?_)
      ·
        exact absurd h4 (by decide)
      ·
        refine awp_skip ?_
        refine bn_ ?_
        refine tn ?_
        refine rg ?_
        refine bo ?_
        refine mv ?_
        refine rNil ?_
        refine tn ?_
        have hb1 : bitF t x y n k = false := by simp only [bitF, h2, Bool.false_and]
        exact ⟨(pos n).length - (k + 1), by omega, wx 1 ⟨k + 1, rfl, by omega, by rw [maskN, if_neg (by rw [hb1]; decide), Int.add_zero]; rfl⟩⟩ -- LEAF 3: round of loop 1
  ·
    refine awp_exit ?_
    refine te ?_
    refine te ?_
    refine xbk ?_
    refine tn ?_
    refine sg ?_
    refine mv ?_
    refine as_ ?_
    refine rNil ?_
    refine awp_ret ?_
    have hkk : k = (pos n).length := by simp at h1; omega
    subst hkk
    exact ⟨.inr rfl, _, (.cons (by first | exact .v (by ((repeat apply Look.there rfl); exact Look.here)) (.f (.v _)) | exact .v (by ((repeat apply Look.there rfl); exact Look.here)) (.row rfl rfl) | exact .v (by ((repeat apply Look.there rfl); exact Look.here)) (.f .nil) | exact .a (by ((repeat apply Look.there rfl); exact Look.here)) | skip) .nil), rfl⟩ -- LEAF 4: ret

theorem sp_pos {x y n i : Int} (h : decide ((spF x y n i).1 ≥ 0) = true) : (0 ≤ (spF x y n i).1 ∧ (spF x y n i).1 ≤ 16384) ∧ 0 ≤ (spF x y n i).2 ∧ (spF x y n i).2 ≤ 16384 := by
  have h := of_decide_eq_true h
  rcases sp_bd x y n i with e | e
  · rw [e] at h; exact absurd h (by decide)
  · exact e
/-- frustum/frustumref35.Mask -/
theorem c45 (t : Tri) (x y n : Int) : Fn Try.prog 45 [A t, I x, I y, I n] (.one (I (maskF t x y n))) := by
  refine fnI Try.func45 Try.ntmps45 fun hb => ?_
  have hp8 := pos_len n
  refine sg ?_
  refine bx _ ?_
  refine as_ ?_
  refine rNil ?_
  refine sg ?_
  refine as_ ?_
  refine rNil ?_
  refine sg ?_
  refine as_ ?_
  refine rNil ?_
  refine sq ?_
  refine sg ?_
  refine as_ ?_
  refine rNil ?_
  refine bk ?_
  refine lp (fun m S => ∃ (k : Nat) (b : Int), m = (pos n).length - k ∧ k ≤ (pos n).length ∧ b = 2 ^ k ∧ S = ⟨[(11, .r (I k)), (10, .r (I b)), (9, .r (I (maskN t x y n k))), (4, .box 0 0), (1, .r (I x)), (2, .r (I y)), (3, .r (I n))], [.box 27 (triC t)]⟩) (pos n).length ?_ ?_
  · exact wx 1 ⟨0, 1, rfl, by omega, rfl, rfl⟩
  rintro m S ⟨k, b, hm, hk, hb2, rfl⟩
  have hmb := maskN_bd t x y n k
  have hbb := pow8 (k := k) (by omega)
  rw [← hb2] at hmb hbb
  have hpw : b * 2 = 2 ^ (k + 1) := by rw [hb2, Int.pow_succ]
  refine sq ?_
  refine sg ?_
  refine mv ?_
  refine mv ?_
  refine cl (c49 _) ?_
  first | refine lnM ?_ | refine ln ?_ | refine lnO ?_ | refine lnN ?_ | refine lnW ?_
  refine bo ?_
  refine rNil ?_
  refine cn (fun h1 => ?_) (fun h1 => ?_)
  ·
    have hk1 : k < (pos n).length := by simpa using h1
    have hsp := sp_bd x y n k
    refine awp_skip ?_
    refine tn ?_
    refine sq ?_
    refine bk ?_
    refine sg ?_
    refine mv ?_
    refine mv ?_
    refine mv ?_
    refine mv ?_
    refine cl (c24 _ _ _ _) ?_
    refine mv ?_
    refine ex ?_
    refine ex ?_
    refine as_ ?_
    refine as_ ?_
    refine rNil ?_
    refine sq ?_
    refine sg ?_
    refine mv ?_
    refine bo ?_
    refine mv ?_
    refine gd (fun h2 => ?_) (fun h2 => ?_)
    ·
      first | refine lAf ?_ | refine lAb ?_ | refine lAo ?_
      refine mv ?_
      refine mv ?_
      refine cl (c68 t _ _ (sp_pos h2).1 (sp_pos h2).2) ?_
      refine pkT ?_
      refine rNil ?_
      refine cn (fun h3 => ?_) (fun h3 => ?_)
      ·
        refine rg ?_
        refine mv ?_
        refine mv ?_
        refine bo ?_
        refine as_ ?_
        refine rNil ?_
        refine tn ?_
        refine rg ?_
        refine mv ?_
        refine bo ?_
        refine as_ ?_
        refine rNil ?_
        refine bn_ ?_
        refine tn ?_
        refine rg ?_
        refine mv ?_
        refine bo ?_
        refine as_ ?_
        refine rNil ?_
        refine tn ?_
        have hb1 : bitF t x y n k = true := by simp only [bitF, h2, h3, Bool.and_self]
        exact ⟨(pos n).length - (k + 1), by omega, wx 1 ⟨k + 1, b * 2, rfl, by omega, hpw, by rw [maskN, if_pos hb1, ← hb2]; rfl⟩⟩ -- LEAF 1: round of loop 1
      ·
        refine awp_skip ?_
        refine tn ?_
        refine rg ?_
        refine mv ?_
        refine bo ?_
        refine as_ ?_
        refine rNil ?_
        refine bn_ ?_
        refine tn ?_
        refine rg ?_
        refine mv ?_
        refine bo ?_
        refine as_ ?_
        refine rNil ?_
        refine tn ?_
        have hb1 : bitF t x y n k = false := by simp only [bitF, h2, h3, Bool.and_false]
        exact ⟨(pos n).length - (k + 1), by omega, wx 1 ⟨k + 1, b * 2, rfl, by omega, hpw, by rw [maskN, if_neg (by rw [hb1]; decide), Int.add_zero]; rfl⟩⟩ -- LEAF 2: round of loop 1
    ·
      refine no ?_
      refine no ?_
      refine no ?_
      refine no ?_
      refine pkF ?_
      refine rNil ?_
      refine cn (fun h4 => ?_) (fun h4 => ?_)
      ·
        exact absurd h4 (by decide)
      ·
        refine awp_skip ?_
        refine tn ?_
        refine rg ?_
        refine mv ?_
        refine bo ?_
        refine as_ ?_
        refine rNil ?_
        refine bn_ ?_
        refine tn ?_
        refine rg ?_
        refine mv ?_
        refine bo ?_
        refine as_ ?_
        refine rNil ?_
        refine tn ?_
        have hb1 : bitF t x y n k = false := by simp only [bitF, h2, Bool.false_and]
        exact ⟨(pos n).length - (k + 1), by omega, wx 1 ⟨k + 1, b * 2, rfl, by omega, hpw, by rw [maskN, if_neg (by rw [hb1]; decide), Int.add_zero]; rfl⟩⟩ -- LEAF 3: round of loop 1
  ·
    refine awp_exit ?_
    refine te ?_
    refine te ?_
    refine xbk ?_
    refine tn ?_
    refine sg ?_
    refine mv ?_
    refine as_ ?_
    refine rNil ?_
    refine awp_ret ?_
    have hkk : k = (pos n).length := by simp at h1; omega
    subst hkk
    exact ⟨.inr rfl, _, (.cons (by first | exact .v (by ((repeat apply Look.there rfl); exact Look.here)) (.f (.v _)) | exact .v (by ((repeat apply Look.there rfl); exact Look.here)) (.row rfl rfl) | exact .v (by ((repeat apply Look.there rfl); exact Look.here)) (.f .nil) | exact .a (by ((repeat apply Look.there rfl); exact Look.here)) | skip) .nil), rfl⟩ -- LEAF 4: ret

end Go.Proofs.Ytlaaigljlhkdpaa.VS
