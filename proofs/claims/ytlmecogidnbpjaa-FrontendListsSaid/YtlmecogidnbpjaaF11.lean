/- The walks of functions: what each computes, by itself. Conditions: none. -/
import Derived.Test.YtlmecogidnbpjaaF10
set_option linter.unusedVariables false
set_option linter.unusedSimpArgs false
namespace Go.Proofs.Ytlmecogidnbpjaa.VS
open Go
def okB (l n a : Int) : Bool := decide (1 ≤ n ∧ n ≤ 4 ∧ 0 ≤ a ∧ a ≤ l - n)
structure Byt where
  n : Nat
instance : Enc Byt := ⟨fun b => [.i .u8 b.n]⟩
/-- frustum/codec.exist -/
theorem c106 (l : List Byt) (a n : Int) : Fn Try.prog 106 [L l, I a, I n] (.one (B (okB l.length n a))) := by
  refine fnI Try.func106 Try.ntmps106 fun hb => ?_
  have hl := bd_L (f := Enc.c) (l := l) hb (by simp)
  refine sg ?_
  refine as_ ?_
  refine rNil ?_
  refine sg ?_
  refine mv ?_
  refine bo (hz := by exact rfl) ?_
  refine mv ?_
  refine gd (fun h1 => ?_) (fun h1 => ?_)
  ·
    refine mv ?_
    refine bo (hz := by exact rfl) ?_
    refine pkT ?_
    refine mv ?_
    refine gd (fun h2 => ?_) (fun h2 => ?_)
    ·
      refine mv ?_
      refine bo (hz := by exact rfl) ?_
      refine pkT ?_
      refine mv ?_
      refine gd (fun h3 => ?_) (fun h3 => ?_)
      ·
        have g1 : 1 ≤ n := by simpa using h1
        have g2 : n ≤ 4 := by simpa using h2
        refine mv ?_
        refine mv ?_
        first | refine lnM ?_ | refine ln ?_ | refine lnO ?_ | refine lnN ?_ | refine lnW ?_
        refine mv ?_
        refine bo (hz := by first | exact bop_sub (by omega) (by omega) | exact rfl) ?_
        refine bo (hz := by exact rfl) ?_
        refine pkT ?_
        refine as_ ?_
        refine rNil ?_
        refine awp_ret ?_
        exact ⟨.inr rfl, _, (.cons (by first | exact .v (by ((repeat apply Look.there rfl); exact Look.here)) (.f (.v _)) | exact .v (by ((repeat apply Look.there rfl); exact Look.here)) (.row rfl rfl) | exact .v (by ((repeat apply Look.there rfl); exact Look.here)) (.f .nil) | exact .a (by ((repeat apply Look.there rfl); exact Look.here)) | skip) .nil), oneB (by simp only [decide_eq_true_eq, decide_eq_false_iff_not] at *; unfold okB; first | (apply decide_eq_decide.2; omega) | exact (decide_eq_false (by omega)).symm | exact (decide_eq_true (by omega)).symm)⟩ -- LEAF 1: ret
      ·
        refine no ?_
        refine no ?_
        refine no ?_
        refine no ?_
        refine no ?_
        refine no ?_
        refine pkF ?_
        refine as_ ?_
        refine rNil ?_
        refine awp_ret ?_
        exact ⟨.inr rfl, _, (.cons (by first | exact .v (by ((repeat apply Look.there rfl); exact Look.here)) (.f (.v _)) | exact .v (by ((repeat apply Look.there rfl); exact Look.here)) (.row rfl rfl) | exact .v (by ((repeat apply Look.there rfl); exact Look.here)) (.f .nil) | exact .a (by ((repeat apply Look.there rfl); exact Look.here)) | skip) .nil), oneB (by simp only [decide_eq_true_eq, decide_eq_false_iff_not] at *; unfold okB; first | (apply decide_eq_decide.2; omega) | exact (decide_eq_false (by omega)).symm | exact (decide_eq_true (by omega)).symm)⟩ -- LEAF 2: ret
    ·
      refine no ?_
      refine no ?_
      refine pkF ?_
      refine mv ?_
      refine no ?_
      refine no ?_
      refine no ?_
      refine no ?_
      refine no ?_
      refine no ?_
      refine pkF ?_
      refine as_ ?_
      refine rNil ?_
      refine awp_ret ?_
      exact ⟨.inr rfl, _, (.cons (by first | exact .v (by ((repeat apply Look.there rfl); exact Look.here)) (.f (.v _)) | exact .v (by ((repeat apply Look.there rfl); exact Look.here)) (.row rfl rfl) | exact .v (by ((repeat apply Look.there rfl); exact Look.here)) (.f .nil) | exact .a (by ((repeat apply Look.there rfl); exact Look.here)) | skip) .nil), oneB (by simp only [decide_eq_true_eq, decide_eq_false_iff_not] at *; unfold okB; first | (apply decide_eq_decide.2; omega) | exact (decide_eq_false (by omega)).symm | exact (decide_eq_true (by omega)).symm)⟩ -- LEAF 3: ret
  ·
    refine no ?_
    refine no ?_
    refine pkF ?_
    refine mv ?_
    refine no ?_
    refine no ?_
    refine pkF ?_
    refine mv ?_
    refine no ?_
    refine no ?_
    refine no ?_
    refine no ?_
    refine no ?_
    refine no ?_
    refine pkF ?_
    refine as_ ?_
    refine rNil ?_
    refine awp_ret ?_
    exact ⟨.inr rfl, _, (.cons (by first | exact .v (by ((repeat apply Look.there rfl); exact Look.here)) (.f (.v _)) | exact .v (by ((repeat apply Look.there rfl); exact Look.here)) (.row rfl rfl) | exact .v (by ((repeat apply Look.there rfl); exact Look.here)) (.f .nil) | exact .a (by ((repeat apply Look.there rfl); exact Look.here)) | skip) .nil), oneB (by simp only [decide_eq_true_eq, decide_eq_false_iff_not] at *; unfold okB; first | (apply decide_eq_decide.2; omega) | exact (decide_eq_false (by omega)).symm | exact (decide_eq_true (by omega)).symm)⟩ -- LEAF 4: ret

/-- frustum/frustumref05.inside -/
theorem c107 (l : List Byt) (a n : Int) : Fn Try.prog 107 [L l, I a, I n] (.one (B (okB l.length n a))) := by
  refine fnI Try.func107 Try.ntmps107 fun hb => ?_
  have hl := bd_L (f := Enc.c) (l := l) hb (by simp)
  refine sg ?_
  refine as_ ?_
  refine rNil ?_
  refine sg ?_
  refine mv ?_
  refine bo (hz := by exact rfl) ?_
  refine mv ?_
  refine gd (fun h1 => ?_) (fun h1 => ?_)
  ·
    refine mv ?_
    refine bo (hz := by exact rfl) ?_
    refine pkT ?_
    refine mv ?_
    refine gd (fun h2 => ?_) (fun h2 => ?_)
    ·
      refine mv ?_
      refine bo (hz := by exact rfl) ?_
      refine pkT ?_
      refine mv ?_
      refine gd (fun h3 => ?_) (fun h3 => ?_)
      ·
        have g1 : 1 ≤ n := by simpa using h1
        have g2 : n ≤ 4 := by simpa using h2
        refine mv ?_
        refine mv ?_
        first | refine lnM ?_ | refine ln ?_ | refine lnO ?_ | refine lnN ?_ | refine lnW ?_
        refine mv ?_
        refine bo (hz := by first | exact bop_sub (by omega) (by omega) | exact rfl) ?_
        refine bo (hz := by exact rfl) ?_
        refine pkT ?_
        refine as_ ?_
        refine rNil ?_
        refine awp_ret ?_
        exact ⟨.inr rfl, _, (.cons (by first | exact .v (by ((repeat apply Look.there rfl); exact Look.here)) (.f (.v _)) | exact .v (by ((repeat apply Look.there rfl); exact Look.here)) (.row rfl rfl) | exact .v (by ((repeat apply Look.there rfl); exact Look.here)) (.f .nil) | exact .a (by ((repeat apply Look.there rfl); exact Look.here)) | skip) .nil), oneB (by simp only [decide_eq_true_eq, decide_eq_false_iff_not] at *; unfold okB; first | (apply decide_eq_decide.2; omega) | exact (decide_eq_false (by omega)).symm | exact (decide_eq_true (by omega)).symm)⟩ -- LEAF 1: ret
      ·
        refine no ?_
        refine no ?_
        refine no ?_
        refine no ?_
        refine no ?_
        refine no ?_
        refine pkF ?_
        refine as_ ?_
        refine rNil ?_
        refine awp_ret ?_
        exact ⟨.inr rfl, _, (.cons (by first | exact .v (by ((repeat apply Look.there rfl); exact Look.here)) (.f (.v _)) | exact .v (by ((repeat apply Look.there rfl); exact Look.here)) (.row rfl rfl) | exact .v (by ((repeat apply Look.there rfl); exact Look.here)) (.f .nil) | exact .a (by ((repeat apply Look.there rfl); exact Look.here)) | skip) .nil), oneB (by simp only [decide_eq_true_eq, decide_eq_false_iff_not] at *; unfold okB; first | (apply decide_eq_decide.2; omega) | exact (decide_eq_false (by omega)).symm | exact (decide_eq_true (by omega)).symm)⟩ -- LEAF 2: ret
    ·
      refine no ?_
      refine no ?_
      refine pkF ?_
      refine mv ?_
      refine no ?_
      refine no ?_
      refine no ?_
      refine no ?_
      refine no ?_
      refine no ?_
      refine pkF ?_
      refine as_ ?_
      refine rNil ?_
      refine awp_ret ?_
      exact ⟨.inr rfl, _, (.cons (by first | exact .v (by ((repeat apply Look.there rfl); exact Look.here)) (.f (.v _)) | exact .v (by ((repeat apply Look.there rfl); exact Look.here)) (.row rfl rfl) | exact .v (by ((repeat apply Look.there rfl); exact Look.here)) (.f .nil) | exact .a (by ((repeat apply Look.there rfl); exact Look.here)) | skip) .nil), oneB (by simp only [decide_eq_true_eq, decide_eq_false_iff_not] at *; unfold okB; first | (apply decide_eq_decide.2; omega) | exact (decide_eq_false (by omega)).symm | exact (decide_eq_true (by omega)).symm)⟩ -- LEAF 3: ret
  ·
    refine no ?_
    refine no ?_
    refine pkF ?_
    refine mv ?_
    refine no ?_
    refine no ?_
    refine pkF ?_
    refine mv ?_
    refine no ?_
    refine no ?_
    refine no ?_
    refine no ?_
    refine no ?_
    refine no ?_
    refine pkF ?_
    refine as_ ?_
    refine rNil ?_
    refine awp_ret ?_
    exact ⟨.inr rfl, _, (.cons (by first | exact .v (by ((repeat apply Look.there rfl); exact Look.here)) (.f (.v _)) | exact .v (by ((repeat apply Look.there rfl); exact Look.here)) (.row rfl rfl) | exact .v (by ((repeat apply Look.there rfl); exact Look.here)) (.f .nil) | exact .a (by ((repeat apply Look.there rfl); exact Look.here)) | skip) .nil), oneB (by simp only [decide_eq_true_eq, decide_eq_false_iff_not] at *; unfold okB; first | (apply decide_eq_decide.2; omega) | exact (decide_eq_false (by omega)).symm | exact (decide_eq_true (by omega)).symm)⟩ -- LEAF 4: ret

def byt (l : List Byt) (i : Int) : Int := ((l.getD i.toNat ⟨0⟩).n : Nat)
def accB (l : List Byt) (a n : Int) : Nat → Int
  | 0 => 0
  | k + 1 => accB l a n k * 256 + byt l (a + (n - 1 - k))
def FineB (l : List Byt) : Prop := ∀ b ∈ l, b.n < 256
theorem byt_bd {l : List Byt} (h : FineB l) (i : Int) : 0 ≤ byt l i ∧ byt l i < 256 := by
  unfold byt
  rw [List.getD_eq_getElem?_getD]
  cases hx : l[i.toNat]? with
  | none => decide
  | some b => have := h b (List.mem_of_getElem? hx); simp; omega
theorem accB_bd {l : List Byt} (h : FineB l) (a n : Int) : ∀ k, 0 ≤ accB l a n k ∧ accB l a n k < 256 ^ k
  | 0 => by simp [accB]
  | k + 1 => by
    have ih := accB_bd h a n k
    have hb := byt_bd h (a + (n - 1 - k))
    have e : (256 : Int) ^ (k + 1) = 256 ^ k * 256 := Int.pow_succ _ _
    rw [accB]; omega
theorem pow256 {k : Nat} (h : k ≤ 4) : (256 : Int) ^ k ≤ 4294967296 := by
  rcases (show k = 0 ∨ k = 1 ∨ k = 2 ∨ k = 3 ∨ k = 4 by omega) with h | h | h | h | h <;> subst h <;> decide
theorem byt_at {l : List Byt} {i : Int} {b : Byt} (h : l[i.toNat]? = some b) : byt l i = (b.n : Nat) := by
  unfold byt; rw [List.getD_eq_getElem?_getD, h]; rfl
def litF (l : List Byt) (a n : Int) : Int := if okB l.length n a = true then accB l a n n.toNat else 0
theorem litF_bd {l : List Byt} (h : FineB l) (a n : Int) : 0 ≤ litF l a n ∧ litF l a n < 4294967296 := by
  unfold litF okB
  split
  · rename_i hh
    have hh := of_decide_eq_true hh
    have h1 := accB_bd h a n n.toNat
    have h2 := pow256 (k := n.toNat) (by omega)
    omega
  · decide
theorem shl8 {v : Int} (h : 0 ≤ v ∧ v < 4294967296) (kk : IntKind) : shop .shl .i64 v 8 = some (.i .i64 (v * 256)) := by
  have h1 : min (8 : Int).toNat IntKind.i64.bits = 8 := rfl
  simp only [shop]
  rw [if_neg (by decide), h1, show (2 : Int) ^ 8 = 256 by decide, wrap64_in (by omega) (by omega)]
theorem bop_or8 {v b : Int} (h : 0 ≤ v ∧ v < 4294967296) (hb : 0 ≤ b ∧ b < 256) : bop .or .i64 (v * 256) b = some (.i .i64 (v * 256 + b)) := by
  obtain ⟨x, rfl⟩ : ∃ x : Nat, v = x := ⟨v.toNat, by omega⟩
  obtain ⟨y, rfl⟩ : ∃ y : Nat, b = y := ⟨b.toNat, by omega⟩
  have h1 : (BitVec.ofInt 64 ((x : Int) * 256) ||| BitVec.ofInt 64 (y : Int)).toNat = x * 256 + y := by
    rw [BitVec.toNat_or, BitVec.toNat_ofInt, BitVec.toNat_ofInt]
    have e1 : (((x : Int) * 256) % ((2 ^ 64 : Nat) : Int)).toNat = 2 ^ 8 * x := by omega
    have e2 : ((y : Int) % ((2 ^ 64 : Nat) : Int)).toNat = y := by omega
    rw [e1, e2]
    have := Nat.two_pow_add_eq_or_of_lt (show y < 2 ^ 8 by omega) x
    rw [← this]; omega
  show some (FV.i .i64 (IntKind.i64.wrap ((BitVec.ofInt 64 ((x : Int) * 256) ||| BitVec.ofInt 64 (y : Int)).toNat : Nat))) = _
  rw [h1, wrap64_in (by omega) (by omega)]
  congr 2
/-- frustum/codec.Little -/
theorem c81 (l : List Byt) (a n : Int) (hf : FineB l) : Fn Try.prog 81 [L l, I a, I n] (.one (I (litF l a n))) := by
  refine fnI Try.func81 Try.ntmps81 fun hb => ?_
  have hl := bd_L (f := Enc.c) (l := l) hb (by simp)
  refine sg ?_
  refine as_ ?_
  refine rNil ?_
  refine sg ?_
  refine as_ ?_
  refine rNil ?_
  refine sq ?_
  refine sg ?_
  refine mv ?_
  refine mv ?_
  refine mv ?_
  refine cl (c106 l a n) ?_
  refine rNil ?_
  refine cn (fun h1 => ?_) (fun h1 => ?_)
  ·
    have hok : 1 ≤ n ∧ n ≤ 4 ∧ 0 ≤ a ∧ a ≤ l.length - n := of_decide_eq_true h1
    refine sg ?_
    refine mv ?_
    refine bo (hz := by first | exact bop_sub (by omega) (by omega) | exact rfl) ?_
    refine as_ ?_
    refine rNil ?_
    refine bk ?_
    refine lp (fun m S => ∃ (k : Nat) (i : Int), m = n.toNat - k ∧ (k : Int) ≤ n ∧ i = n - 1 - k ∧ S = ⟨[(8, .r (I i)), (7, .r (I (accB l a n k))), (0, .r (L l)), (1, .r (I a)), (2, .r (I n))], []⟩) n.toNat ?_ ?_
    · exact wx 0 ⟨0, n - 1, by omega, by omega, by omega, rfl⟩
    rintro m S ⟨k, i, hm, hk, hi, rfl⟩
    have hab := accB_bd hf a n k
    have hp := pow256 (k := k) (by omega)
    refine sq ?_
    refine sg ?_
    refine mv ?_
    refine bo (hz := by exact rfl) ?_
    refine rNil ?_
    refine cn (fun h2 => ?_) (fun h2 => ?_)
    ·
      have hi0 : 0 ≤ i := by simpa using h2
      obtain ⟨b, hbb⟩ := ex_get (a := l) (k := (a + i).toNat) (by omega)
      have hbn := hf b (List.mem_of_getElem? hbb)
      have hbv := byt_at hbb
      rw [hi] at hbv
      have hby := byt_bd hf (a + (n - 1 - k))
      rw [hbv] at hby
      refine awp_skip ?_
      refine tn ?_
      refine sq ?_
      refine bk ?_
      refine rg ?_
      refine mv ?_
      refine sh (hz := shl8 (by omega) .u64) ?_
      refine mv ?_
      refine mv ?_
      refine mv ?_
      refine bo (hz := by first | exact bop_add (by omega) (by omega) | exact rfl) ?_
      first | refine xs_ ?_ | refine xo ?_ | refine xw ?_
      first | refine l1f ?_ | refine l1b ?_ | refine l1o ?_
      refine cv ?_
      refine bo (hz := bop_or8 (by omega) hby) ?_
      refine as_ ?_
      refine rNil ?_
      refine bn_ ?_
      refine tn ?_
      refine rg ?_
      refine mv ?_
      refine bo (hz := by first | exact bop_sub (by omega) (by omega) | exact rfl) ?_
      refine as_ ?_
      refine rNil ?_
      refine tn ?_
      exact ⟨n.toNat - (k + 1), by omega, wx 0 ⟨k + 1, i - 1, by omega, by omega, by omega, by rw [accB, hbv]; rfl⟩⟩ -- LEAF 1: round of loop 1
    ·
      refine awp_exit ?_
      refine te ?_
      refine te ?_
      refine xbk ?_
      refine tn ?_
      refine sg ?_
      refine mv ?_
      refine as_ ?_
      refine rNil ?_
      refine awp_ret ?_
      have hkn : k = n.toNat := by simp at h2; omega
      subst hkn
      exact ⟨.inr rfl, _, (.cons (by first | exact .v (by ((repeat apply Look.there rfl); exact Look.here)) (.f (.v _)) | exact .v (by ((repeat apply Look.there rfl); exact Look.here)) (.row rfl rfl) | exact .v (by ((repeat apply Look.there rfl); exact Look.here)) (.f .nil) | exact .a (by ((repeat apply Look.there rfl); exact Look.here)) | skip) .nil), oneI (by rw [litF, if_pos h1])⟩ -- LEAF 2: ret
  ·
    refine awp_skip ?_
    refine tn ?_
    refine sg ?_
    refine mv ?_
    refine as_ ?_
    refine rNil ?_
    refine awp_ret ?_
    exact ⟨.inr rfl, _, (.cons (by first | exact .v (by ((repeat apply Look.there rfl); exact Look.here)) (.f (.v _)) | exact .v (by ((repeat apply Look.there rfl); exact Look.here)) (.row rfl rfl) | exact .v (by ((repeat apply Look.there rfl); exact Look.here)) (.f .nil) | exact .a (by ((repeat apply Look.there rfl); exact Look.here)) | skip) .nil), oneI (by rw [litF, if_neg (by rw [h1]; decide)])⟩ -- LEAF 3: ret

/-- frustum/frustumref05.Little -/
theorem c82 (l : List Byt) (a n : Int) (hf : FineB l) : Fn Try.prog 82 [L l, I a, I n] (.one (I (litF l a n))) := by
  refine fnI Try.func82 Try.ntmps82 fun hb => ?_
  have hl := bd_L (f := Enc.c) (l := l) hb (by simp)
  refine sg ?_
  refine as_ ?_
  refine rNil ?_
  refine sq ?_
  refine sg ?_
  refine mv ?_
  refine mv ?_
  refine mv ?_
  refine cl (c107 l a n) ?_
  refine nt ?_
  refine rNil ?_
  refine cn (fun h1 => ?_) (fun h1 => ?_)
  ·
    refine sg ?_
    refine as_ ?_
    refine rNil ?_
    refine awp_ret ?_
    refine tr ?_
    exact ⟨.inr rfl, _, (.cons (by first | exact .v (by ((repeat apply Look.there rfl); exact Look.here)) (.f (.v _)) | exact .v (by ((repeat apply Look.there rfl); exact Look.here)) (.row rfl rfl) | exact .v (by ((repeat apply Look.there rfl); exact Look.here)) (.f .nil) | exact .a (by ((repeat apply Look.there rfl); exact Look.here)) | skip) .nil), oneI (by rw [litF, if_neg (by intro h; rw [h] at h1; cases h1)])⟩ -- LEAF 1: ret
  ·
    have h1' : okB l.length n a = true := by simpa using h1
    have hok : 1 ≤ n ∧ n ≤ 4 ∧ 0 ≤ a ∧ a ≤ l.length - n := of_decide_eq_true h1'
    refine awp_skip ?_
    refine tn ?_
    refine sg ?_
    refine as_ ?_
    refine rNil ?_
    refine sq ?_
    refine sg ?_
    refine mv ?_
    refine bo (hz := by first | exact bop_sub (by omega) (by omega) | exact rfl) ?_
    refine as_ ?_
    refine rNil ?_
    refine bk ?_
    refine lp (fun m S => ∃ (k : Nat) (i : Int), m = n.toNat - k ∧ (k : Int) ≤ n ∧ i = n - 1 - k ∧ S = ⟨[(8, .r (I i)), (7, .r (I (accB l a n k))), (0, .r (L l)), (1, .r (I a)), (2, .r (I n))], []⟩) n.toNat ?_ ?_
    · exact wx 0 ⟨0, n - 1, by omega, by omega, by omega, rfl⟩
    rintro m S ⟨k, i, hm, hk, hi, rfl⟩
    have hab := accB_bd hf a n k
    have hp := pow256 (k := k) (by omega)
    refine sq ?_
    refine sg ?_
    refine mv ?_
    refine bo (hz := by exact rfl) ?_
    refine rNil ?_
    refine cn (fun h2 => ?_) (fun h2 => ?_)
    ·
      have hi0 : 0 ≤ i := by simpa using h2
      obtain ⟨b, hbb⟩ := ex_get (a := l) (k := (a + i).toNat) (by omega)
      have hbn := hf b (List.mem_of_getElem? hbb)
      have hbv := byt_at hbb
      rw [hi] at hbv
      refine awp_skip ?_
      refine tn ?_
      refine sq ?_
      refine bk ?_
      refine rg ?_
      refine mv ?_
      refine bo (hz := by first | exact bop_mul (by omega) (by omega) | exact rfl) ?_
      refine mv ?_
      refine mv ?_
      refine mv ?_
      refine bo (hz := by first | exact bop_add (by omega) (by omega) | exact rfl) ?_
      first | refine xs_ ?_ | refine xo ?_ | refine xw ?_
      first | refine l1f ?_ | refine l1b ?_ | refine l1o ?_
      refine cv ?_
      refine bo (hz := by first | exact bop_add (by omega) (by omega) | exact rfl) ?_
      refine as_ ?_
      refine rNil ?_
      refine bn_ ?_
      refine tn ?_
      refine rg ?_
      refine mv ?_
      refine bo (hz := by first | exact bop_sub (by omega) (by omega) | exact rfl) ?_
      refine as_ ?_
      refine rNil ?_
      refine tn ?_
      exact ⟨n.toNat - (k + 1), by omega, wx 0 ⟨k + 1, i - 1, by omega, by omega, by omega, by rw [accB, hbv]; rfl⟩⟩ -- LEAF 2: round of loop 1
    ·
      refine awp_exit ?_
      refine te ?_
      refine te ?_
      refine xbk ?_
      refine tn ?_
      refine sg ?_
      refine mv ?_
      refine as_ ?_
      refine rNil ?_
      refine awp_ret ?_
      have hkn : k = n.toNat := by simp at h2; omega
      subst hkn
      exact ⟨.inr rfl, _, (.cons (by first | exact .v (by ((repeat apply Look.there rfl); exact Look.here)) (.f (.v _)) | exact .v (by ((repeat apply Look.there rfl); exact Look.here)) (.row rfl rfl) | exact .v (by ((repeat apply Look.there rfl); exact Look.here)) (.f .nil) | exact .a (by ((repeat apply Look.there rfl); exact Look.here)) | skip) .nil), oneI (by rw [litF, if_pos h1'])⟩ -- LEAF 3: ret

def szF (t : Int) : Int := if t = 1 then 0 else if t = 2 then 1 else if t = 3 then 2 else if t = 4 then 4 else -1
theorem szF_c (t : Int) : szF t = 0 ∨ szF t = 1 ∨ szF t = 2 ∨ szF t = 4 ∨ szF t = -1 := by unfold szF; repeat (first | omega | split)
/-- frustum/fetch.IndexSize -/
theorem c55 (t : Int) : Fn Try.prog 55 [I t] (.one (I (szF t))) := by
  refine fnI Try.func55 Try.ntmps55 fun hb => ?_
  refine sg ?_
  refine as_ ?_
  refine rNil ?_
  refine sq ?_
  refine sg ?_
  refine mv ?_
  refine rNil ?_
  refine bk ?_
  refine sg ?_
  refine bo (hz := by exact rfl) ?_
  refine as_ ?_
  refine rNil ?_
  refine cn (fun h1 => ?_) (fun h1 => ?_)
  ·
    refine sg ?_
    refine as_ ?_
    refine rNil ?_
    refine awp_ret ?_
    refine br ?_
    refine tr ?_
    exact ⟨.inr rfl, _, (.cons (by first | exact .v (by ((repeat apply Look.there rfl); exact Look.here)) (.f (.v _)) | exact .v (by ((repeat apply Look.there rfl); exact Look.here)) (.row rfl rfl) | exact .v (by ((repeat apply Look.there rfl); exact Look.here)) (.f .nil) | exact .a (by ((repeat apply Look.there rfl); exact Look.here)) | skip) .nil), oneI (by simp only [beq_iff_eq, beq_eq_false_iff_ne, ne_eq] at *; unfold szF; repeat (first | rfl | omega | split))⟩ -- LEAF 1: ret
  ·
    refine sg ?_
    refine bo (hz := by exact rfl) ?_
    refine as_ ?_
    refine rNil ?_
    refine cn (fun h2 => ?_) (fun h2 => ?_)
    ·
      refine sg ?_
      refine as_ ?_
      refine rNil ?_
      refine awp_ret ?_
      refine br ?_
      refine tr ?_
      exact ⟨.inr rfl, _, (.cons (by first | exact .v (by ((repeat apply Look.there rfl); exact Look.here)) (.f (.v _)) | exact .v (by ((repeat apply Look.there rfl); exact Look.here)) (.row rfl rfl) | exact .v (by ((repeat apply Look.there rfl); exact Look.here)) (.f .nil) | exact .a (by ((repeat apply Look.there rfl); exact Look.here)) | skip) .nil), oneI (by simp only [beq_iff_eq, beq_eq_false_iff_ne, ne_eq] at *; unfold szF; repeat (first | rfl | omega | split))⟩ -- LEAF 2: ret
    ·
      refine sg ?_
      refine bo (hz := by exact rfl) ?_
      refine as_ ?_
      refine rNil ?_
      refine cn (fun h3 => ?_) (fun h3 => ?_)
      ·
        refine sg ?_
        refine as_ ?_
        refine rNil ?_
        refine awp_ret ?_
        refine br ?_
        refine tr ?_
        exact ⟨.inr rfl, _, (.cons (by first | exact .v (by ((repeat apply Look.there rfl); exact Look.here)) (.f (.v _)) | exact .v (by ((repeat apply Look.there rfl); exact Look.here)) (.row rfl rfl) | exact .v (by ((repeat apply Look.there rfl); exact Look.here)) (.f .nil) | exact .a (by ((repeat apply Look.there rfl); exact Look.here)) | skip) .nil), oneI (by simp only [beq_iff_eq, beq_eq_false_iff_ne, ne_eq] at *; unfold szF; repeat (first | rfl | omega | split))⟩ -- LEAF 3: ret
      ·
        refine sg ?_
        refine bo (hz := by exact rfl) ?_
        refine as_ ?_
        refine rNil ?_
        refine cn (fun h4 => ?_) (fun h4 => ?_)
        ·
          refine sg ?_
          refine as_ ?_
          refine rNil ?_
          refine awp_ret ?_
          refine br ?_
          refine tr ?_
          exact ⟨.inr rfl, _, (.cons (by first | exact .v (by ((repeat apply Look.there rfl); exact Look.here)) (.f (.v _)) | exact .v (by ((repeat apply Look.there rfl); exact Look.here)) (.row rfl rfl) | exact .v (by ((repeat apply Look.there rfl); exact Look.here)) (.f .nil) | exact .a (by ((repeat apply Look.there rfl); exact Look.here)) | skip) .nil), oneI (by simp only [beq_iff_eq, beq_eq_false_iff_ne, ne_eq] at *; unfold szF; repeat (first | rfl | omega | split))⟩ -- LEAF 4: ret
        ·
          refine awp_skip ?_
          refine bn_ ?_
          refine tn ?_
          refine sg ?_
          refine as_ ?_
          refine rNil ?_
          refine awp_ret ?_
          exact ⟨.inr rfl, _, (.cons (by first | exact .v (by ((repeat apply Look.there rfl); exact Look.here)) (.f (.v _)) | exact .v (by ((repeat apply Look.there rfl); exact Look.here)) (.row rfl rfl) | exact .v (by ((repeat apply Look.there rfl); exact Look.here)) (.f .nil) | exact .a (by ((repeat apply Look.there rfl); exact Look.here)) | skip) .nil), oneI (by simp only [beq_iff_eq, beq_eq_false_iff_ne, ne_eq] at *; unfold szF; repeat (first | rfl | omega | split))⟩ -- LEAF 5: ret

/-- frustum/frustumref15.IndexSize -/
theorem c57 (t : Int) : Fn Try.prog 57 [I t] (.one (I (szF t))) := by
  refine fnI Try.func57 Try.ntmps57 fun hb => ?_
  refine sg ?_
  refine as_ ?_
  refine rNil ?_
  refine sq ?_
  refine sg ?_
  refine mv ?_
  refine rNil ?_
  refine bk ?_
  refine sg ?_
  refine bo (hz := by exact rfl) ?_
  refine as_ ?_
  refine rNil ?_
  refine cn (fun h1 => ?_) (fun h1 => ?_)
  ·
    refine sg ?_
    refine as_ ?_
    refine rNil ?_
    refine awp_ret ?_
    refine br ?_
    refine tr ?_
    exact ⟨.inr rfl, _, (.cons (by first | exact .v (by ((repeat apply Look.there rfl); exact Look.here)) (.f (.v _)) | exact .v (by ((repeat apply Look.there rfl); exact Look.here)) (.row rfl rfl) | exact .v (by ((repeat apply Look.there rfl); exact Look.here)) (.f .nil) | exact .a (by ((repeat apply Look.there rfl); exact Look.here)) | skip) .nil), oneI (by simp only [beq_iff_eq, beq_eq_false_iff_ne, ne_eq] at *; unfold szF; repeat (first | rfl | omega | split))⟩ -- LEAF 1: ret
  ·
    refine sg ?_
    refine bo (hz := by exact rfl) ?_
    refine as_ ?_
    refine rNil ?_
    refine cn (fun h2 => ?_) (fun h2 => ?_)
    ·
      refine sg ?_
      refine as_ ?_
      refine rNil ?_
      refine awp_ret ?_
      refine br ?_
      refine tr ?_
      exact ⟨.inr rfl, _, (.cons (by first | exact .v (by ((repeat apply Look.there rfl); exact Look.here)) (.f (.v _)) | exact .v (by ((repeat apply Look.there rfl); exact Look.here)) (.row rfl rfl) | exact .v (by ((repeat apply Look.there rfl); exact Look.here)) (.f .nil) | exact .a (by ((repeat apply Look.there rfl); exact Look.here)) | skip) .nil), oneI (by simp only [beq_iff_eq, beq_eq_false_iff_ne, ne_eq] at *; unfold szF; repeat (first | rfl | omega | split))⟩ -- LEAF 2: ret
    ·
      refine sg ?_
      refine bo (hz := by exact rfl) ?_
      refine as_ ?_
      refine rNil ?_
      refine cn (fun h3 => ?_) (fun h3 => ?_)
      ·
        refine sg ?_
        refine as_ ?_
        refine rNil ?_
        refine awp_ret ?_
        refine br ?_
        refine tr ?_
        exact ⟨.inr rfl, _, (.cons (by first | exact .v (by ((repeat apply Look.there rfl); exact Look.here)) (.f (.v _)) | exact .v (by ((repeat apply Look.there rfl); exact Look.here)) (.row rfl rfl) | exact .v (by ((repeat apply Look.there rfl); exact Look.here)) (.f .nil) | exact .a (by ((repeat apply Look.there rfl); exact Look.here)) | skip) .nil), oneI (by simp only [beq_iff_eq, beq_eq_false_iff_ne, ne_eq] at *; unfold szF; repeat (first | rfl | omega | split))⟩ -- LEAF 3: ret
      ·
        refine sg ?_
        refine bo (hz := by exact rfl) ?_
        refine as_ ?_
        refine rNil ?_
        refine cn (fun h4 => ?_) (fun h4 => ?_)
        ·
          refine sg ?_
          refine as_ ?_
          refine rNil ?_
          refine awp_ret ?_
          refine br ?_
          refine tr ?_
          exact ⟨.inr rfl, _, (.cons (by first | exact .v (by ((repeat apply Look.there rfl); exact Look.here)) (.f (.v _)) | exact .v (by ((repeat apply Look.there rfl); exact Look.here)) (.row rfl rfl) | exact .v (by ((repeat apply Look.there rfl); exact Look.here)) (.f .nil) | exact .a (by ((repeat apply Look.there rfl); exact Look.here)) | skip) .nil), oneI (by simp only [beq_iff_eq, beq_eq_false_iff_ne, ne_eq] at *; unfold szF; repeat (first | rfl | omega | split))⟩ -- LEAF 4: ret
        ·
          refine awp_skip ?_
          refine bn_ ?_
          refine tn ?_
          refine sg ?_
          refine as_ ?_
          refine rNil ?_
          refine awp_ret ?_
          exact ⟨.inr rfl, _, (.cons (by first | exact .v (by ((repeat apply Look.there rfl); exact Look.here)) (.f (.v _)) | exact .v (by ((repeat apply Look.there rfl); exact Look.here)) (.row rfl rfl) | exact .v (by ((repeat apply Look.there rfl); exact Look.here)) (.f .nil) | exact .a (by ((repeat apply Look.there rfl); exact Look.here)) | skip) .nil), oneI (by simp only [beq_iff_eq, beq_eq_false_iff_ne, ne_eq] at *; unfold szF; repeat (first | rfl | omega | split))⟩ -- LEAF 5: ret

def idxF (l : List Byt) (t i : Int) : Int := if i < 0 ∨ szF t < 0 then 0 else if szF t = 0 then i else if i ≥ l.length / szF t then 0 else if litF l (i * szF t) (szF t) = 2 ^ (8 * szF t).toNat - 1 then -1 else litF l (i * szF t) (szF t)
theorem shl1i {x : Int} (h0 : 0 ≤ x) (h8 : x ≤ 32) : shop .shl .i64 1 x = some (.i .i64 (2 ^ x.toNat)) := by
  have h1 : min x.toNat IntKind.i64.bits = x.toNat := by show min x.toNat 64 = x.toNat; omega
  have h2 : (2 : Int) ^ x.toNat ≤ 2 ^ 32 := by
    have : (2 : Nat) ^ x.toNat ≤ 2 ^ 32 := Nat.pow_le_pow_right (by decide) (by omega)
    have e : ((2 ^ x.toNat : Nat) : Int) = (2 : Int) ^ x.toNat := by simp
    omega
  have h3 : (0 : Int) < 2 ^ x.toNat := Int.pow_pos (by decide)
  simp only [shop]
  rw [if_neg (by omega), h1, Int.one_mul, wrap64_in (by omega) (by omega)]
theorem p2_bd {x : Int} (h0 : 0 ≤ x) (h8 : x ≤ 32) : 0 < (2 : Int) ^ x.toNat ∧ (2 : Int) ^ x.toNat ≤ 4294967296 := by
  have : (2 : Nat) ^ x.toNat ≤ 2 ^ 32 := Nat.pow_le_pow_right (by decide) (by omega)
  have e : ((2 ^ x.toNat : Nat) : Int) = (2 : Int) ^ x.toNat := by simp
  exact ⟨Int.pow_pos (by decide), by omega⟩
theorem isz_bd {i s : Int} (hi : 0 ≤ i ∧ i ≤ 100000) (hs : 0 ≤ s ∧ s ≤ 4) : 0 ≤ i * s ∧ i * s ≤ 400000 :=
  ⟨Int.mul_nonneg hi.1 hs.1, Int.mul_le_mul hi.2 hs.2 hs.1 (by decide)⟩
/-- frustum/fetch.Index -/
theorem c56 (l : List Byt) (t i : Int) (hf : FineB l) (hi : 0 ≤ i ∧ i ≤ 100000) : Fn Try.prog 56 [L l, I t, I i] (.one (I (idxF l t i))) := by
  refine fnI Try.func56 Try.ntmps56 fun hb => ?_
  have hl := bd_L (f := Enc.c) (l := l) hb (by simp)
  have hsz := szF_c t
  refine sg ?_
  refine as_ ?_
  refine rNil ?_
  refine sg ?_
  refine mv ?_
  refine cl (c55 _) ?_
  refine as_ ?_
  refine rNil ?_
  refine sq ?_
  refine sg ?_
  refine mv ?_
  refine bo (hz := by exact rfl) ?_
  refine mv ?_
  refine gd (fun h1 => ?_) (fun h1 => ?_)
  ·
    simp at h1; omega -- END
  ·
    refine mv ?_
    refine bo (hz := by exact rfl) ?_
    refine pkF ?_
    refine rNil ?_
    refine cn (fun h2 => ?_) (fun h2 => ?_)
    ·
      have q : szF t < 0 := by simpa using h2
      refine sg ?_
      refine as_ ?_
      refine rNil ?_
      refine awp_ret ?_
      refine tr ?_
      exact ⟨.inr rfl, _, (.cons (by first | exact .v (by ((repeat apply Look.there rfl); exact Look.here)) (.f (.v _)) | exact .v (by ((repeat apply Look.there rfl); exact Look.here)) (.row rfl rfl) | exact .v (by ((repeat apply Look.there rfl); exact Look.here)) (.f .nil) | exact .a (by ((repeat apply Look.there rfl); exact Look.here)) | skip) .nil), oneI (by rw [idxF, if_pos (.inr q)])⟩ -- LEAF 1: ret
    ·
      have q : ¬ (i < 0 ∨ szF t < 0) := by simp at h2; omega
      refine awp_skip ?_
      refine tn ?_
      refine sq ?_
      refine sg ?_
      refine mv ?_
      refine bo (hz := by exact rfl) ?_
      refine rNil ?_
      refine cn (fun h3 => ?_) (fun h3 => ?_)
      ·
        refine sg ?_
        refine mv ?_
        refine as_ ?_
        refine rNil ?_
        refine awp_ret ?_
        refine tr ?_
        exact ⟨.inr rfl, _, (.cons (by first | exact .v (by ((repeat apply Look.there rfl); exact Look.here)) (.f (.v _)) | exact .v (by ((repeat apply Look.there rfl); exact Look.here)) (.row rfl rfl) | exact .v (by ((repeat apply Look.there rfl); exact Look.here)) (.f .nil) | exact .a (by ((repeat apply Look.there rfl); exact Look.here)) | skip) .nil), oneI (by rw [idxF, if_neg q, if_pos (by simpa using h3)])⟩ -- LEAF 2: ret
      ·
        have q2 : ¬ szF t = 0 := by simpa using h3
        have q3 : 0 < szF t := by omega
        have hm := isz_bd hi (show 0 ≤ szF t ∧ szF t ≤ 4 by omega)
        have hp := p2_bd (x := 8 * szF t) (by omega) (by omega)
        refine awp_skip ?_
        refine tn ?_
        refine sq ?_
        refine sg ?_
        refine mv ?_
        refine mv ?_
        first | refine lnM ?_ | refine ln ?_ | refine lnO ?_ | refine lnN ?_ | refine lnW ?_
        refine mv ?_
        refine bo (hz := by first | exact bop_quo (by omega) (by omega) (by omega) | exact rfl) ?_
        refine bo (hz := by exact rfl) ?_
        refine rNil ?_
        refine cn (fun h4 => ?_) (fun h4 => ?_)
        ·
          refine sg ?_
          refine as_ ?_
          refine rNil ?_
          refine awp_ret ?_
          refine tr ?_
          exact ⟨.inr rfl, _, (.cons (by first | exact .v (by ((repeat apply Look.there rfl); exact Look.here)) (.f (.v _)) | exact .v (by ((repeat apply Look.there rfl); exact Look.here)) (.row rfl rfl) | exact .v (by ((repeat apply Look.there rfl); exact Look.here)) (.f .nil) | exact .a (by ((repeat apply Look.there rfl); exact Look.here)) | skip) .nil), oneI (by rw [idxF, if_neg q, if_neg q2, if_pos (by simpa using h4)])⟩ -- LEAF 3: ret
        ·
          have q4 : ¬ i ≥ l.length / szF t := by simpa using h4
          refine awp_skip ?_
          refine tn ?_
          refine sg ?_
          refine mv ?_
          refine mv ?_
          refine mv ?_
          refine bo (hz := by first | exact bop_mul (by omega) (by omega) | exact rfl) ?_
          refine mv ?_
          refine cl (c81 l _ _ hf) ?_
          refine as_ ?_
          refine rNil ?_
          refine sq ?_
          refine sg ?_
          refine mv ?_
          refine mv ?_
          refine bo (hz := by first | exact bop_mul (by omega) (by omega) | exact rfl) ?_
          refine sh (hz := shl1i (by omega) (by omega)) ?_
          refine bo (hz := by first | exact bop_sub (by omega) (by omega) | exact rfl) ?_
          refine bo (hz := by exact rfl) ?_
          refine rNil ?_
          refine cn (fun h5 => ?_) (fun h5 => ?_)
          ·
            refine sg ?_
            refine as_ ?_
            refine rNil ?_
            refine awp_ret ?_
            refine tr ?_
            exact ⟨.inr rfl, _, (.cons (by first | exact .v (by ((repeat apply Look.there rfl); exact Look.here)) (.f (.v _)) | exact .v (by ((repeat apply Look.there rfl); exact Look.here)) (.row rfl rfl) | exact .v (by ((repeat apply Look.there rfl); exact Look.here)) (.f .nil) | exact .a (by ((repeat apply Look.there rfl); exact Look.here)) | skip) .nil), oneI (by rw [idxF, if_neg q, if_neg q2, if_neg q4, if_pos (by simpa using h5)])⟩ -- LEAF 4: ret
          ·
            refine awp_skip ?_
            refine tn ?_
            refine sg ?_
            refine mv ?_
            refine as_ ?_
            refine rNil ?_
            refine awp_ret ?_
            exact ⟨.inr rfl, _, (.cons (by first | exact .v (by ((repeat apply Look.there rfl); exact Look.here)) (.f (.v _)) | exact .v (by ((repeat apply Look.there rfl); exact Look.here)) (.row rfl rfl) | exact .v (by ((repeat apply Look.there rfl); exact Look.here)) (.f .nil) | exact .a (by ((repeat apply Look.there rfl); exact Look.here)) | skip) .nil), oneI (by rw [idxF, if_neg q, if_neg q2, if_neg q4, if_neg (by simpa using h5)])⟩ -- LEAF 5: ret

/-- frustum/frustumref15.Index -/
theorem c58 (l : List Byt) (t i : Int) (hf : FineB l) (hi : 0 ≤ i ∧ i ≤ 100000) : Fn Try.prog 58 [L l, I t, I i] (.one (I (idxF l t i))) := by
  refine fnI Try.func58 Try.ntmps58 fun hb => ?_
  have hl := bd_L (f := Enc.c) (l := l) hb (by simp)
  have hsz := szF_c t
  refine sg ?_
  refine as_ ?_
  refine rNil ?_
  refine sg ?_
  refine mv ?_
  refine cl (c57 _) ?_
  refine as_ ?_
  refine rNil ?_
  refine sq ?_
  refine sg ?_
  refine mv ?_
  refine bo (hz := by exact rfl) ?_
  refine mv ?_
  refine gd (fun h1 => ?_) (fun h1 => ?_)
  ·
    simp at h1; omega -- END
  ·
    refine mv ?_
    refine bo (hz := by exact rfl) ?_
    refine pkF ?_
    refine rNil ?_
    refine cn (fun h2 => ?_) (fun h2 => ?_)
    ·
      have q : szF t < 0 := by simpa using h2
      refine sg ?_
      refine as_ ?_
      refine rNil ?_
      refine awp_ret ?_
      refine tr ?_
      exact ⟨.inr rfl, _, (.cons (by first | exact .v (by ((repeat apply Look.there rfl); exact Look.here)) (.f (.v _)) | exact .v (by ((repeat apply Look.there rfl); exact Look.here)) (.row rfl rfl) | exact .v (by ((repeat apply Look.there rfl); exact Look.here)) (.f .nil) | exact .a (by ((repeat apply Look.there rfl); exact Look.here)) | skip) .nil), oneI (by rw [idxF, if_pos (.inr q)])⟩ -- LEAF 1: ret
    ·
      have q : ¬ (i < 0 ∨ szF t < 0) := by simp at h2; omega
      refine awp_skip ?_
      refine tn ?_
      refine sq ?_
      refine sg ?_
      refine mv ?_
      refine bo (hz := by exact rfl) ?_
      refine rNil ?_
      refine cn (fun h3 => ?_) (fun h3 => ?_)
      ·
        refine sg ?_
        refine mv ?_
        refine as_ ?_
        refine rNil ?_
        refine awp_ret ?_
        refine tr ?_
        exact ⟨.inr rfl, _, (.cons (by first | exact .v (by ((repeat apply Look.there rfl); exact Look.here)) (.f (.v _)) | exact .v (by ((repeat apply Look.there rfl); exact Look.here)) (.row rfl rfl) | exact .v (by ((repeat apply Look.there rfl); exact Look.here)) (.f .nil) | exact .a (by ((repeat apply Look.there rfl); exact Look.here)) | skip) .nil), oneI (by rw [idxF, if_neg q, if_pos (by simpa using h3)])⟩ -- LEAF 2: ret
      ·
        have q2 : ¬ szF t = 0 := by simpa using h3
        have q3 : 0 < szF t := by omega
        have hm := isz_bd hi (show 0 ≤ szF t ∧ szF t ≤ 4 by omega)
        have hp := p2_bd (x := 8 * szF t) (by omega) (by omega)
        refine awp_skip ?_
        refine tn ?_
        refine sq ?_
        refine sg ?_
        refine mv ?_
        refine mv ?_
        first | refine lnM ?_ | refine ln ?_ | refine lnO ?_ | refine lnN ?_ | refine lnW ?_
        refine mv ?_
        refine bo (hz := by first | exact bop_quo (by omega) (by omega) (by omega) | exact rfl) ?_
        refine bo (hz := by exact rfl) ?_
        refine rNil ?_
        refine cn (fun h4 => ?_) (fun h4 => ?_)
        ·
          refine sg ?_
          refine as_ ?_
          refine rNil ?_
          refine awp_ret ?_
          refine tr ?_
          exact ⟨.inr rfl, _, (.cons (by first | exact .v (by ((repeat apply Look.there rfl); exact Look.here)) (.f (.v _)) | exact .v (by ((repeat apply Look.there rfl); exact Look.here)) (.row rfl rfl) | exact .v (by ((repeat apply Look.there rfl); exact Look.here)) (.f .nil) | exact .a (by ((repeat apply Look.there rfl); exact Look.here)) | skip) .nil), oneI (by rw [idxF, if_neg q, if_neg q2, if_pos (by simpa using h4)])⟩ -- LEAF 3: ret
        ·
          have q4 : ¬ i ≥ l.length / szF t := by simpa using h4
          refine awp_skip ?_
          refine tn ?_
          refine sg ?_
          refine mv ?_
          refine mv ?_
          refine mv ?_
          refine bo (hz := by first | exact bop_mul (by omega) (by omega) | exact rfl) ?_
          refine mv ?_
          refine cl (c82 l _ _ hf) ?_
          refine as_ ?_
          refine rNil ?_
          refine sq ?_
          refine sg ?_
          refine mv ?_
          refine mv ?_
          refine bo (hz := by first | exact bop_mul (by omega) (by omega) | exact rfl) ?_
          refine sh (hz := shl1i (by omega) (by omega)) ?_
          refine bo (hz := by first | exact bop_sub (by omega) (by omega) | exact rfl) ?_
          refine bo (hz := by exact rfl) ?_
          refine rNil ?_
          refine cn (fun h5 => ?_) (fun h5 => ?_)
          ·
            refine sg ?_
            refine as_ ?_
            refine rNil ?_
            refine awp_ret ?_
            refine tr ?_
            exact ⟨.inr rfl, _, (.cons (by first | exact .v (by ((repeat apply Look.there rfl); exact Look.here)) (.f (.v _)) | exact .v (by ((repeat apply Look.there rfl); exact Look.here)) (.row rfl rfl) | exact .v (by ((repeat apply Look.there rfl); exact Look.here)) (.f .nil) | exact .a (by ((repeat apply Look.there rfl); exact Look.here)) | skip) .nil), oneI (by rw [idxF, if_neg q, if_neg q2, if_neg q4, if_pos (by simpa using h5)])⟩ -- LEAF 4: ret
          ·
            refine awp_skip ?_
            refine tn ?_
            refine sg ?_
            refine mv ?_
            refine as_ ?_
            refine rNil ?_
            refine awp_ret ?_
            exact ⟨.inr rfl, _, (.cons (by first | exact .v (by ((repeat apply Look.there rfl); exact Look.here)) (.f (.v _)) | exact .v (by ((repeat apply Look.there rfl); exact Look.here)) (.row rfl rfl) | exact .v (by ((repeat apply Look.there rfl); exact Look.here)) (.f .nil) | exact .a (by ((repeat apply Look.there rfl); exact Look.here)) | skip) .nil), oneI (by rw [idxF, if_neg q, if_neg q2, if_neg q4, if_neg (by simpa using h5)])⟩ -- LEAF 5: ret

def lim2 (x h : Int) : Int := mx 0 (mn h x)
theorem lim2_bd (x : Int) {h : Int} (hh : 0 ≤ h) : 0 ≤ lim2 x h ∧ lim2 x h ≤ h := by unfold lim2 mx mn; repeat (first | omega | split)
theorem lim2_eq (x : Int) {h : Int} (hh : 0 ≤ h) : mn (mx x 0) h = lim2 x h := by unfold lim2 mx mn; repeat (first | omega | split)
def ixs (l : List Byt) (t f : Int) (k : Nat) : List Int := (List.range k).map fun (j : Nat) => idxF l t (f + j)
theorem ixs_succ (l : List Byt) (t f : Int) (k : Nat) : ixs l t f (k + 1) = ixs l t f k ++ [idxF l t (f + k)] := by simp [ixs, List.range_succ]
@[simp] theorem ixs_len (l : List Byt) (t f : Int) (k : Nat) : (ixs l t f k).length = k := by simp [ixs]
def indF (l : List Byt) (t f c : Int) : List Int := if szF t < 0 then [] else ixs l t (lim2 f 65536) (lim2 c 1024).toNat
/-- frustum/fetch.Indices -/
theorem c26 (l : List Byt) (t f c : Int) (hf : FineB l) : Fn Try.prog 26 [L l, I t, I f, I c] (.one (L (indF l t f c))) := by
  refine fnI Try.func26 Try.ntmps26 fun hb => ?_
  refine sg ?_
  refine as_ ?_
  refine rNil ?_
  refine sq ?_
  refine sg ?_
  refine mv ?_
  refine cl (c55 _) ?_
  refine bo (hz := by exact rfl) ?_
  refine rNil ?_
  refine cn (fun h1 => ?_) (fun h1 => ?_)
  ·
    refine sg ?_
    refine as_ ?_
    refine rNil ?_
    refine awp_ret ?_
    refine tr ?_
    exact ⟨.inr rfl, _, (.cons (by first | exact .v (by ((repeat apply Look.there rfl); exact Look.here)) (.f (.v _)) | exact .v (by ((repeat apply Look.there rfl); exact Look.here)) (.row rfl rfl) | exact .v (by ((repeat apply Look.there rfl); exact Look.here)) (.f .nil) | exact .a (by ((repeat apply Look.there rfl); exact Look.here)) | skip) .nil), by rw [indF, if_pos (by simpa using h1)]; rfl⟩ -- LEAF 1: ret
  ·
    refine awp_skip ?_
    refine tn ?_
    refine sg ?_
    refine mv ?_
    refine mn2 ?_
    refine mx2 ?_
    refine mv ?_
    refine mn2 ?_
    refine mx2 ?_
    refine as_ ?_
    refine as_ ?_
    refine rNil ?_
    refine sg ?_
    refine as_ ?_
    refine rNil ?_
    refine sq ?_
    refine sg ?_
    refine mv ?_
    refine mv ?_
    refine rNil ?_
    refine bk ?_
    have q : ¬ szF t < 0 := by simpa using h1
    have hfb := lim2_bd f (show (0 : Int) ≤ 65536 by decide)
    have hcb := lim2_bd c (show (0 : Int) ≤ 1024 by decide)
    refine adN 0 9 3 1 ?_
    refine lp (fun n S => ∃ (k m : Nat), n = (lim2 c 1024).toNat - k ∧ k ≤ (lim2 c 1024).toNat ∧ m = k ∧ S = ⟨[(21, .r (I k)), (20, .r (I (lim2 c 1024))), (9, .own 0 m), (0, .r (L l)), (1, .r (I t)), (2, .r (I (lim2 f 65536)))], [.row 3 1 ((ixs l t (lim2 f 65536) k).map Enc.c)]⟩) (lim2 c 1024).toNat ?_ ?_
    · exact wx 1 ⟨0, 0, by omega, by omega, rfl, rfl⟩
    rintro n S ⟨k, m, hn, hk, hm, rfl⟩
    have hrow : m = ((ixs l t (lim2 f 65536) k).map Enc.c).length := by simp [hm]
    refine sg ?_
    refine bo (hz := by exact rfl) ?_
    refine rNil ?_
    refine sq ?_
    refine cn (fun h2 => ?_) (fun h2 => ?_)
    ·
      have hk1 : (k : Int) < lim2 c 1024 := by simpa using h2
      have hsn := ixs_succ l t (lim2 f 65536) k
      have hkl : (ixs l t (lim2 f 65536) k).length = k := ixs_len _ _ _ _
      generalize ixs l t (lim2 f 65536) k = done at *
      refine awp_skip ?_
      refine tn ?_
      refine sq ?_
      refine bk ?_
      refine sg ?_
      refine mv ?_
      refine as_ ?_
      refine rNil ?_
      refine rg ?_
      refine mv ?_
      refine mv ?_
      refine mv ?_
      refine mv ?_
      refine mv ?_
      refine bo (hz := by first | exact bop_add (by omega) (by omega) | exact rfl) ?_
      refine cl (c56 l t (lim2 f 65536 + k) hf (by omega)) ?_
      refine bs ?_
      first | refine ap ?_ | refine (apN _) ?_
      refine as_ ?_
      refine rNil ?_
      refine bn_ ?_
      refine tn ?_
      refine rg ?_
      refine bo (hz := by first | exact bop_add (by omega) (by omega) | exact rfl) ?_
      refine mv ?_
      refine rNil ?_
      refine tn ?_
      exact ⟨(lim2 c 1024).toNat - (k + 1), by omega, wy 1 ⟨k + 1, m + 1, by omega, by omega, by omega, rfl⟩ (by rw [hsn, List.map_append]; rfl)⟩ -- LEAF 2: round of loop 1
    ·
      refine awp_exit ?_
      refine te ?_
      refine te ?_
      refine xbk ?_
      refine tn ?_
      refine sg ?_
      refine mv ?_
      refine as_ ?_
      refine rNil ?_
      refine awp_ret ?_
      have hkk : k = (lim2 c 1024).toNat := by simp at h2; omega
      subst hkk
      exact ⟨.inr rfl, _, .cons (.v (by ((repeat apply Look.there rfl); exact Look.here)) (.row rfl hrow)) .nil, by rw [indF, if_neg q]; rfl⟩ -- LEAF 3: ret

/-- frustum/frustumref15.Indices -/
theorem c27 (l : List Byt) (t f c : Int) (hf : FineB l) : Fn Try.prog 27 [L l, I t, I f, I c] (.one (L (indF l t f c))) := by
  refine fnI Try.func27 Try.ntmps27 fun hb => ?_
  refine sg ?_
  refine as_ ?_
  refine rNil ?_
  refine sq ?_
  refine sg ?_
  refine mv ?_
  refine cl (c57 _) ?_
  refine bo (hz := by exact rfl) ?_
  refine rNil ?_
  refine cn (fun h1 => ?_) (fun h1 => ?_)
  ·
    refine sg ?_
    refine as_ ?_
    refine rNil ?_
    refine awp_ret ?_
    refine tr ?_
    exact ⟨.inr rfl, _, (.cons (by first | exact .v (by ((repeat apply Look.there rfl); exact Look.here)) (.f (.v _)) | exact .v (by ((repeat apply Look.there rfl); exact Look.here)) (.row rfl rfl) | exact .v (by ((repeat apply Look.there rfl); exact Look.here)) (.f .nil) | exact .a (by ((repeat apply Look.there rfl); exact Look.here)) | skip) .nil), by rw [indF, if_pos (by simpa using h1)]; rfl⟩ -- LEAF 1: ret
  ·
    refine awp_skip ?_
    refine tn ?_
    refine sg ?_
    refine mv ?_
    refine mx2 ?_
    refine mn2 ?_
    rw [lim2_eq f (show (0 : Int) ≤ 65536 by decide)]
    refine as_ ?_
    refine rNil ?_
    refine sg ?_
    refine mv ?_
    refine mx2 ?_
    refine mn2 ?_
    rw [lim2_eq c (show (0 : Int) ≤ 1024 by decide)]
    refine as_ ?_
    refine rNil ?_
    refine sg ?_
    refine (bsO _) ?_
    refine as_ ?_
    refine rNil ?_
    refine sq ?_
    refine sg ?_
    refine as_ ?_
    refine rNil ?_
    refine bk ?_
    have q : ¬ szF t < 0 := by simpa using h1
    have hfb := lim2_bd f (show (0 : Int) ≤ 65536 by decide)
    have hcb := lim2_bd c (show (0 : Int) ≤ 1024 by decide)
    refine lp (fun n S => ∃ (k m : Nat), n = (lim2 c 1024).toNat - k ∧ k ≤ (lim2 c 1024).toNat ∧ m = k ∧ S = ⟨[(10, .r (I k)), (3, .r (I (lim2 c 1024))), (9, .own 0 m), (0, .r (L l)), (1, .r (I t)), (2, .r (I (lim2 f 65536)))], [.row 3 1 ((ixs l t (lim2 f 65536) k).map Enc.c)]⟩) (lim2 c 1024).toNat ?_ ?_
    · exact wx 1 ⟨0, 0, by omega, by omega, rfl, rfl⟩
    rintro n S ⟨k, m, hn, hk, hm, rfl⟩
    have hrow : m = ((ixs l t (lim2 f 65536) k).map Enc.c).length := by simp [hm]
    refine sq ?_
    refine sg ?_
    refine mv ?_
    refine mv ?_
    refine bo (hz := by exact rfl) ?_
    refine rNil ?_
    refine cn (fun h2 => ?_) (fun h2 => ?_)
    ·
      have hk1 : (k : Int) < lim2 c 1024 := by simpa using h2
      have hsn := ixs_succ l t (lim2 f 65536) k
      have hkl : (ixs l t (lim2 f 65536) k).length = k := ixs_len _ _ _ _
      generalize ixs l t (lim2 f 65536) k = done at *
      refine awp_skip ?_
      refine tn ?_
      refine sq ?_
      refine bk ?_
      refine rg ?_
      refine mv ?_
      refine mv ?_
      refine mv ?_
      refine mv ?_
      refine mv ?_
      refine bo (hz := by first | exact bop_add (by omega) (by omega) | exact rfl) ?_
      refine cl (c58 l t (lim2 f 65536 + k) hf (by omega)) ?_
      refine bs ?_
      first | refine ap ?_ | refine (apN _) ?_
      refine as_ ?_
      refine rNil ?_
      refine bn_ ?_
      refine tn ?_
      refine rg ?_
      refine mv ?_
      refine bo (hz := by first | exact bop_add (by omega) (by omega) | exact rfl) ?_
      refine as_ ?_
      refine rNil ?_
      refine tn ?_
      exact ⟨(lim2 c 1024).toNat - (k + 1), by omega, wy 1 ⟨k + 1, m + 1, by omega, by omega, by omega, rfl⟩ (by rw [hsn, List.map_append]; rfl)⟩ -- LEAF 2: round of loop 1
    ·
      refine awp_exit ?_
      refine te ?_
      refine te ?_
      refine xbk ?_
      refine tn ?_
      refine sg ?_
      refine mv ?_
      refine as_ ?_
      refine rNil ?_
      refine awp_ret ?_
      have hkk : k = (lim2 c 1024).toNat := by simp at h2; omega
      subst hkk
      exact ⟨.inr rfl, _, .cons (.v (by ((repeat apply Look.there rfl); exact Look.here)) (.row rfl hrow)) .nil, by rw [indF, if_neg q]; rfl⟩ -- LEAF 3: ret

/-- frustum/frontend.Indices -/
theorem c11 (l : List Byt) (t f c : Int) (hf : FineB l) : Fn Try.prog 11 [L l, I t, I f, I c] (.one (L (indF l t f c))) := by
  refine fnI Try.func11 Try.ntmps11 fun hb => ?_
  refine sg ?_
  refine as_ ?_
  refine rNil ?_
  refine sg ?_
  refine mv ?_
  refine mv ?_
  refine mv ?_
  refine mv ?_
  refine cl (c26 l t f c hf) ?_
  refine as_ ?_
  refine rNil ?_
  refine awp_ret ?_
  exact ⟨.inr rfl, _, (.cons (by first | exact .v (by ((repeat apply Look.there rfl); exact Look.here)) (.f (.v _)) | exact .v (by ((repeat apply Look.there rfl); exact Look.here)) (.row rfl rfl) | exact .v (by ((repeat apply Look.there rfl); exact Look.here)) (.f .nil) | exact .a (by ((repeat apply Look.there rfl); exact Look.here)) | skip) .nil), rfl⟩ -- LEAF 1: ret

/-- frustum/frustumref44.Indices -/
theorem c12 (l : List Byt) (t f c : Int) (hf : FineB l) : Fn Try.prog 12 [L l, I t, I f, I c] (.one (L (indF l t f c))) := by
  refine fnI Try.func12 Try.ntmps12 fun hb => ?_
  refine sg ?_
  refine as_ ?_
  refine rNil ?_
  refine sg ?_
  refine mv ?_
  refine mv ?_
  refine mv ?_
  refine mv ?_
  refine cl (c27 l t f c hf) ?_
  refine as_ ?_
  refine rNil ?_
  refine awp_ret ?_
  exact ⟨.inr rfl, _, (.cons (by first | exact .v (by ((repeat apply Look.there rfl); exact Look.here)) (.f (.v _)) | exact .v (by ((repeat apply Look.there rfl); exact Look.here)) (.row rfl rfl) | exact .v (by ((repeat apply Look.there rfl); exact Look.here)) (.f .nil) | exact .a (by ((repeat apply Look.there rfl); exact Look.here)) | skip) .nil), rfl⟩ -- LEAF 1: ret

/-- frustum/frustumlaw44.FrontendIndices -/
theorem c4 (l : List Byt) (t f c : Int) (hf : FineB l) : Fn Try.prog 4 [L l, I t, I f, I c] (.one (B true)) := by
  refine fnI Try.func4 Try.ntmps4 fun hb => ?_
  refine sg ?_
  refine as_ ?_
  refine rNil ?_
  refine sg ?_
  refine mv ?_
  refine mv ?_
  refine mv ?_
  refine mv ?_
  refine cl (c11 l t f c hf) ?_
  refine mv ?_
  refine mv ?_
  refine mv ?_
  refine mv ?_
  refine cl (c12 l t f c hf) ?_
  refine cl (c10 (indF l t f c) (indF l t f c)) ?_
  refine mv ?_
  refine gd (fun h1 => ?_) (fun h1 => ?_)
  ·
    refine cl (c9) ?_
    refine pkT ?_
    refine as_ ?_
    refine rNil ?_
    refine awp_ret ?_
    exact ⟨.inr rfl, _, (.cons (by first | exact .v (by ((repeat apply Look.there rfl); exact Look.here)) (.f (.v _)) | exact .v (by ((repeat apply Look.there rfl); exact Look.here)) (.row rfl rfl) | exact .v (by ((repeat apply Look.there rfl); exact Look.here)) (.f .nil) | exact .a (by ((repeat apply Look.there rfl); exact Look.here)) | skip) .nil), rfl⟩ -- LEAF 1: ret
  ·
    simp at h1 -- END

end Go.Proofs.Ytlmecogidnbpjaa.VS
