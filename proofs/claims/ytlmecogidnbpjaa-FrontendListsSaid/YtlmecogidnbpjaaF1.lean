/- The walks of functions: what each computes, by itself. Conditions: none. -/
import Derived.Test.YtlmecogidnbpjaaT
import Derived.Test.YtlmecogidnbpjaaV20
set_option linter.unusedVariables false
set_option linter.unusedSimpArgs false
namespace Go.Proofs.Ytlmecogidnbpjaa.VS
open Go
def clamp (x lo hi : Int) : Int := mx (mn x hi) lo
/-- frustum/fixed.Clamp -/
theorem c66 (x lo hi : Int) : Fn Try.prog 66 [I x, I lo, I hi] (.one (I (clamp x lo hi))) := by
  refine fnI Try.func66 Try.ntmps66 fun hb => ?_
  refine sg ?_
  refine as_ ?_
  refine rNil ?_
  refine sg ?_
  refine mv ?_
  refine mv ?_
  refine mn2 ?_
  refine mv ?_
  refine mx2 ?_
  refine as_ ?_
  refine rNil ?_
  refine awp_ret ?_
  exact ⟨.inr rfl, _, (.cons (by first | exact .v (by ((repeat apply Look.there rfl); exact Look.here)) (.f (.v _)) | exact .v (by ((repeat apply Look.there rfl); exact Look.here)) (.row rfl rfl) | exact .v (by ((repeat apply Look.there rfl); exact Look.here)) (.f .nil) | exact .a (by ((repeat apply Look.there rfl); exact Look.here)) | skip) .nil), rfl⟩ -- LEAF 1: ret

abbrev sat (x : Int) : Int := clamp x (-536870911) 536870911
theorem clamp_bd (x : Int) {lo hi : Int} (h : lo ≤ hi) : lo ≤ clamp x lo hi ∧ clamp x lo hi ≤ hi := by
  unfold clamp mx mn; repeat (first | omega | split)
theorem sat_bd (x : Int) : -536870911 ≤ sat x ∧ sat x ≤ 536870911 := clamp_bd x (by decide)
/-- frustum/fixed.Saturate -/
theorem c35 (x : Int) : Fn Try.prog 35 [I x] (.one (I (sat x))) := by
  refine fnI Try.func35 Try.ntmps35 fun hb => ?_
  refine sg ?_
  refine as_ ?_
  refine rNil ?_
  refine sg ?_
  refine mv ?_
  refine cl (c66 _ _ _) ?_
  refine as_ ?_
  refine rNil ?_
  refine awp_ret ?_
  exact ⟨.inr rfl, _, (.cons (by first | exact .v (by ((repeat apply Look.there rfl); exact Look.here)) (.f (.v _)) | exact .v (by ((repeat apply Look.there rfl); exact Look.here)) (.row rfl rfl) | exact .v (by ((repeat apply Look.there rfl); exact Look.here)) (.f .nil) | exact .a (by ((repeat apply Look.there rfl); exact Look.here)) | skip) .nil), rfl⟩ -- LEAF 1: ret

def fadd (a b : Int) : Int := sat (sat a + sat b)
def fsub (a b : Int) : Int := sat (sat a - sat b)
/-- frustum/fixed.Add -/
theorem c68 (a b : Int) : Fn Try.prog 68 [I a, I b] (.one (I (fadd a b))) := by
  refine fnI Try.func68 Try.ntmps68 fun hb => ?_
  have ha := sat_bd a
  have hbb := sat_bd b
  refine sg ?_
  refine as_ ?_
  refine rNil ?_
  refine sg ?_
  refine mv ?_
  refine cl (c35 _) ?_
  refine mv ?_
  refine cl (c35 _) ?_
  refine bo (hz := by first | exact bop_add (by omega) (by omega) | exact rfl) ?_
  refine cl (c35 _) ?_
  refine as_ ?_
  refine rNil ?_
  refine awp_ret ?_
  exact ⟨.inr rfl, _, (.cons (by first | exact .v (by ((repeat apply Look.there rfl); exact Look.here)) (.f (.v _)) | exact .v (by ((repeat apply Look.there rfl); exact Look.here)) (.row rfl rfl) | exact .v (by ((repeat apply Look.there rfl); exact Look.here)) (.f .nil) | exact .a (by ((repeat apply Look.there rfl); exact Look.here)) | skip) .nil), rfl⟩ -- LEAF 1: ret

/-- frustum/fixed.Sub -/
theorem c97 (a b : Int) : Fn Try.prog 97 [I a, I b] (.one (I (fsub a b))) := by
  refine fnI Try.func97 Try.ntmps97 fun hb => ?_
  have ha := sat_bd a
  have hbb := sat_bd b
  refine sg ?_
  refine as_ ?_
  refine rNil ?_
  refine sg ?_
  refine mv ?_
  refine cl (c35 _) ?_
  refine mv ?_
  refine cl (c35 _) ?_
  refine bo (hz := by first | exact bop_sub (by omega) (by omega) | exact rfl) ?_
  refine cl (c35 _) ?_
  refine as_ ?_
  refine rNil ?_
  refine awp_ret ?_
  exact ⟨.inr rfl, _, (.cons (by first | exact .v (by ((repeat apply Look.there rfl); exact Look.here)) (.f (.v _)) | exact .v (by ((repeat apply Look.there rfl); exact Look.here)) (.row rfl rfl) | exact .v (by ((repeat apply Look.there rfl); exact Look.here)) (.f .nil) | exact .a (by ((repeat apply Look.there rfl); exact Look.here)) | skip) .nil), rfl⟩ -- LEAF 1: ret

/-- frustum/frustumref01.Clamp -/
theorem c74 (x lo hi : Int) : Fn Try.prog 74 [I x, I lo, I hi] (.one (I (clamp x lo hi))) := by
  refine fnI Try.func74 Try.ntmps74 fun hb => ?_
  refine sg ?_
  refine as_ ?_
  refine rNil ?_
  refine sq ?_
  refine sg ?_
  refine mv ?_
  refine mv ?_
  refine bo (hz := by exact rfl) ?_
  refine mv ?_
  refine gd (fun h1 => ?_) (fun h1 => ?_)
  ·
    refine no ?_
    refine no ?_
    refine no ?_
    refine pkT ?_
    refine rNil ?_
    refine cn (fun h2 => ?_) (fun h2 => ?_)
    ·
      refine sg ?_
      refine mv ?_
      refine as_ ?_
      refine rNil ?_
      refine awp_ret ?_
      refine tr ?_
      exact ⟨.inr rfl, _, (.cons (by first | exact .v (by ((repeat apply Look.there rfl); exact Look.here)) (.f (.v _)) | exact .v (by ((repeat apply Look.there rfl); exact Look.here)) (.row rfl rfl) | exact .v (by ((repeat apply Look.there rfl); exact Look.here)) (.f .nil) | exact .a (by ((repeat apply Look.there rfl); exact Look.here)) | skip) .nil), oneI (by simp only [clamp, mx, mn, decide_eq_true_eq, decide_eq_false_iff_not] at *; repeat (first | omega | split))⟩ -- LEAF 1: ret
    ·
      exact absurd h2 (by decide)
  ·
    refine mv ?_
    refine mv ?_
    refine bo (hz := by exact rfl) ?_
    refine pkF ?_
    refine rNil ?_
    refine cn (fun h3 => ?_) (fun h3 => ?_)
    ·
      refine sg ?_
      refine mv ?_
      refine as_ ?_
      refine rNil ?_
      refine awp_ret ?_
      refine tr ?_
      exact ⟨.inr rfl, _, (.cons (by first | exact .v (by ((repeat apply Look.there rfl); exact Look.here)) (.f (.v _)) | exact .v (by ((repeat apply Look.there rfl); exact Look.here)) (.row rfl rfl) | exact .v (by ((repeat apply Look.there rfl); exact Look.here)) (.f .nil) | exact .a (by ((repeat apply Look.there rfl); exact Look.here)) | skip) .nil), oneI (by simp only [clamp, mx, mn, decide_eq_true_eq, decide_eq_false_iff_not] at *; repeat (first | omega | split))⟩ -- LEAF 2: ret
    ·
      refine awp_skip ?_
      refine tn ?_
      refine sq ?_
      refine sg ?_
      refine mv ?_
      refine mv ?_
      refine bo (hz := by exact rfl) ?_
      refine rNil ?_
      refine cn (fun h4 => ?_) (fun h4 => ?_)
      ·
        refine sg ?_
        refine mv ?_
        refine as_ ?_
        refine rNil ?_
        refine awp_ret ?_
        refine tr ?_
        exact ⟨.inr rfl, _, (.cons (by first | exact .v (by ((repeat apply Look.there rfl); exact Look.here)) (.f (.v _)) | exact .v (by ((repeat apply Look.there rfl); exact Look.here)) (.row rfl rfl) | exact .v (by ((repeat apply Look.there rfl); exact Look.here)) (.f .nil) | exact .a (by ((repeat apply Look.there rfl); exact Look.here)) | skip) .nil), oneI (by simp only [clamp, mx, mn, decide_eq_true_eq, decide_eq_false_iff_not] at *; repeat (first | omega | split))⟩ -- LEAF 3: ret
      ·
        refine awp_skip ?_
        refine tn ?_
        refine sg ?_
        refine mv ?_
        refine as_ ?_
        refine rNil ?_
        refine awp_ret ?_
        exact ⟨.inr rfl, _, (.cons (by first | exact .v (by ((repeat apply Look.there rfl); exact Look.here)) (.f (.v _)) | exact .v (by ((repeat apply Look.there rfl); exact Look.here)) (.row rfl rfl) | exact .v (by ((repeat apply Look.there rfl); exact Look.here)) (.f .nil) | exact .a (by ((repeat apply Look.there rfl); exact Look.here)) | skip) .nil), oneI (by simp only [clamp, mx, mn, decide_eq_true_eq, decide_eq_false_iff_not] at *; repeat (first | omega | split))⟩ -- LEAF 4: ret

/-- frustum/frustumref01.Saturate -/
theorem c46 (x : Int) : Fn Try.prog 46 [I x] (.one (I (sat x))) := by
  refine fnI Try.func46 Try.ntmps46 fun hb => ?_
  refine sg ?_
  refine as_ ?_
  refine rNil ?_
  refine sg ?_
  refine mv ?_
  refine cl (c74 _ _ _) ?_
  refine as_ ?_
  refine rNil ?_
  refine awp_ret ?_
  exact ⟨.inr rfl, _, (.cons (by first | exact .v (by ((repeat apply Look.there rfl); exact Look.here)) (.f (.v _)) | exact .v (by ((repeat apply Look.there rfl); exact Look.here)) (.row rfl rfl) | exact .v (by ((repeat apply Look.there rfl); exact Look.here)) (.f .nil) | exact .a (by ((repeat apply Look.there rfl); exact Look.here)) | skip) .nil), rfl⟩ -- LEAF 1: ret

/-- frustum/frustumref01.Add -/
theorem c76 (a b : Int) : Fn Try.prog 76 [I a, I b] (.one (I (fadd a b))) := by
  refine fnI Try.func76 Try.ntmps76 fun hb => ?_
  have ha := sat_bd a
  have hbb := sat_bd b
  refine sg ?_
  refine as_ ?_
  refine rNil ?_
  refine sg ?_
  refine mv ?_
  refine cl (c46 _) ?_
  refine mv ?_
  refine cl (c46 _) ?_
  refine bo (hz := by first | exact bop_add (by omega) (by omega) | exact rfl) ?_
  refine cl (c46 _) ?_
  refine as_ ?_
  refine rNil ?_
  refine awp_ret ?_
  exact ⟨.inr rfl, _, (.cons (by first | exact .v (by ((repeat apply Look.there rfl); exact Look.here)) (.f (.v _)) | exact .v (by ((repeat apply Look.there rfl); exact Look.here)) (.row rfl rfl) | exact .v (by ((repeat apply Look.there rfl); exact Look.here)) (.f .nil) | exact .a (by ((repeat apply Look.there rfl); exact Look.here)) | skip) .nil), rfl⟩ -- LEAF 1: ret

/-- frustum/frustumref01.Sub -/
theorem c126 (a b : Int) : Fn Try.prog 126 [I a, I b] (.one (I (fsub a b))) := by
  refine fnI Try.func126 Try.ntmps126 fun hb => ?_
  have ha := sat_bd a
  have hbb := sat_bd b
  refine sg ?_
  refine as_ ?_
  refine rNil ?_
  refine sg ?_
  refine mv ?_
  refine cl (c46 _) ?_
  refine mv ?_
  refine cl (c46 _) ?_
  refine bo (hz := by first | exact bop_sub (by omega) (by omega) | exact rfl) ?_
  refine cl (c46 _) ?_
  refine as_ ?_
  refine rNil ?_
  refine awp_ret ?_
  exact ⟨.inr rfl, _, (.cons (by first | exact .v (by ((repeat apply Look.there rfl); exact Look.here)) (.f (.v _)) | exact .v (by ((repeat apply Look.there rfl); exact Look.here)) (.row rfl rfl) | exact .v (by ((repeat apply Look.there rfl); exact Look.here)) (.f .nil) | exact .a (by ((repeat apply Look.there rfl); exact Look.here)) | skip) .nil), rfl⟩ -- LEAF 1: ret

def lim (x : Int) : Int := mx 0 (mn x 16384)
theorem lim_bd (x : Int) : 0 ≤ lim x ∧ lim x ≤ 16384 := by unfold lim mx mn; repeat (first | omega | split)
theorem lim_id {x : Int} (h : 0 ≤ x ∧ x ≤ 16384) : lim x = x := by unfold lim mx mn; repeat (first | omega | split)
theorem prod_bd {x y : Int} (hx : -16384 ≤ x ∧ x ≤ 16384) (hy : -16384 ≤ y ∧ y ≤ 16384) : -268435456 ≤ x * y ∧ x * y ≤ 268435456 := by
  have h1 := Int.mul_le_mul (a := x.natAbs) (b := y.natAbs) (c := 16384) (d := 16384) (by omega) (by omega) (by omega) (by omega)
  have h2 : ((x * y).natAbs : Int) = x.natAbs * y.natAbs := by rw [Int.natAbs_mul]; rfl
  omega
def crs (ax ay bx by' px py : Int) : Int := (bx - ax) * (py - ay) - (by' - ay) * (px - ax)
def fn' (ax ay bx by' px py : Int) : Int := crs (lim ax) (lim ay) (lim bx) (lim by') (lim px) (lim py)
theorem dif_bd {x y : Int} (hx : 0 ≤ x ∧ x ≤ 16384) (hy : 0 ≤ y ∧ y ≤ 16384) : -16384 ≤ x - y ∧ x - y ≤ 16384 := by omega
theorem fn_bd (ax ay bx by' px py : Int) : -536870912 ≤ fn' ax ay bx by' px py ∧ fn' ax ay bx by' px py ≤ 536870912 := by
  have p1 := prod_bd (dif_bd (lim_bd bx) (lim_bd ax)) (dif_bd (lim_bd py) (lim_bd ay))
  have p2 := prod_bd (dif_bd (lim_bd by') (lim_bd ay)) (dif_bd (lim_bd px) (lim_bd ax))
  unfold fn' crs; omega
def tl (ax ay bx by' : Int) : Bool := decide (lim by' - lim ay < 0) || (lim by' - lim ay == 0 && decide (lim bx - lim ax > 0))
def acc (ax ay bx by' px py : Int) : Bool := decide (fn' ax ay bx by' px py > 0) || (fn' ax ay bx by' px py == 0 && tl ax ay bx by')
def rdn (n d : Int) : Int := (2 * n + d) / (2 * d)
def rdiv (n d : Int) : Int := if 1 ≤ d ∧ d ≤ 4611686018427387904 ∧ -4611686018427387904 ≤ n ∧ n ≤ 4611686018427387904 then (if n < 0 then -rdn (-n) d else rdn n d) else 0
theorem rdn_bd {n d : Int} (h0 : 0 ≤ n) (hd : 1 ≤ d) : 0 ≤ rdn n d ∧ rdn n d ≤ n + 1 := by
  unfold rdn
  refine ⟨Int.ediv_nonneg (by omega) (by omega), ?_⟩
  have h1 : n * 1 ≤ n * d := Int.mul_le_mul_of_nonneg_left hd h0
  have h2 : (2 * n + d) < (n + 1 + 1) * (2 * d) := by
    have e : (n + 1 + 1) * (2 * d) = 2 * (n * d) + 4 * d := by
      rw [Int.add_mul, Int.add_mul, Int.one_mul, Int.mul_left_comm]; omega
    omega
  have h3 := Int.ediv_lt_of_lt_mul (show (0:Int) < 2 * d by omega) h2
  omega
theorem rdn_eq {n d : Int} (h0 : 0 ≤ n) (hd : 1 ≤ d) : rdn n d = if n % d ≥ d - n % d then n / d + 1 else n / d := by
  have h1 := Int.emod_nonneg n (show d ≠ 0 by omega)
  have h2 := Int.emod_lt_of_pos n (show 0 < d by omega)
  have h3 := Int.emod_add_mul_ediv n d
  have e : 2 * n + d = (2 * (n % d) + d) + (2 * d) * (n / d) := by
    rw [Int.mul_assoc]; omega
  rw [rdn, e, Int.add_mul_ediv_left _ _ (show 2 * d ≠ 0 by omega)]
  split
  · have e2 : 2 * (n % d) + d = (2 * (n % d) + d - 2 * d) + (2 * d) * 1 := by omega
    rw [e2, Int.add_mul_ediv_left _ _ (show 2 * d ≠ 0 by omega), Int.ediv_eq_zero_of_lt (by omega) (by omega)]; omega
  · rw [Int.ediv_eq_zero_of_lt (by omega) (by omega)]; omega
theorem rdiv_bd (n d : Int) : -4611686018427387905 ≤ rdiv n d ∧ rdiv n d ≤ 4611686018427387905 := by
  unfold rdiv
  split
  · split
    · have := rdn_bd (n := -n) (d := d) (by omega) (by omega); omega
    · have := rdn_bd (n := n) (d := d) (by omega) (by omega); omega
  · omega
theorem rdiv_pos {n d : Int} (h0 : 0 ≤ n) (hn : n ≤ 4611686018427387904) (h1 : 1 ≤ d) (h2 : d ≤ 4611686018427387904) : rdiv n d = rdn n d := by
  rw [rdiv, if_pos (by omega), if_neg (by omega)]
theorem rdiv_neg {n d : Int} (h0 : n < 0) (hn : -4611686018427387904 ≤ n) (h1 : 1 ≤ d) (h2 : d ≤ 4611686018427387904) : rdiv n d = -rdiv (-n) d := by
  rw [rdiv_pos (n := -n) (by omega) (by omega) h1 h2, rdiv, if_pos (by omega), if_pos h0]
/-- frustum/fixed.RoundDiv -/
theorem c67g (n d : Int) (hrec : n < 0 → Fn Try.prog 67 [I (-n), I d] (.one (I (rdiv (-n) d)))) : Fn Try.prog 67 [I n, I d] (.one (I (rdiv n d))) := by
  refine fnI Try.func67 Try.ntmps67 fun hb => ?_
  refine sg ?_
  refine as_ ?_
  refine rNil ?_
  refine sq ?_
  refine sg ?_
  refine mv ?_
  refine bo (hz := by exact rfl) ?_
  refine mv ?_
  refine gd (fun h1 => ?_) (fun h1 => ?_)
  ·
    refine no ?_
    refine no ?_
    refine pkT ?_
    refine mv ?_
    refine no ?_
    refine no ?_
    refine pkT ?_
    refine mv ?_
    refine no ?_
    refine no ?_
    refine pkT ?_
    refine rNil ?_
    refine cn (fun h2 => ?_) (fun h2 => ?_)
    ·
      refine sg ?_
      refine as_ ?_
      refine rNil ?_
      refine awp_ret ?_
      refine tr ?_
      exact ⟨.inr rfl, _, (.cons (by first | exact .v (by ((repeat apply Look.there rfl); exact Look.here)) (.f (.v _)) | exact .v (by ((repeat apply Look.there rfl); exact Look.here)) (.row rfl rfl) | exact .v (by ((repeat apply Look.there rfl); exact Look.here)) (.f .nil) | exact .a (by ((repeat apply Look.there rfl); exact Look.here)) | skip) .nil), oneI (by rw [rdiv, if_neg]; simp only [decide_eq_true_eq] at *; omega)⟩ -- LEAF 1: ret
    ·
      exact absurd h2 (by decide)
  ·
    refine mv ?_
    refine bo (hz := by exact rfl) ?_
    refine pkF ?_
    refine mv ?_
    refine gd (fun h3 => ?_) (fun h3 => ?_)
    ·
      refine no ?_
      refine no ?_
      refine pkT ?_
      refine mv ?_
      refine no ?_
      refine no ?_
      refine pkT ?_
      refine rNil ?_
      refine cn (fun h4 => ?_) (fun h4 => ?_)
      ·
        refine sg ?_
        refine as_ ?_
        refine rNil ?_
        refine awp_ret ?_
        refine tr ?_
        exact ⟨.inr rfl, _, (.cons (by first | exact .v (by ((repeat apply Look.there rfl); exact Look.here)) (.f (.v _)) | exact .v (by ((repeat apply Look.there rfl); exact Look.here)) (.row rfl rfl) | exact .v (by ((repeat apply Look.there rfl); exact Look.here)) (.f .nil) | exact .a (by ((repeat apply Look.there rfl); exact Look.here)) | skip) .nil), oneI (by rw [rdiv, if_neg]; simp only [decide_eq_true_eq] at *; omega)⟩ -- LEAF 2: ret
      ·
        exact absurd h4 (by decide)
    ·
      refine mv ?_
      refine bo (hz := by exact rfl) ?_
      refine pkF ?_
      refine mv ?_
      refine gd (fun h5 => ?_) (fun h5 => ?_)
      ·
        refine no ?_
        refine no ?_
        refine pkT ?_
        refine rNil ?_
        refine cn (fun h6 => ?_) (fun h6 => ?_)
        ·
          refine sg ?_
          refine as_ ?_
          refine rNil ?_
          refine awp_ret ?_
          refine tr ?_
          exact ⟨.inr rfl, _, (.cons (by first | exact .v (by ((repeat apply Look.there rfl); exact Look.here)) (.f (.v _)) | exact .v (by ((repeat apply Look.there rfl); exact Look.here)) (.row rfl rfl) | exact .v (by ((repeat apply Look.there rfl); exact Look.here)) (.f .nil) | exact .a (by ((repeat apply Look.there rfl); exact Look.here)) | skip) .nil), oneI (by rw [rdiv, if_neg]; simp only [decide_eq_true_eq] at *; omega)⟩ -- LEAF 3: ret
        ·
          exact absurd h6 (by decide)
      ·
        refine mv ?_
        refine bo (hz := by exact rfl) ?_
        refine pkF ?_
        refine rNil ?_
        refine cn (fun h7 => ?_) (fun h7 => ?_)
        ·
          refine sg ?_
          refine as_ ?_
          refine rNil ?_
          refine awp_ret ?_
          refine tr ?_
          exact ⟨.inr rfl, _, (.cons (by first | exact .v (by ((repeat apply Look.there rfl); exact Look.here)) (.f (.v _)) | exact .v (by ((repeat apply Look.there rfl); exact Look.here)) (.row rfl rfl) | exact .v (by ((repeat apply Look.there rfl); exact Look.here)) (.f .nil) | exact .a (by ((repeat apply Look.there rfl); exact Look.here)) | skip) .nil), oneI (by rw [rdiv, if_neg]; simp only [decide_eq_true_eq] at *; omega)⟩ -- LEAF 4: ret
        ·
          have g1 : 1 ≤ d := by simpa using h1
          have g2 : d ≤ 4611686018427387904 := by simpa using h3
          have g3 : -4611686018427387904 ≤ n := by simpa using h5
          have g4 : n ≤ 4611686018427387904 := by simpa using h7
          refine awp_skip ?_
          refine tn ?_
          refine sq ?_
          refine sg ?_
          refine mv ?_
          refine bo (hz := by exact rfl) ?_
          refine rNil ?_
          refine cn (fun h8 => ?_) (fun h8 => ?_)
          ·
            have g5 : n < 0 := by simpa using h8
            have g6 := rdiv_bd (-n) d
            refine sg ?_
            refine mv ?_
            refine ng ?_
            refine mv ?_
            refine cl (hrec g5) ?_
            refine ng ?_
            refine as_ ?_
            refine rNil ?_
            refine awp_ret ?_
            refine tr ?_
            exact ⟨.inr rfl, _, (.cons (by first | exact .v (by ((repeat apply Look.there rfl); exact Look.here)) (.f (.v _)) | exact .v (by ((repeat apply Look.there rfl); exact Look.here)) (.row rfl rfl) | exact .v (by ((repeat apply Look.there rfl); exact Look.here)) (.f .nil) | exact .a (by ((repeat apply Look.there rfl); exact Look.here)) | skip) .nil), oneI (rdiv_neg g5 g3 g1 g2).symm⟩ -- LEAF 5: ret
          ·
            have g5 : 0 ≤ n := by simpa using h8
            have g6 : 0 ≤ (2 * n + d) / (2 * d) ∧ (2 * n + d) / (2 * d) ≤ n + 1 := rdn_bd g5 g1
            refine awp_skip ?_
            refine tn ?_
            refine sg ?_
            refine mv ?_
            refine cv ?_
            refine bo (hz := by first | exact bopu_mul (by omega) (by omega) | exact rfl) ?_
            refine mv ?_
            refine cv ?_
            refine bo (hz := by first | exact bopu_add (by omega) (by omega) | exact rfl) ?_
            refine mv ?_
            refine cv ?_
            refine bo (hz := by first | exact bopu_mul (by omega) (by omega) | exact rfl) ?_
            refine bo (hz := by first | exact bopu_quo (by omega) (by omega) (by omega) | exact rfl) ?_
            refine cv ?_
            refine as_ ?_
            refine rNil ?_
            refine awp_ret ?_
            exact ⟨.inr rfl, _, (.cons (by first | exact .v (by ((repeat apply Look.there rfl); exact Look.here)) (.f (.v _)) | exact .v (by ((repeat apply Look.there rfl); exact Look.here)) (.row rfl rfl) | exact .v (by ((repeat apply Look.there rfl); exact Look.here)) (.f .nil) | exact .a (by ((repeat apply Look.there rfl); exact Look.here)) | skip) .nil), oneI (rdiv_pos g5 g4 g1 g2).symm⟩ -- LEAF 6: ret

theorem c67 (n d : Int) : Fn Try.prog 67 [I n, I d] (.one (I (rdiv n d))) :=
  c67g n d fun h => c67g (-n) d fun h' => by omega
/-- frustum/frustumref01.RoundDiv -/
theorem c75g (n d : Int) (hrec : n < 0 → Fn Try.prog 75 [I (-n), I d] (.one (I (rdiv (-n) d)))) : Fn Try.prog 75 [I n, I d] (.one (I (rdiv n d))) := by
  refine fnI Try.func75 Try.ntmps75 fun hb => ?_
  refine sg ?_
  refine as_ ?_
  refine rNil ?_
  refine sq ?_
  refine sg ?_
  refine mv ?_
  refine bo (hz := by exact rfl) ?_
  refine mv ?_
  refine gd (fun h1 => ?_) (fun h1 => ?_)
  ·
    refine no ?_
    refine no ?_
    refine pkT ?_
    refine mv ?_
    refine no ?_
    refine no ?_
    refine pkT ?_
    refine mv ?_
    refine no ?_
    refine no ?_
    refine pkT ?_
    refine rNil ?_
    refine cn (fun h2 => ?_) (fun h2 => ?_)
    ·
      refine sg ?_
      refine as_ ?_
      refine rNil ?_
      refine awp_ret ?_
      refine tr ?_
      exact ⟨.inr rfl, _, (.cons (by first | exact .v (by ((repeat apply Look.there rfl); exact Look.here)) (.f (.v _)) | exact .v (by ((repeat apply Look.there rfl); exact Look.here)) (.row rfl rfl) | exact .v (by ((repeat apply Look.there rfl); exact Look.here)) (.f .nil) | exact .a (by ((repeat apply Look.there rfl); exact Look.here)) | skip) .nil), oneI (by rw [rdiv, if_neg]; simp only [decide_eq_true_eq] at *; omega)⟩ -- LEAF 1: ret
    ·
      exact absurd h2 (by decide)
  ·
    refine mv ?_
    refine bo (hz := by exact rfl) ?_
    refine pkF ?_
    refine mv ?_
    refine gd (fun h3 => ?_) (fun h3 => ?_)
    ·
      refine no ?_
      refine no ?_
      refine pkT ?_
      refine mv ?_
      refine no ?_
      refine no ?_
      refine pkT ?_
      refine rNil ?_
      refine cn (fun h4 => ?_) (fun h4 => ?_)
      ·
        refine sg ?_
        refine as_ ?_
        refine rNil ?_
        refine awp_ret ?_
        refine tr ?_
        exact ⟨.inr rfl, _, (.cons (by first | exact .v (by ((repeat apply Look.there rfl); exact Look.here)) (.f (.v _)) | exact .v (by ((repeat apply Look.there rfl); exact Look.here)) (.row rfl rfl) | exact .v (by ((repeat apply Look.there rfl); exact Look.here)) (.f .nil) | exact .a (by ((repeat apply Look.there rfl); exact Look.here)) | skip) .nil), oneI (by rw [rdiv, if_neg]; simp only [decide_eq_true_eq] at *; omega)⟩ -- LEAF 2: ret
      ·
        exact absurd h4 (by decide)
    ·
      refine mv ?_
      refine bo (hz := by exact rfl) ?_
      refine pkF ?_
      refine mv ?_
      refine gd (fun h5 => ?_) (fun h5 => ?_)
      ·
        refine no ?_
        refine no ?_
        refine pkT ?_
        refine rNil ?_
        refine cn (fun h6 => ?_) (fun h6 => ?_)
        ·
          refine sg ?_
          refine as_ ?_
          refine rNil ?_
          refine awp_ret ?_
          refine tr ?_
          exact ⟨.inr rfl, _, (.cons (by first | exact .v (by ((repeat apply Look.there rfl); exact Look.here)) (.f (.v _)) | exact .v (by ((repeat apply Look.there rfl); exact Look.here)) (.row rfl rfl) | exact .v (by ((repeat apply Look.there rfl); exact Look.here)) (.f .nil) | exact .a (by ((repeat apply Look.there rfl); exact Look.here)) | skip) .nil), oneI (by rw [rdiv, if_neg]; simp only [decide_eq_true_eq] at *; omega)⟩ -- LEAF 3: ret
        ·
          exact absurd h6 (by decide)
      ·
        refine mv ?_
        refine bo (hz := by exact rfl) ?_
        refine pkF ?_
        refine rNil ?_
        refine cn (fun h7 => ?_) (fun h7 => ?_)
        ·
          refine sg ?_
          refine as_ ?_
          refine rNil ?_
          refine awp_ret ?_
          refine tr ?_
          exact ⟨.inr rfl, _, (.cons (by first | exact .v (by ((repeat apply Look.there rfl); exact Look.here)) (.f (.v _)) | exact .v (by ((repeat apply Look.there rfl); exact Look.here)) (.row rfl rfl) | exact .v (by ((repeat apply Look.there rfl); exact Look.here)) (.f .nil) | exact .a (by ((repeat apply Look.there rfl); exact Look.here)) | skip) .nil), oneI (by rw [rdiv, if_neg]; simp only [decide_eq_true_eq] at *; omega)⟩ -- LEAF 4: ret
        ·
          have g1 : 1 ≤ d := by simpa using h1
          have g2 : d ≤ 4611686018427387904 := by simpa using h3
          have g3 : -4611686018427387904 ≤ n := by simpa using h5
          have g4 : n ≤ 4611686018427387904 := by simpa using h7
          refine awp_skip ?_
          refine tn ?_
          refine sq ?_
          refine sg ?_
          refine mv ?_
          refine bo (hz := by exact rfl) ?_
          refine rNil ?_
          refine cn (fun h8 => ?_) (fun h8 => ?_)
          ·
            have g5 : n < 0 := by simpa using h8
            have g6 := rdiv_bd (-n) d
            refine sg ?_
            refine mv ?_
            refine ng ?_
            refine mv ?_
            refine cl (hrec g5) ?_
            refine ng ?_
            refine as_ ?_
            refine rNil ?_
            refine awp_ret ?_
            refine tr ?_
            exact ⟨.inr rfl, _, (.cons (by first | exact .v (by ((repeat apply Look.there rfl); exact Look.here)) (.f (.v _)) | exact .v (by ((repeat apply Look.there rfl); exact Look.here)) (.row rfl rfl) | exact .v (by ((repeat apply Look.there rfl); exact Look.here)) (.f .nil) | exact .a (by ((repeat apply Look.there rfl); exact Look.here)) | skip) .nil), oneI (rdiv_neg g5 g3 g1 g2).symm⟩ -- LEAF 5: ret
          ·
            have g5 : 0 ≤ n := by simpa using h8
            have g6 := rdn_eq g5 g1
            have g7 := Int.emod_nonneg n (show d ≠ 0 by omega)
            have g8 := Int.emod_lt_of_pos n (show 0 < d by omega)
            have g9 := rdn_bd g5 g1
            have g10 := Int.ediv_le_self d g5
            have g11 := Int.ediv_nonneg g5 (show 0 ≤ d by omega)
            refine awp_skip ?_
            refine tn ?_
            refine sd mixO ?_
            refine mv ?_
            refine mv ?_
            refine bo (hz := by first | exact bop_quo (by omega) (by omega) (by omega) | exact rfl) ?_
            refine mv ?_
            refine mv ?_
            refine bo (hz := by first | exact bop_rem (by omega) (by omega) | exact rfl) ?_
            refine as_ ?_
            refine as_ ?_
            refine rNil ⟨rfl, ?_⟩
            refine sq ?_
            refine sg ?_
            refine mv ?_
            refine mv ?_
            refine mv ?_
            refine bo (hz := by first | exact bop_sub (by omega) (by omega) | exact rfl) ?_
            refine bo (hz := by exact rfl) ?_
            refine rNil ?_
            refine cn (fun h9 => ?_) (fun h9 => ?_)
            ·
              refine sg ?_
              refine mv ?_
              refine bo (hz := by first | exact bop_add (by omega) (by omega) | exact rfl) ?_
              refine as_ ?_
              refine rNil ?_
              refine awp_ret ?_
              refine tr ?_
              exact ⟨.inr rfl, _, (.cons (by first | exact .v (by ((repeat apply Look.there rfl); exact Look.here)) (.f (.v _)) | exact .v (by ((repeat apply Look.there rfl); exact Look.here)) (.row rfl rfl) | exact .v (by ((repeat apply Look.there rfl); exact Look.here)) (.f .nil) | exact .a (by ((repeat apply Look.there rfl); exact Look.here)) | skip) .nil), oneI (by rw [rdiv_pos g5 g4 g1 g2, g6, if_pos (by simpa using h9)])⟩ -- LEAF 6: ret
            ·
              refine awp_skip ?_
              refine tn ?_
              refine sg ?_
              refine mv ?_
              refine as_ ?_
              refine rNil ?_
              refine awp_ret ?_
              exact ⟨.inr rfl, _, (.cons (by first | exact .v (by ((repeat apply Look.there rfl); exact Look.here)) (.f (.v _)) | exact .v (by ((repeat apply Look.there rfl); exact Look.here)) (.row rfl rfl) | exact .v (by ((repeat apply Look.there rfl); exact Look.here)) (.f .nil) | exact .a (by ((repeat apply Look.there rfl); exact Look.here)) | skip) .nil), oneI (by rw [rdiv_pos g5 g4 g1 g2, g6, if_neg (by simpa using h9)])⟩ -- LEAF 7: ret

theorem c75 (n d : Int) : Fn Try.prog 75 [I n, I d] (.one (I (rdiv n d))) :=
  c75g n d fun h => c75g (-n) d fun h' => by omega
def fmul (a b : Int) : Int := sat (rdiv (sat a * sat b) 65536)
theorem mul_bd {x y : Int} (hx : -536870911 ≤ x ∧ x ≤ 536870911) (hy : -536870911 ≤ y ∧ y ≤ 536870911) : -288230376151711744 ≤ x * y ∧ x * y ≤ 288230376151711744 := by
  have h1 := Int.mul_le_mul (a := x.natAbs) (b := y.natAbs) (c := 536870912) (d := 536870912) (by omega) (by omega) (by omega) (by omega)
  have h2 : ((x * y).natAbs : Int) = x.natAbs * y.natAbs := by rw [Int.natAbs_mul]; rfl
  omega
/-- frustum/fixed.Mul -/
theorem c69 (a b : Int) : Fn Try.prog 69 [I a, I b] (.one (I (fmul a b))) := by
  refine fnI Try.func69 Try.ntmps69 fun hb => ?_
  have hm := mul_bd (sat_bd a) (sat_bd b)
  refine sg ?_
  refine as_ ?_
  refine rNil ?_
  refine sg ?_
  refine mv ?_
  refine cl (c35 _) ?_
  refine mv ?_
  refine cl (c35 _) ?_
  refine bo (hz := by first | exact bop_mul (by omega) (by omega) | exact rfl) ?_
  refine cl (c67 _ _) ?_
  refine cl (c35 _) ?_
  refine as_ ?_
  refine rNil ?_
  refine awp_ret ?_
  exact ⟨.inr rfl, _, (.cons (by first | exact .v (by ((repeat apply Look.there rfl); exact Look.here)) (.f (.v _)) | exact .v (by ((repeat apply Look.there rfl); exact Look.here)) (.row rfl rfl) | exact .v (by ((repeat apply Look.there rfl); exact Look.here)) (.f .nil) | exact .a (by ((repeat apply Look.there rfl); exact Look.here)) | skip) .nil), rfl⟩ -- LEAF 1: ret

/-- frustum/frustumref01.Mul -/
theorem c77 (a b : Int) : Fn Try.prog 77 [I a, I b] (.one (I (fmul a b))) := by
  refine fnI Try.func77 Try.ntmps77 fun hb => ?_
  have hm := mul_bd (sat_bd a) (sat_bd b)
  refine sg ?_
  refine as_ ?_
  refine rNil ?_
  refine sg ?_
  refine mv ?_
  refine cl (c46 _) ?_
  refine mv ?_
  refine cl (c46 _) ?_
  refine bo (hz := by first | exact bop_mul (by omega) (by omega) | exact rfl) ?_
  refine cl (c75 _ _) ?_
  refine cl (c46 _) ?_
  refine as_ ?_
  refine rNil ?_
  refine awp_ret ?_
  exact ⟨.inr rfl, _, (.cons (by first | exact .v (by ((repeat apply Look.there rfl); exact Look.here)) (.f (.v _)) | exact .v (by ((repeat apply Look.there rfl); exact Look.here)) (.row rfl rfl) | exact .v (by ((repeat apply Look.there rfl); exact Look.here)) (.f .nil) | exact .a (by ((repeat apply Look.there rfl); exact Look.here)) | skip) .nil), rfl⟩ -- LEAF 1: ret

def ratio (n d : Int) : Int := if d < 1 ∨ 4611686018427387904 < d ∨ n < 1 then 0 else if d ≤ n then 65536 else if d < 70368744177664 then rdiv (n * 65536) d else mn 65536 (rdiv n (rdiv d 65536))
/-- frustum/fixed.Ratio -/
theorem c119 (n d : Int) : Fn Try.prog 119 [I n, I d] (.one (I (ratio n d))) := by
  refine fnI Try.func119 Try.ntmps119 fun hb => ?_
  refine sg ?_
  refine as_ ?_
  refine rNil ?_
  refine sq ?_
  refine bk ?_
  refine sg ?_
  refine mv ?_
  refine bo (hz := by exact rfl) ?_
  refine mv ?_
  refine gd (fun h1 => ?_) (fun h1 => ?_)
  ·
    refine no ?_
    refine no ?_
    refine pkT ?_
    refine mv ?_
    refine no ?_
    refine no ?_
    refine pkT ?_
    refine as_ ?_
    refine rNil ?_
    refine cn (fun h2 => ?_) (fun h2 => ?_)
    ·
      refine sg ?_
      refine as_ ?_
      refine rNil ?_
      refine awp_ret ?_
      refine br ?_
      refine tr ?_
      exact ⟨.inr rfl, _, (.cons (by first | exact .v (by ((repeat apply Look.there rfl); exact Look.here)) (.f (.v _)) | exact .v (by ((repeat apply Look.there rfl); exact Look.here)) (.row rfl rfl) | exact .v (by ((repeat apply Look.there rfl); exact Look.here)) (.f .nil) | exact .a (by ((repeat apply Look.there rfl); exact Look.here)) | skip) .nil), oneI (by simp only [decide_eq_true_eq, decide_eq_false_iff_not] at *; rw [ratio]; repeat (first | omega | rfl | split))⟩ -- LEAF 1: ret
    ·
      exact absurd h2 (by decide)
  ·
    refine mv ?_
    refine bo (hz := by exact rfl) ?_
    refine pkF ?_
    refine mv ?_
    refine gd (fun h3 => ?_) (fun h3 => ?_)
    ·
      refine no ?_
      refine no ?_
      refine pkT ?_
      refine as_ ?_
      refine rNil ?_
      refine cn (fun h4 => ?_) (fun h4 => ?_)
      ·
        refine sg ?_
        refine as_ ?_
        refine rNil ?_
        refine awp_ret ?_
        refine br ?_
        refine tr ?_
        exact ⟨.inr rfl, _, (.cons (by first | exact .v (by ((repeat apply Look.there rfl); exact Look.here)) (.f (.v _)) | exact .v (by ((repeat apply Look.there rfl); exact Look.here)) (.row rfl rfl) | exact .v (by ((repeat apply Look.there rfl); exact Look.here)) (.f .nil) | exact .a (by ((repeat apply Look.there rfl); exact Look.here)) | skip) .nil), oneI (by simp only [decide_eq_true_eq, decide_eq_false_iff_not] at *; rw [ratio]; repeat (first | omega | rfl | split))⟩ -- LEAF 2: ret
      ·
        exact absurd h4 (by decide)
    ·
      refine mv ?_
      refine bo (hz := by exact rfl) ?_
      refine pkF ?_
      refine as_ ?_
      refine rNil ?_
      refine cn (fun h5 => ?_) (fun h5 => ?_)
      ·
        refine sg ?_
        refine as_ ?_
        refine rNil ?_
        refine awp_ret ?_
        refine br ?_
        refine tr ?_
        exact ⟨.inr rfl, _, (.cons (by first | exact .v (by ((repeat apply Look.there rfl); exact Look.here)) (.f (.v _)) | exact .v (by ((repeat apply Look.there rfl); exact Look.here)) (.row rfl rfl) | exact .v (by ((repeat apply Look.there rfl); exact Look.here)) (.f .nil) | exact .a (by ((repeat apply Look.there rfl); exact Look.here)) | skip) .nil), oneI (by simp only [decide_eq_true_eq, decide_eq_false_iff_not] at *; rw [ratio]; repeat (first | omega | rfl | split))⟩ -- LEAF 3: ret
      ·
        refine sg ?_
        refine mv ?_
        refine mv ?_
        refine bo (hz := by exact rfl) ?_
        refine as_ ?_
        refine rNil ?_
        refine cn (fun h6 => ?_) (fun h6 => ?_)
        ·
          refine sg ?_
          refine as_ ?_
          refine rNil ?_
          refine awp_ret ?_
          refine br ?_
          refine tr ?_
          exact ⟨.inr rfl, _, (.cons (by first | exact .v (by ((repeat apply Look.there rfl); exact Look.here)) (.f (.v _)) | exact .v (by ((repeat apply Look.there rfl); exact Look.here)) (.row rfl rfl) | exact .v (by ((repeat apply Look.there rfl); exact Look.here)) (.f .nil) | exact .a (by ((repeat apply Look.there rfl); exact Look.here)) | skip) .nil), oneI (by simp only [decide_eq_true_eq, decide_eq_false_iff_not] at *; rw [ratio]; repeat (first | omega | rfl | split))⟩ -- LEAF 4: ret
        ·
          refine sg ?_
          refine mv ?_
          refine bo (hz := by exact rfl) ?_
          refine as_ ?_
          refine rNil ?_
          refine cn (fun h7 => ?_) (fun h7 => ?_)
          ·
            have q1 : 1 ≤ n := by simpa using h5
            have q2 : n < d := by simpa using h6
            have q3 : d < 70368744177664 := by simpa using h7
            refine sg ?_
            refine mv ?_
            refine bo (hz := by first | exact bop_mul (by omega) (by omega) | exact rfl) ?_
            refine mv ?_
            refine cl (c67 _ _) ?_
            refine as_ ?_
            refine rNil ?_
            refine awp_ret ?_
            refine br ?_
            refine tr ?_
            exact ⟨.inr rfl, _, (.cons (by first | exact .v (by ((repeat apply Look.there rfl); exact Look.here)) (.f (.v _)) | exact .v (by ((repeat apply Look.there rfl); exact Look.here)) (.row rfl rfl) | exact .v (by ((repeat apply Look.there rfl); exact Look.here)) (.f .nil) | exact .a (by ((repeat apply Look.there rfl); exact Look.here)) | skip) .nil), oneI (by simp only [decide_eq_true_eq, decide_eq_false_iff_not] at *; rw [ratio]; repeat (first | omega | rfl | split))⟩ -- LEAF 5: ret
          ·
            refine awp_skip ?_
            refine bn_ ?_
            refine tn ?_
            refine sg ?_
            refine mv ?_
            refine mv ?_
            refine cl (c67 _ _) ?_
            refine cl (c67 _ _) ?_
            refine mn2 ?_
            refine as_ ?_
            refine rNil ?_
            refine awp_ret ?_
            exact ⟨.inr rfl, _, (.cons (by first | exact .v (by ((repeat apply Look.there rfl); exact Look.here)) (.f (.v _)) | exact .v (by ((repeat apply Look.there rfl); exact Look.here)) (.row rfl rfl) | exact .v (by ((repeat apply Look.there rfl); exact Look.here)) (.f .nil) | exact .a (by ((repeat apply Look.there rfl); exact Look.here)) | skip) .nil), oneI (by simp only [decide_eq_true_eq, decide_eq_false_iff_not] at *; rw [ratio]; repeat (first | omega | rfl | split))⟩ -- LEAF 6: ret

/-- frustum/frustumref01.Ratio -/
theorem c123 (n d : Int) : Fn Try.prog 123 [I n, I d] (.one (I (ratio n d))) := by
  refine fnI Try.func123 Try.ntmps123 fun hb => ?_
  refine sg ?_
  refine as_ ?_
  refine rNil ?_
  refine sq ?_
  refine sg ?_
  refine mv ?_
  refine bo (hz := by exact rfl) ?_
  refine mv ?_
  refine gd (fun h1 => ?_) (fun h1 => ?_)
  ·
    refine no ?_
    refine no ?_
    refine pkT ?_
    refine mv ?_
    refine no ?_
    refine no ?_
    refine pkT ?_
    refine rNil ?_
    refine cn (fun h2 => ?_) (fun h2 => ?_)
    ·
      refine sg ?_
      refine as_ ?_
      refine rNil ?_
      refine awp_ret ?_
      refine tr ?_
      exact ⟨.inr rfl, _, (.cons (by first | exact .v (by ((repeat apply Look.there rfl); exact Look.here)) (.f (.v _)) | exact .v (by ((repeat apply Look.there rfl); exact Look.here)) (.row rfl rfl) | exact .v (by ((repeat apply Look.there rfl); exact Look.here)) (.f .nil) | exact .a (by ((repeat apply Look.there rfl); exact Look.here)) | skip) .nil), oneI (by simp only [decide_eq_true_eq, decide_eq_false_iff_not] at *; rw [ratio]; simp only [mn]; repeat (first | omega | rfl | split))⟩ -- LEAF 1: ret
    ·
      exact absurd h2 (by decide)
  ·
    refine mv ?_
    refine bo (hz := by exact rfl) ?_
    refine pkF ?_
    refine mv ?_
    refine gd (fun h3 => ?_) (fun h3 => ?_)
    ·
      refine no ?_
      refine no ?_
      refine pkT ?_
      refine rNil ?_
      refine cn (fun h4 => ?_) (fun h4 => ?_)
      ·
        refine sg ?_
        refine as_ ?_
        refine rNil ?_
        refine awp_ret ?_
        refine tr ?_
        exact ⟨.inr rfl, _, (.cons (by first | exact .v (by ((repeat apply Look.there rfl); exact Look.here)) (.f (.v _)) | exact .v (by ((repeat apply Look.there rfl); exact Look.here)) (.row rfl rfl) | exact .v (by ((repeat apply Look.there rfl); exact Look.here)) (.f .nil) | exact .a (by ((repeat apply Look.there rfl); exact Look.here)) | skip) .nil), oneI (by simp only [decide_eq_true_eq, decide_eq_false_iff_not] at *; rw [ratio]; simp only [mn]; repeat (first | omega | rfl | split))⟩ -- LEAF 2: ret
      ·
        exact absurd h4 (by decide)
    ·
      refine mv ?_
      refine bo (hz := by exact rfl) ?_
      refine pkF ?_
      refine rNil ?_
      refine cn (fun h5 => ?_) (fun h5 => ?_)
      ·
        refine sg ?_
        refine as_ ?_
        refine rNil ?_
        refine awp_ret ?_
        refine tr ?_
        exact ⟨.inr rfl, _, (.cons (by first | exact .v (by ((repeat apply Look.there rfl); exact Look.here)) (.f (.v _)) | exact .v (by ((repeat apply Look.there rfl); exact Look.here)) (.row rfl rfl) | exact .v (by ((repeat apply Look.there rfl); exact Look.here)) (.f .nil) | exact .a (by ((repeat apply Look.there rfl); exact Look.here)) | skip) .nil), oneI (by simp only [decide_eq_true_eq, decide_eq_false_iff_not] at *; rw [ratio]; simp only [mn]; repeat (first | omega | rfl | split))⟩ -- LEAF 3: ret
      ·
        refine awp_skip ?_
        refine tn ?_
        refine sq ?_
        refine sg ?_
        refine mv ?_
        refine mv ?_
        refine bo (hz := by exact rfl) ?_
        refine rNil ?_
        refine cn (fun h6 => ?_) (fun h6 => ?_)
        ·
          refine sg ?_
          refine as_ ?_
          refine rNil ?_
          refine awp_ret ?_
          refine tr ?_
          exact ⟨.inr rfl, _, (.cons (by first | exact .v (by ((repeat apply Look.there rfl); exact Look.here)) (.f (.v _)) | exact .v (by ((repeat apply Look.there rfl); exact Look.here)) (.row rfl rfl) | exact .v (by ((repeat apply Look.there rfl); exact Look.here)) (.f .nil) | exact .a (by ((repeat apply Look.there rfl); exact Look.here)) | skip) .nil), oneI (by simp only [decide_eq_true_eq, decide_eq_false_iff_not] at *; rw [ratio]; simp only [mn]; repeat (first | omega | rfl | split))⟩ -- LEAF 4: ret
        ·
          refine awp_skip ?_
          refine tn ?_
          refine sq ?_
          refine sg ?_
          refine mv ?_
          refine bo (hz := by exact rfl) ?_
          refine rNil ?_
          refine cn (fun h7 => ?_) (fun h7 => ?_)
          ·
            have q1 : 1 ≤ n := by simpa using h5
            have q2 : n < d := by simpa using h6
            have q3 : d < 70368744177664 := by simpa using h7
            refine sg ?_
            refine mv ?_
            refine bo (hz := by first | exact bop_mul (by omega) (by omega) | exact rfl) ?_
            refine mv ?_
            refine cl (c75 _ _) ?_
            refine as_ ?_
            refine rNil ?_
            refine awp_ret ?_
            refine tr ?_
            exact ⟨.inr rfl, _, (.cons (by first | exact .v (by ((repeat apply Look.there rfl); exact Look.here)) (.f (.v _)) | exact .v (by ((repeat apply Look.there rfl); exact Look.here)) (.row rfl rfl) | exact .v (by ((repeat apply Look.there rfl); exact Look.here)) (.f .nil) | exact .a (by ((repeat apply Look.there rfl); exact Look.here)) | skip) .nil), oneI (by simp only [decide_eq_true_eq, decide_eq_false_iff_not] at *; rw [ratio]; simp only [mn]; repeat (first | omega | rfl | split))⟩ -- LEAF 5: ret
          ·
            refine awp_skip ?_
            refine tn ?_
            refine sg ?_
            refine mv ?_
            refine mv ?_
            refine cl (c75 _ _) ?_
            refine cl (c75 _ _) ?_
            refine as_ ?_
            refine rNil ?_
            refine sq ?_
            refine sg ?_
            refine mv ?_
            refine bo (hz := by exact rfl) ?_
            refine rNil ?_
            refine cn (fun h8 => ?_) (fun h8 => ?_)
            ·
              refine sg ?_
              refine as_ ?_
              refine rNil ?_
              refine awp_ret ?_
              refine tr ?_
              exact ⟨.inr rfl, _, (.cons (by first | exact .v (by ((repeat apply Look.there rfl); exact Look.here)) (.f (.v _)) | exact .v (by ((repeat apply Look.there rfl); exact Look.here)) (.row rfl rfl) | exact .v (by ((repeat apply Look.there rfl); exact Look.here)) (.f .nil) | exact .a (by ((repeat apply Look.there rfl); exact Look.here)) | skip) .nil), oneI (by simp only [decide_eq_true_eq, decide_eq_false_iff_not] at *; rw [ratio]; simp only [mn]; repeat (first | omega | rfl | split))⟩ -- LEAF 6: ret
            ·
              refine awp_skip ?_
              refine tn ?_
              refine sg ?_
              refine mv ?_
              refine as_ ?_
              refine rNil ?_
              refine awp_ret ?_
              exact ⟨.inr rfl, _, (.cons (by first | exact .v (by ((repeat apply Look.there rfl); exact Look.here)) (.f (.v _)) | exact .v (by ((repeat apply Look.there rfl); exact Look.here)) (.row rfl rfl) | exact .v (by ((repeat apply Look.there rfl); exact Look.here)) (.f .nil) | exact .a (by ((repeat apply Look.there rfl); exact Look.here)) | skip) .nil), oneI (by simp only [decide_eq_true_eq, decide_eq_false_iff_not] at *; rw [ratio]; simp only [mn]; repeat (first | omega | rfl | split))⟩ -- LEAF 7: ret

end Go.Proofs.Ytlmecogidnbpjaa.VS
