/- The walks of functions: what each computes, by itself. Conditions: none. -/
import Derived.Test.YtlaaigljlhkdpaaF1
set_option linter.unusedVariables false
set_option linter.unusedSimpArgs false
namespace Go.Proofs.Ytlaaigljlhkdpaa.VS
open Go
def rdn (n d : Int) : Int := (2 * n + d) / (2 * d)
def rdiv (n d : Int) : Int := if 1 ≤ d ∧ d ≤ 4611686018427387904 ∧ -4611686018427387904 ≤ n ∧ n ≤ 4611686018427387904 then (if n < 0 then -rdn (-n) d else rdn n d) else 0
theorem rdn_bd {n d : Int} (h0 : 0 ≤ n) (hd : 1 ≤ d) : 0 ≤ rdn n d ∧ rdn n d ≤ n + 1 := by
  unfold rdn
  refine ⟨Int.ediv_nonneg (by omega) (by omega), ?_⟩
  have h1 : n * 1 ≤ n * d := Int.mul_le_mul_of_nonneg_left hd h0
  have h2 : (2 * n + d) < (n + 1 + 1) * (2 * d) := by
    have e : (n + 1 + 1) * (2 * d) = 2 * (n * d) + 4 * d := by
      rw [Int.add_mul, Int.add_mul, Int.one_mul, Int.mul_left_comm]; omega
    omega
  have h3 := Int.ediv_lt_of_lt_mul (show (0:Int) < 2 * d by omega) h2
  omega
theorem rdn_eq {n d : Int} (h0 : 0 ≤ n) (hd : 1 ≤ d) : rdn n d = if n % d ≥ d - n % d then n / d + 1 else n / d := by
  have h1 := Int.emod_nonneg n (show d ≠ 0 by omega)
  have h2 := Int.emod_lt_of_pos n (show 0 < d by omega)
  have h3 := Int.emod_add_mul_ediv n d
  have e : 2 * n + d = (2 * (n % d) + d) + (2 * d) * (n / d) := by
    rw [Int.mul_assoc]; omega
  rw [rdn, e, Int.add_mul_ediv_left _ _ (show 2 * d ≠ 0 by omega)]
  split
  · have e2 : 2 * (n % d) + d = (2 * (n % d) + d - 2 * d) + (2 * d) * 1 := by omega
    rw [e2, Int.add_mul_ediv_left _ _ (show 2 * d ≠ 0 by omega), Int.ediv_eq_zero_of_lt (by omega) (by omega)]; omega
  · rw [Int.ediv_eq_zero_of_lt (by omega) (by omega)]; omega
theorem rdiv_bd (n d : Int) : -4611686018427387905 ≤ rdiv n d ∧ rdiv n d ≤ 4611686018427387905 := by
  unfold rdiv
  split
  · split
    · have := rdn_bd (n := -n) (d := d) (by omega) (by omega); omega
    · have := rdn_bd (n := n) (d := d) (by omega) (by omega); omega
  · omega
theorem rdiv_pos {n d : Int} (h0 : 0 ≤ n) (hn : n ≤ 4611686018427387904) (h1 : 1 ≤ d) (h2 : d ≤ 4611686018427387904) : rdiv n d = rdn n d := by
  rw [rdiv, if_pos (by omega), if_neg (by omega)]
theorem rdiv_neg {n d : Int} (h0 : n < 0) (hn : -4611686018427387904 ≤ n) (h1 : 1 ≤ d) (h2 : d ≤ 4611686018427387904) : rdiv n d = -rdiv (-n) d := by
  rw [rdiv_pos (n := -n) (by omega) (by omega) h1 h2, rdiv, if_pos (by omega), if_pos h0]
/-- frustum/fixed.RoundDiv -/
theorem c80g (n d : Int) (hrec : n < 0 → Fn Try.prog 80 [I (-n), I d] (.one (I (rdiv (-n) d)))) : Fn Try.prog 80 [I n, I d] (.one (I (rdiv n d))) := by
  refine fnI Try.func80 Try.ntmps80 fun hb => ?_
  refine sg ?_
  refine as_ ?_
  refine rNil ?_
  refine sq ?_
  refine sg ?_
  refine mv ?_
  refine bo ?_
  refine mv ?_
  refine gd (fun h1 => ?_) (fun h1 => ?_)
  ·
    refine no ?_
    refine no ?_
    refine pkT ?_
    refine mv ?_
    refine no ?_
    refine no ?_
    refine pkT ?_
    refine mv ?_
    refine no ?_
    refine no ?_
    refine pkT ?_
    refine rNil ?_
    refine cn (fun h2 => ?_) (fun h2 => ?_)
    ·
      refine sg ?_
      refine as_ ?_
      refine rNil ?_
      refine awp_ret ?_
      refine tr ?_
      exact ⟨.inr rfl, _, (.cons (by first | exact .v (by ((repeat apply Look.there rfl); exact Look.here)) (.f (.v _)) | exact .v (by ((repeat apply Look.there rfl); exact Look.here)) (.row rfl rfl) | exact .v (by ((repeat apply Look.there rfl); exact Look.here)) (.f .nil) | exact .a (by ((repeat apply Look.there rfl); exact Look.here)) | skip) .nil), oneI (by rw [rdiv, if_neg]; simp only [decide_eq_true_eq] at *; omega)⟩ -- LEAF 1: ret
    ·
      exact absurd h2 (by decide)
  ·
    refine mv ?_
    refine bo ?_
    refine pkF ?_
    refine mv ?_
    refine gd (fun h3 => ?_) (fun h3 => ?_)
    ·
      refine no ?_
      refine no ?_
      refine pkT ?_
      refine mv ?_
      refine no ?_
      refine no ?_
      refine pkT ?_
      refine rNil ?_
      refine cn (fun h4 => ?_) (fun h4 => ?_)
      ·
        refine sg ?_
        refine as_ ?_
        refine rNil ?_
        refine awp_ret ?_
        refine tr ?_
        exact ⟨.inr rfl, _, (.cons (by first | exact .v (by ((repeat apply Look.there rfl); exact Look.here)) (.f (.v _)) | exact .v (by ((repeat apply Look.there rfl); exact Look.here)) (.row rfl rfl) | exact .v (by ((repeat apply Look.there rfl); exact Look.here)) (.f .nil) | exact .a (by ((repeat apply Look.there rfl); exact Look.here)) | skip) .nil), oneI (by rw [rdiv, if_neg]; simp only [decide_eq_true_eq] at *; omega)⟩ -- LEAF 2: ret
      ·
        exact absurd h4 (by decide)
    ·
      refine mv ?_
      refine bo ?_
      refine pkF ?_
      refine mv ?_
      refine gd (fun h5 => ?_) (fun h5 => ?_)
      ·
        refine no ?_
        refine no ?_
        refine pkT ?_
        refine rNil ?_
        refine cn (fun h6 => ?_) (fun h6 => ?_)
        ·
          refine sg ?_
          refine as_ ?_
          refine rNil ?_
          refine awp_ret ?_
          refine tr ?_
          exact ⟨.inr rfl, _, (.cons (by first | exact .v (by ((repeat apply Look.there rfl); exact Look.here)) (.f (.v _)) | exact .v (by ((repeat apply Look.there rfl); exact Look.here)) (.row rfl rfl) | exact .v (by ((repeat apply Look.there rfl); exact Look.here)) (.f .nil) | exact .a (by ((repeat apply Look.there rfl); exact Look.here)) | skip) .nil), oneI (by rw [rdiv, if_neg]; simp only [decide_eq_true_eq] at *; omega)⟩ -- LEAF 3: ret
        ·
          exact absurd h6 (by decide)
      ·
        refine mv ?_
        refine bo ?_
        refine pkF ?_
        refine rNil ?_
        refine cn (fun h7 => ?_) (fun h7 => ?_)
        ·
          refine sg ?_
          refine as_ ?_
          refine rNil ?_
          refine awp_ret ?_
          refine tr ?_
          exact ⟨.inr rfl, _, (.cons (by first | exact .v (by ((repeat apply Look.there rfl); exact Look.here)) (.f (.v _)) | exact .v (by ((repeat apply Look.there rfl); exact Look.here)) (.row rfl rfl) | exact .v (by ((repeat apply Look.there rfl); exact Look.here)) (.f .nil) | exact .a (by ((repeat apply Look.there rfl); exact Look.here)) | skip) .nil), oneI (by rw [rdiv, if_neg]; simp only [decide_eq_true_eq] at *; omega)⟩ -- LEAF 4: ret
        ·
          have g1 : 1 ≤ d := by simpa using h1
          have g2 : d ≤ 4611686018427387904 := by simpa using h3
          have g3 : -4611686018427387904 ≤ n := by simpa using h5
          have g4 : n ≤ 4611686018427387904 := by simpa using h7
          refine awp_skip ?_
          refine tn ?_
          refine sq ?_
          refine sg ?_
          refine mv ?_
          refine bo ?_
          refine rNil ?_
          refine cn (fun h8 => ?_) (fun h8 => ?_)
          ·
            have g5 : n < 0 := by simpa using h8
            have g6 := rdiv_bd (-n) d
            refine sg ?_
            refine mv ?_
            refine ng ?_
            refine mv ?_
            refine cl (hrec g5) ?_
            refine ng ?_
            refine as_ ?_
            refine rNil ?_
            refine awp_ret ?_
            refine tr ?_
            exact ⟨.inr rfl, _, (.cons (by first | exact .v (by ((repeat apply Look.there rfl); exact Look.here)) (.f (.v _)) | exact .v (by ((repeat apply Look.there rfl); exact Look.here)) (.row rfl rfl) | exact .v (by ((repeat apply Look.there rfl); exact Look.here)) (.f .nil) | exact .a (by ((repeat apply Look.there rfl); exact Look.here)) | skip) .nil), oneI (rdiv_neg g5 g3 g1 g2).symm⟩ -- LEAF 5: ret
          ·
            have g5 : 0 ≤ n := by simpa using h8
            have g6 : 0 ≤ (2 * n + d) / (2 * d) ∧ (2 * n + d) / (2 * d) ≤ n + 1 := rdn_bd g5 g1
            refine awp_skip ?_
            refine tn ?_
            refine sg ?_
            refine mv ?_
            refine cv ?_
            refine bo ?_
            refine mv ?_
            refine cv ?_
            refine bo ?_
            refine mv ?_
            refine cv ?_
            refine bo ?_
            refine bo ?_
            refine cv ?_
            refine as_ ?_
            refine rNil ?_
            refine awp_ret ?_
            exact ⟨.inr rfl, _, (.cons (by first | exact .v (by ((repeat apply Look.there rfl); exact Look.here)) (.f (.v _)) | exact .v (by ((repeat apply Look.there rfl); exact Look.here)) (.row rfl rfl) | exact .v (by ((repeat apply Look.there rfl); exact Look.here)) (.f .nil) | exact .a (by ((repeat apply Look.there rfl); exact Look.here)) | skip) .nil), oneI (rdiv_pos g5 g4 g1 g2).symm⟩ -- LEAF 6: ret

theorem c80 (n d : Int) : Fn Try.prog 80 [I n, I d] (.one (I (rdiv n d))) :=
  c80g n d fun h => c80g (-n) d fun h' => by omega
/-- frustum/frustumref01.RoundDiv -/
theorem c89g (n d : Int) (hrec : n < 0 → Fn Try.prog 89 [I (-n), I d] (.one (I (rdiv (-n) d)))) : Fn Try.prog 89 [I n, I d] (.one (I (rdiv n d))) := by
  refine fnI Try.func89 Try.ntmps89 fun hb => ?_
  refine sg ?_
  refine as_ ?_
  refine rNil ?_
  refine sq ?_
  refine sg ?_
  refine mv ?_
  refine bo ?_
  refine mv ?_
  refine gd (fun h1 => ?_) (fun h1 => ?_)
  ·
    refine no ?_
    refine no ?_
    refine pkT ?_
    refine mv ?_
    refine no ?_
    refine no ?_
    refine pkT ?_
    refine mv ?_
    refine no ?_
    refine no ?_
    refine pkT ?_
    refine rNil ?_
    refine cn (fun h2 => ?_) (fun h2 => ?_)
    ·
      refine sg ?_
      refine as_ ?_
      refine rNil ?_
      refine awp_ret ?_
      refine tr ?_
      exact ⟨.inr rfl, _, (.cons (by first | exact .v (by ((repeat apply Look.there rfl); exact Look.here)) (.f (.v _)) | exact .v (by ((repeat apply Look.there rfl); exact Look.here)) (.row rfl rfl) | exact .v (by ((repeat apply Look.there rfl); exact Look.here)) (.f .nil) | exact .a (by ((repeat apply Look.there rfl); exact Look.here)) | skip) .nil), oneI (by rw [rdiv, if_neg]; simp only [decide_eq_true_eq] at *; omega)⟩ -- LEAF 1: ret
    ·
      exact absurd h2 (by decide)
  ·
    refine mv ?_
    refine bo ?_
    refine pkF ?_
    refine mv ?_
    refine gd (fun h3 => ?_) (fun h3 => ?_)
    ·
      refine no ?_
      refine no ?_
      refine pkT ?_
      refine mv ?_
      refine no ?_
      refine no ?_
      refine pkT ?_
      refine rNil ?_
      refine cn (fun h4 => ?_) (fun h4 => ?_)
      ·
        refine sg ?_
        refine as_ ?_
        refine rNil ?_
        refine awp_ret ?_
        refine tr ?_
        exact ⟨.inr rfl, _, (.cons (by first | exact .v (by ((repeat apply Look.there rfl); exact Look.here)) (.f (.v _)) | exact .v (by ((repeat apply Look.there rfl); exact Look.here)) (.row rfl rfl) | exact .v (by ((repeat apply Look.there rfl); exact Look.here)) (.f .nil) | exact .a (by ((repeat apply Look.there rfl); exact Look.here)) | skip) .nil), oneI (by rw [rdiv, if_neg]; simp only [decide_eq_true_eq] at *; omega)⟩ -- LEAF 2: ret
      ·
        exact absurd h4 (by decide)
    ·
      refine mv ?_
      refine bo ?_
      refine pkF ?_
      refine mv ?_
      refine gd (fun h5 => ?_) (fun h5 => ?_)
      ·
        refine no ?_
        refine no ?_
        refine pkT ?_
        refine rNil ?_
        refine cn (fun h6 => ?_) (fun h6 => ?_)
        ·
          refine sg ?_
          refine as_ ?_
          refine rNil ?_
          refine awp_ret ?_
          refine tr ?_
          exact ⟨.inr rfl, _, (.cons (by first | exact .v (by ((repeat apply Look.there rfl); exact Look.here)) (.f (.v _)) | exact .v (by ((repeat apply Look.there rfl); exact Look.here)) (.row rfl rfl) | exact .v (by ((repeat apply Look.there rfl); exact Look.here)) (.f .nil) | exact .a (by ((repeat apply Look.there rfl); exact Look.here)) | skip) .nil), oneI (by rw [rdiv, if_neg]; simp only [decide_eq_true_eq] at *; omega)⟩ -- LEAF 3: ret
        ·
          exact absurd h6 (by decide)
      ·
        refine mv ?_
        refine bo ?_
        refine pkF ?_
        refine rNil ?_
        refine cn (fun h7 => ?_) (fun h7 => ?_)
        ·
          refine sg ?_
          refine as_ ?_
          refine rNil ?_
          refine awp_ret ?_
          refine tr ?_
          exact ⟨.inr rfl, _, (.cons (by first | exact .v (by ((repeat apply Look.there rfl); exact Look.here)) (.f (.v _)) | exact .v (by ((repeat apply Look.there rfl); exact Look.here)) (.row rfl rfl) | exact .v (by ((repeat apply Look.there rfl); exact Look.here)) (.f .nil) | exact .a (by ((repeat apply Look.there rfl); exact Look.here)) | skip) .nil), oneI (by rw [rdiv, if_neg]; simp only [decide_eq_true_eq] at *; omega)⟩ -- LEAF 4: ret
        ·
          have g1 : 1 ≤ d := by simpa using h1
          have g2 : d ≤ 4611686018427387904 := by simpa using h3
          have g3 : -4611686018427387904 ≤ n := by simpa using h5
          have g4 : n ≤ 4611686018427387904 := by simpa using h7
          refine awp_skip ?_
          refine tn ?_
          refine sq ?_
          refine sg ?_
          refine mv ?_
          refine bo ?_
          refine rNil ?_
          refine cn (fun h8 => ?_) (fun h8 => ?_)
          ·
            have g5 : n < 0 := by simpa using h8
            have g6 := rdiv_bd (-n) d
            refine sg ?_
            refine mv ?_
            refine ng ?_
            refine mv ?_
            refine cl (hrec g5) ?_
            refine ng ?_
            refine as_ ?_
            refine rNil ?_
            refine awp_ret ?_
            refine tr ?_
            exact ⟨.inr rfl, _, (.cons (by first | exact .v (by ((repeat apply Look.there rfl); exact Look.here)) (.f (.v _)) | exact .v (by ((repeat apply Look.there rfl); exact Look.here)) (.row rfl rfl) | exact .v (by ((repeat apply Look.there rfl); exact Look.here)) (.f .nil) | exact .a (by ((repeat apply Look.there rfl); exact Look.here)) | skip) .nil), oneI (rdiv_neg g5 g3 g1 g2).symm⟩ -- LEAF 5: ret
          ·
            have g5 : 0 ≤ n := by simpa using h8
            have g6 := rdn_eq g5 g1
            have g7 := Int.emod_nonneg n (show d ≠ 0 by omega)
            have g8 := Int.emod_lt_of_pos n (show 0 < d by omega)
            have g9 := rdn_bd g5 g1
            have g10 := Int.ediv_le_self d g5
            have g11 := Int.ediv_nonneg g5 (show 0 ≤ d by omega)
            refine awp_skip ?_
            refine tn ?_
            refine sd mixO ?_
            refine mv ?_
            refine mv ?_
            refine bo ?_
            refine mv ?_
            refine mv ?_
            refine bo ?_
            refine as_ ?_
            refine as_ ?_
            refine rNil ⟨rfl, ?_⟩
            refine sq ?_
            refine sg ?_
            refine mv ?_
            refine mv ?_
            refine mv ?_
            refine bo ?_
            refine bo ?_
            refine rNil ?_
            refine cn (fun h9 => ?_) (fun h9 => ?_)
            ·
              refine sg ?_
              refine mv ?_
              refine bo ?_
              refine as_ ?_
              refine rNil ?_
              refine awp_ret ?_
              refine tr ?_
              exact ⟨.inr rfl, _, (.cons (by first | exact .v (by ((repeat apply Look.there rfl); exact Look.here)) (.f (.v _)) | exact .v (by ((repeat apply Look.there rfl); exact Look.here)) (.row rfl rfl) | exact .v (by ((repeat apply Look.there rfl); exact Look.here)) (.f .nil) | exact .a (by ((repeat apply Look.there rfl); exact Look.here)) | skip) .nil), oneI (by rw [rdiv_pos g5 g4 g1 g2, g6, if_pos (by simpa using h9)])⟩ -- LEAF 6: ret
            ·
              refine awp_skip ?_
              refine tn ?_
              refine sg ?_
              refine mv ?_
              refine as_ ?_
              refine rNil ?_
              refine awp_ret ?_
              exact ⟨.inr rfl, _, (.cons (by first | exact .v (by ((repeat apply Look.there rfl); exact Look.here)) (.f (.v _)) | exact .v (by ((repeat apply Look.there rfl); exact Look.here)) (.row rfl rfl) | exact .v (by ((repeat apply Look.there rfl); exact Look.here)) (.f .nil) | exact .a (by ((repeat apply Look.there rfl); exact Look.here)) | skip) .nil), oneI (by rw [rdiv_pos g5 g4 g1 g2, g6, if_neg (by simpa using h9)])⟩ -- LEAF 7: ret

theorem c89 (n d : Int) : Fn Try.prog 89 [I n, I d] (.one (I (rdiv n d))) :=
  c89g n d fun h => c89g (-n) d fun h' => by omega
def fmul (a b : Int) : Int := sat (rdiv (sat a * sat b) 65536)
theorem mul_bd {x y : Int} (hx : -536870911 ≤ x ∧ x ≤ 536870911) (hy : -536870911 ≤ y ∧ y ≤ 536870911) : -288230376151711744 ≤ x * y ∧ x * y ≤ 288230376151711744 := by
  have h1 := Int.mul_le_mul (a := x.natAbs) (b := y.natAbs) (c := 536870912) (d := 536870912) (by omega) (by omega) (by omega) (by omega)
  have h2 : ((x * y).natAbs : Int) = x.natAbs * y.natAbs := by rw [Int.natAbs_mul]; rfl
  omega
/-- frustum/fixed.Mul -/
theorem c60 (a b : Int) : Fn Try.prog 60 [I a, I b] (.one (I (fmul a b))) := by
  refine fnI Try.func60 Try.ntmps60 fun hb => ?_
  have hm := mul_bd (sat_bd a) (sat_bd b)
  refine sg ?_
  refine as_ ?_
  refine rNil ?_
  refine sg ?_
  refine mv ?_
  refine cl (c78 _) ?_
  refine mv ?_
  refine cl (c78 _) ?_
  refine bo ?_
  refine cl (c80 _ _) ?_
  refine cl (c78 _) ?_
  refine as_ ?_
  refine rNil ?_
  refine awp_ret ?_
  exact ⟨.inr rfl, _, (.cons (by first | exact .v (by ((repeat apply Look.there rfl); exact Look.here)) (.f (.v _)) | exact .v (by ((repeat apply Look.there rfl); exact Look.here)) (.row rfl rfl) | exact .v (by ((repeat apply Look.there rfl); exact Look.here)) (.f .nil) | exact .a (by ((repeat apply Look.there rfl); exact Look.here)) | skip) .nil), rfl⟩ -- LEAF 1: ret

/-- frustum/frustumref01.Mul -/
theorem c74 (a b : Int) : Fn Try.prog 74 [I a, I b] (.one (I (fmul a b))) := by
  refine fnI Try.func74 Try.ntmps74 fun hb => ?_
  have hm := mul_bd (sat_bd a) (sat_bd b)
  refine sg ?_
  refine as_ ?_
  refine rNil ?_
  refine sg ?_
  refine mv ?_
  refine cl (c31 _) ?_
  refine mv ?_
  refine cl (c31 _) ?_
  refine bo ?_
  refine cl (c89 _ _) ?_
  refine cl (c31 _) ?_
  refine as_ ?_
  refine rNil ?_
  refine awp_ret ?_
  exact ⟨.inr rfl, _, (.cons (by first | exact .v (by ((repeat apply Look.there rfl); exact Look.here)) (.f (.v _)) | exact .v (by ((repeat apply Look.there rfl); exact Look.here)) (.row rfl rfl) | exact .v (by ((repeat apply Look.there rfl); exact Look.here)) (.f .nil) | exact .a (by ((repeat apply Look.there rfl); exact Look.here)) | skip) .nil), rfl⟩ -- LEAF 1: ret

def ratio (n d : Int) : Int := if d < 1 ∨ 4611686018427387904 < d ∨ n < 1 then 0 else if d ≤ n then 65536 else if d < 70368744177664 then rdiv (n * 65536) d else mn 65536 (rdiv n (rdiv d 65536))
/-- frustum/fixed.Ratio -/
theorem c81 (n d : Int) : Fn Try.prog 81 [I n, I d] (.one (I (ratio n d))) := by
  refine fnI Try.func81 Try.ntmps81 fun hb => ?_
  refine sg ?_
  refine as_ ?_
  refine rNil ?_
  refine sq ?_
  refine bk ?_
  refine sg ?_
  refine mv ?_
  refine bo ?_
  refine mv ?_
  refine gd (fun h1 => ?_) (fun h1 => ?_)
  ·
    refine no ?_
    refine no ?_
    refine pkT ?_
    refine mv ?_
    refine no ?_
    refine no ?_
    refine pkT ?_
    refine as_ ?_
    refine rNil ?_
    refine cn (fun h2 => ?_) (fun h2 => ?_)
    ·
      refine sg ?_
      refine as_ ?_
      refine rNil ?_
      refine awp_ret ?_
      refine br ?_
      refine tr ?_
      exact ⟨.inr rfl, _, (.cons (by first | exact .v (by ((repeat apply Look.there rfl); exact Look.here)) (.f (.v _)) | exact .v (by ((repeat apply Look.there rfl); exact Look.here)) (.row rfl rfl) | exact .v (by ((repeat apply Look.there rfl); exact Look.here)) (.f .nil) | exact .a (by ((repeat apply Look.there rfl); exact Look.here)) | skip) .nil), oneI (by simp only [decide_eq_true_eq, decide_eq_false_iff_not] at *; rw [ratio]; repeat (first | omega | rfl | split))⟩ -- LEAF 1: ret
    ·
      exact absurd h2 (by decide)
  ·
    refine mv ?_
    refine bo ?_
    refine pkF ?_
    refine mv ?_
    refine gd (fun h3 => ?_) (fun h3 => ?_)
    ·
      refine no ?_
      refine no ?_
      refine pkT ?_
      refine as_ ?_
      refine rNil ?_
      refine cn (fun h4 => ?_) (fun h4 => ?_)
      ·
        refine sg ?_
        refine as_ ?_
        refine rNil ?_
        refine awp_ret ?_
        refine br ?_
        refine tr ?_
        exact ⟨.inr rfl, _, (.cons (by first | exact .v (by ((repeat apply Look.there rfl); exact Look.here)) (.f (.v _)) | exact .v (by ((repeat apply Look.there rfl); exact Look.here)) (.row rfl rfl) | exact .v (by ((repeat apply Look.there rfl); exact Look.here)) (.f .nil) | exact .a (by ((repeat apply Look.there rfl); exact Look.here)) | skip) .nil), oneI (by simp only [decide_eq_true_eq, decide_eq_false_iff_not] at *; rw [ratio]; repeat (first | omega | rfl | split))⟩ -- LEAF 2: ret
      ·
        exact absurd h4 (by decide)
    ·
      refine mv ?_
      refine bo ?_
      refine pkF ?_
      refine as_ ?_
      refine rNil ?_
      refine cn (fun h5 => ?_) (fun h5 => ?_)
      ·
        refine sg ?_
        refine as_ ?_
        refine rNil ?_
        refine awp_ret ?_
        refine br ?_
        refine tr ?_
        exact ⟨.inr rfl, _, (.cons (by first | exact .v (by ((repeat apply Look.there rfl); exact Look.here)) (.f (.v _)) | exact .v (by ((repeat apply Look.there rfl); exact Look.here)) (.row rfl rfl) | exact .v (by ((repeat apply Look.there rfl); exact Look.here)) (.f .nil) | exact .a (by ((repeat apply Look.there rfl); exact Look.here)) | skip) .nil), oneI (by simp only [decide_eq_true_eq, decide_eq_false_iff_not] at *; rw [ratio]; repeat (first | omega | rfl | split))⟩ -- LEAF 3: ret
      ·
        refine sg ?_
        refine mv ?_
        refine mv ?_
        refine bo ?_
        refine as_ ?_
        refine rNil ?_
        refine cn (fun h6 => ?_) (fun h6 => ?_)
        ·
          refine sg ?_
          refine as_ ?_
          refine rNil ?_
          refine awp_ret ?_
          refine br ?_
          refine tr ?_
          exact ⟨.inr rfl, _, (.cons (by first | exact .v (by ((repeat apply Look.there rfl); exact Look.here)) (.f (.v _)) | exact .v (by ((repeat apply Look.there rfl); exact Look.here)) (.row rfl rfl) | exact .v (by ((repeat apply Look.there rfl); exact Look.here)) (.f .nil) | exact .a (by ((repeat apply Look.there rfl); exact Look.here)) | skip) .nil), oneI (by simp only [decide_eq_true_eq, decide_eq_false_iff_not] at *; rw [ratio]; repeat (first | omega | rfl | split))⟩ -- LEAF 4: ret
        ·
          refine sg ?_
          refine mv ?_
          refine bo ?_
          refine as_ ?_
          refine rNil ?_
          refine cn (fun h7 => ?_) (fun h7 => ?_)
          ·
            have q1 : 1 ≤ n := by simpa using h5
            have q2 : n < d := by simpa using h6
            have q3 : d < 70368744177664 := by simpa using h7
            refine sg ?_
            refine mv ?_
            refine bo ?_
            refine mv ?_
            refine cl (c80 _ _) ?_
            refine as_ ?_
            refine rNil ?_
            refine awp_ret ?_
            refine br ?_
            refine tr ?_
            exact ⟨.inr rfl, _, (.cons (by first | exact .v (by ((repeat apply Look.there rfl); exact Look.here)) (.f (.v _)) | exact .v (by ((repeat apply Look.there rfl); exact Look.here)) (.row rfl rfl) | exact .v (by ((repeat apply Look.there rfl); exact Look.here)) (.f .nil) | exact .a (by ((repeat apply Look.there rfl); exact Look.here)) | skip) .nil), oneI (by simp only [decide_eq_true_eq, decide_eq_false_iff_not] at *; rw [ratio]; repeat (first | omega | rfl | split))⟩ -- LEAF 5: ret
          ·
            refine awp_skip ?_
            refine bn_ ?_
            refine tn ?_
            refine sg ?_
            refine mv ?_
            refine mv ?_
            refine cl (c80 _ _) ?_
            refine cl (c80 _ _) ?_
            refine mn2 ?_
            refine as_ ?_
            refine rNil ?_
            refine awp_ret ?_
            exact ⟨.inr rfl, _, (.cons (by first | exact .v (by ((repeat apply Look.there rfl); exact Look.here)) (.f (.v _)) | exact .v (by ((repeat apply Look.there rfl); exact Look.here)) (.row rfl rfl) | exact .v (by ((repeat apply Look.there rfl); exact Look.here)) (.f .nil) | exact .a (by ((repeat apply Look.there rfl); exact Look.here)) | skip) .nil), oneI (by simp only [decide_eq_true_eq, decide_eq_false_iff_not] at *; rw [ratio]; repeat (first | omega | rfl | split))⟩ -- LEAF 6: ret

/-- frustum/frustumref01.Ratio -/
theorem c90 (n d : Int) : Fn Try.prog 90 [I n, I d] (.one (I (ratio n d))) := by
  refine fnI Try.func90 Try.ntmps90 fun hb => ?_
  refine sg ?_
  refine as_ ?_
  refine rNil ?_
  refine sq ?_
  refine sg ?_
  refine mv ?_
  refine bo ?_
  refine mv ?_
  refine gd (fun h1 => ?_) (fun h1 => ?_)
  ·
    refine no ?_
    refine no ?_
    refine pkT ?_
    refine mv ?_
    refine no ?_
    refine no ?_
    refine pkT ?_
    refine rNil ?_
    refine cn (fun h2 => ?_) (fun h2 => ?_)
    ·
      refine sg ?_
      refine as_ ?_
      refine rNil ?_
      refine awp_ret ?_
      refine tr ?_
      exact ⟨.inr rfl, _, (.cons (by first | exact .v (by ((repeat apply Look.there rfl); exact Look.here)) (.f (.v _)) | exact .v (by ((repeat apply Look.there rfl); exact Look.here)) (.row rfl rfl) | exact .v (by ((repeat apply Look.there rfl); exact Look.here)) (.f .nil) | exact .a (by ((repeat apply Look.there rfl); exact Look.here)) | skip) .nil), oneI (by simp only [decide_eq_true_eq, decide_eq_false_iff_not] at *; rw [ratio]; simp only [mn]; repeat (first | omega | rfl | split))⟩ -- LEAF 1: ret
    ·
      exact absurd h2 (by decide)
  ·
    refine mv ?_
    refine bo ?_
    refine pkF ?_
    refine mv ?_
    refine gd (fun h3 => ?_) (fun h3 => ?_)
    ·
      refine no ?_
      refine no ?_
      refine pkT ?_
      refine rNil ?_
      refine cn (fun h4 => ?_) (fun h4 => ?_)
      ·
        refine sg ?_
        refine as_ ?_
        refine rNil ?_
        refine awp_ret ?_
        refine tr ?_
        exact ⟨.inr rfl, _, (.cons (by first | exact .v (by ((repeat apply Look.there rfl); exact Look.here)) (.f (.v _)) | exact .v (by ((repeat apply Look.there rfl); exact Look.here)) (.row rfl rfl) | exact .v (by ((repeat apply Look.there rfl); exact Look.here)) (.f .nil) | exact .a (by ((repeat apply Look.there rfl); exact Look.here)) | skip) .nil), oneI (by simp only [decide_eq_true_eq, decide_eq_false_iff_not] at *; rw [ratio]; simp only [mn]; repeat (first | omega | rfl | split))⟩ -- LEAF 2: ret
      ·
        exact absurd h4 (by decide)
    ·
      refine mv ?_
      refine bo ?_
      refine pkF ?_
      refine rNil ?_
      refine cn (fun h5 => ?_) (fun h5 => ?_)
      ·
        refine sg ?_
        refine as_ ?_
        refine rNil ?_
        refine awp_ret ?_
        refine tr ?_
        exact ⟨.inr rfl, _, (.cons (by first | exact .v (by ((repeat apply Look.there rfl); exact Look.here)) (.f (.v _)) | exact .v (by ((repeat apply Look.there rfl); exact Look.here)) (.row rfl rfl) | exact .v (by ((repeat apply Look.there rfl); exact Look.here)) (.f .nil) | exact .a (by ((repeat apply Look.there rfl); exact Look.here)) | skip) .nil), oneI (by simp only [decide_eq_true_eq, decide_eq_false_iff_not] at *; rw [ratio]; simp only [mn]; repeat (first | omega | rfl | split))⟩ -- LEAF 3: ret
      ·
        refine awp_skip ?_
        refine tn ?_
        refine sq ?_
        refine sg ?_
        refine mv ?_
        refine mv ?_
        refine bo ?_
        refine rNil ?_
        refine cn (fun h6 => ?_) (fun h6 => ?_)
        ·
          refine sg ?_
          refine as_ ?_
          refine rNil ?_
          refine awp_ret ?_
          refine tr ?_
          exact ⟨.inr rfl, _, (.cons (by first | exact .v (by ((repeat apply Look.there rfl); exact Look.here)) (.f (.v _)) | exact .v (by ((repeat apply Look.there rfl); exact Look.here)) (.row rfl rfl) | exact .v (by ((repeat apply Look.there rfl); exact Look.here)) (.f .nil) | exact .a (by ((repeat apply Look.there rfl); exact Look.here)) | skip) .nil), oneI (by simp only [decide_eq_true_eq, decide_eq_false_iff_not] at *; rw [ratio]; simp only [mn]; repeat (first | omega | rfl | split))⟩ -- LEAF 4: ret
        ·
          refine awp_skip ?_
          refine tn ?_
          refine sq ?_
          refine sg ?_
          refine mv ?_
          refine bo ?_
          refine rNil ?_
          refine cn (fun h7 => ?_) (fun h7 => ?_)
          ·
            have q1 : 1 ≤ n := by simpa using h5
            have q2 : n < d := by simpa using h6
            have q3 : d < 70368744177664 := by simpa using h7
            refine sg ?_
            refine mv ?_
            refine bo ?_
            refine mv ?_
            refine cl (c89 _ _) ?_
            refine as_ ?_
            refine rNil ?_
            refine awp_ret ?_
            refine tr ?_
            exact ⟨.inr rfl, _, (.cons (by first | exact .v (by ((repeat apply Look.there rfl); exact Look.here)) (.f (.v _)) | exact .v (by ((repeat apply Look.there rfl); exact Look.here)) (.row rfl rfl) | exact .v (by ((repeat apply Look.there rfl); exact Look.here)) (.f .nil) | exact .a (by ((repeat apply Look.there rfl); exact Look.here)) | skip) .nil), oneI (by simp only [decide_eq_true_eq, decide_eq_false_iff_not] at *; rw [ratio]; simp only [mn]; repeat (first | omega | rfl | split))⟩ -- LEAF 5: ret
          ·
            refine awp_skip ?_
            refine tn ?_
            refine sg ?_
            refine mv ?_
            refine mv ?_
            refine cl (c89 _ _) ?_
            refine cl (c89 _ _) ?_
            refine as_ ?_
            refine rNil ?_
            refine sq ?_
            refine sg ?_
            refine mv ?_
            refine bo ?_
            refine rNil ?_
            refine cn (fun h8 => ?_) (fun h8 => ?_)
            ·
              refine sg ?_
              refine as_ ?_
              refine rNil ?_
              refine awp_ret ?_
              refine tr ?_
              exact ⟨.inr rfl, _, (.cons (by first | exact .v (by ((repeat apply Look.there rfl); exact Look.here)) (.f (.v _)) | exact .v (by ((repeat apply Look.there rfl); exact Look.here)) (.row rfl rfl) | exact .v (by ((repeat apply Look.there rfl); exact Look.here)) (.f .nil) | exact .a (by ((repeat apply Look.there rfl); exact Look.here)) | skip) .nil), oneI (by simp only [decide_eq_true_eq, decide_eq_false_iff_not] at *; rw [ratio]; simp only [mn]; repeat (first | omega | rfl | split))⟩ -- LEAF 6: ret
            ·
              refine awp_skip ?_
              refine tn ?_
              refine sg ?_
              refine mv ?_
              refine as_ ?_
              refine rNil ?_
              refine awp_ret ?_
              exact ⟨.inr rfl, _, (.cons (by first | exact .v (by ((repeat apply Look.there rfl); exact Look.here)) (.f (.v _)) | exact .v (by ((repeat apply Look.there rfl); exact Look.here)) (.row rfl rfl) | exact .v (by ((repeat apply Look.there rfl); exact Look.here)) (.f .nil) | exact .a (by ((repeat apply Look.there rfl); exact Look.here)) | skip) .nil), oneI (by simp only [decide_eq_true_eq, decide_eq_false_iff_not] at *; rw [ratio]; simp only [mn]; repeat (first | omega | rfl | split))⟩ -- LEAF 7: ret

end Go.Proofs.Ytlaaigljlhkdpaa.VS
