/- The walks of functions: what each computes, by itself. Conditions: none. -/
import Derived.Test.YtlaaigljlhkdpaaT
import Derived.Test.YtlaaigljlhkdpaaV17
set_option linter.unusedVariables false
set_option linter.unusedSimpArgs false
namespace Go.Proofs.Ytlaaigljlhkdpaa.VS
open Go
def clamp (x lo hi : Int) : Int := mx (mn x hi) lo
/-- frustum/fixed.Clamp -/
theorem c38 (x lo hi : Int) : Fn Try.prog 38 [I x, I lo, I hi] (.one (I (clamp x lo hi))) := by
  refine fnI Try.func38 Try.ntmps38 fun hb => ?_
  refine sg ?_
  refine as_ ?_
  refine rNil ?_
  refine sg ?_
  refine mv ?_
  refine mv ?_
  refine mn2 ?_
  refine mv ?_
  refine mx2 ?_
  refine as_ ?_
  refine rNil ?_
  refine awp_ret ?_
  exact ⟨.inr rfl, _, (.cons (by first | exact .v (by ((repeat apply Look.there rfl); exact Look.here)) (.f (.v _)) | exact .v (by ((repeat apply Look.there rfl); exact Look.here)) (.row rfl rfl) | exact .v (by ((repeat apply Look.there rfl); exact Look.here)) (.f .nil) | exact .a (by ((repeat apply Look.there rfl); exact Look.here)) | skip) .nil), rfl⟩ -- LEAF 1: ret

abbrev sat (x : Int) : Int := clamp x (-536870911) 536870911
theorem clamp_bd (x : Int) {lo hi : Int} (h : lo ≤ hi) : lo ≤ clamp x lo hi ∧ clamp x lo hi ≤ hi := by
  unfold clamp mx mn; repeat (first | omega | split)
theorem sat_bd (x : Int) : -536870911 ≤ sat x ∧ sat x ≤ 536870911 := clamp_bd x (by decide)
/-- frustum/fixed.Saturate -/
theorem c78 (x : Int) : Fn Try.prog 78 [I x] (.one (I (sat x))) := by
  refine fnI Try.func78 Try.ntmps78 fun hb => ?_
  refine sg ?_
  refine as_ ?_
  refine rNil ?_
  refine sg ?_
  refine mv ?_
  refine cl (c38 _ _ _) ?_
  refine as_ ?_
  refine rNil ?_
  refine awp_ret ?_
  exact ⟨.inr rfl, _, (.cons (by first | exact .v (by ((repeat apply Look.there rfl); exact Look.here)) (.f (.v _)) | exact .v (by ((repeat apply Look.there rfl); exact Look.here)) (.row rfl rfl) | exact .v (by ((repeat apply Look.there rfl); exact Look.here)) (.f .nil) | exact .a (by ((repeat apply Look.there rfl); exact Look.here)) | skip) .nil), rfl⟩ -- LEAF 1: ret

def fadd (a b : Int) : Int := sat (sat a + sat b)
def fsub (a b : Int) : Int := sat (sat a - sat b)
/-- frustum/fixed.Add -/
theorem c54 (a b : Int) : Fn Try.prog 54 [I a, I b] (.one (I (fadd a b))) := by
  refine fnI Try.func54 Try.ntmps54 fun hb => ?_
  have ha := sat_bd a
  have hbb := sat_bd b
  refine sg ?_
  refine as_ ?_
  refine rNil ?_
  refine sg ?_
  refine mv ?_
  refine cl (c78 _) ?_
  refine mv ?_
  refine cl (c78 _) ?_
  refine bo ?_
  refine cl (c78 _) ?_
  refine as_ ?_
  refine rNil ?_
  refine awp_ret ?_
  exact ⟨.inr rfl, _, (.cons (by first | exact .v (by ((repeat apply Look.there rfl); exact Look.here)) (.f (.v _)) | exact .v (by ((repeat apply Look.there rfl); exact Look.here)) (.row rfl rfl) | exact .v (by ((repeat apply Look.there rfl); exact Look.here)) (.f .nil) | exact .a (by ((repeat apply Look.there rfl); exact Look.here)) | skip) .nil), rfl⟩ -- LEAF 1: ret

/-- frustum/fixed.Sub -/
theorem c61 (a b : Int) : Fn Try.prog 61 [I a, I b] (.one (I (fsub a b))) := by
  refine fnI Try.func61 Try.ntmps61 fun hb => ?_
  have ha := sat_bd a
  have hbb := sat_bd b
  refine sg ?_
  refine as_ ?_
  refine rNil ?_
  refine sg ?_
  refine mv ?_
  refine cl (c78 _) ?_
  refine mv ?_
  refine cl (c78 _) ?_
  refine bo ?_
  refine cl (c78 _) ?_
  refine as_ ?_
  refine rNil ?_
  refine awp_ret ?_
  exact ⟨.inr rfl, _, (.cons (by first | exact .v (by ((repeat apply Look.there rfl); exact Look.here)) (.f (.v _)) | exact .v (by ((repeat apply Look.there rfl); exact Look.here)) (.row rfl rfl) | exact .v (by ((repeat apply Look.there rfl); exact Look.here)) (.f .nil) | exact .a (by ((repeat apply Look.there rfl); exact Look.here)) | skip) .nil), rfl⟩ -- LEAF 1: ret

/-- frustum/frustumref01.Clamp -/
theorem c48 (x lo hi : Int) : Fn Try.prog 48 [I x, I lo, I hi] (.one (I (clamp x lo hi))) := by
  refine fnI Try.func48 Try.ntmps48 fun hb => ?_
  refine sg ?_
  refine as_ ?_
  refine rNil ?_
  refine sq ?_
  refine sg ?_
  refine mv ?_
  refine mv ?_
  refine bo ?_
  refine mv ?_
  refine gd (fun h1 => ?_) (fun h1 => ?_)
  ·
    refine no ?_
    refine no ?_
    refine no ?_
    refine pkT ?_
    refine rNil ?_
    refine cn (fun h2 => ?_) (fun h2 => ?_)
    ·
      refine sg ?_
      refine mv ?_
      refine as_ ?_
      refine rNil ?_
      refine awp_ret ?_
      refine tr ?_
      exact ⟨.inr rfl, _, (.cons (by first | exact .v (by ((repeat apply Look.there rfl); exact Look.here)) (.f (.v _)) | exact .v (by ((repeat apply Look.there rfl); exact Look.here)) (.row rfl rfl) | exact .v (by ((repeat apply Look.there rfl); exact Look.here)) (.f .nil) | exact .a (by ((repeat apply Look.there rfl); exact Look.here)) | skip) .nil), oneI (by simp only [clamp, mx, mn, decide_eq_true_eq, decide_eq_false_iff_not] at *; repeat (first | omega | split))⟩ -- LEAF 1: ret
    ·
      exact absurd h2 (by decide)
  ·
    refine mv ?_
    refine mv ?_
    refine bo ?_
    refine pkF ?_
    refine rNil ?_
    refine cn (fun h3 => ?_) (fun h3 => ?_)
    ·
      refine sg ?_
      refine mv ?_
      refine as_ ?_
      refine rNil ?_
      refine awp_ret ?_
      refine tr ?_
      exact ⟨.inr rfl, _, (.cons (by first | exact .v (by ((repeat apply Look.there rfl); exact Look.here)) (.f (.v _)) | exact .v (by ((repeat apply Look.there rfl); exact Look.here)) (.row rfl rfl) | exact .v (by ((repeat apply Look.there rfl); exact Look.here)) (.f .nil) | exact .a (by ((repeat apply Look.there rfl); exact Look.here)) | skip) .nil), oneI (by simp only [clamp, mx, mn, decide_eq_true_eq, decide_eq_false_iff_not] at *; repeat (first | omega | split))⟩ -- LEAF 2: ret
    ·
      refine awp_skip ?_
      refine tn ?_
      refine sq ?_
      refine sg ?_
      refine mv ?_
      refine mv ?_
      refine bo ?_
      refine rNil ?_
      refine cn (fun h4 => ?_) (fun h4 => ?_)
      ·
        refine sg ?_
        refine mv ?_
        refine as_ ?_
        refine rNil ?_
        refine awp_ret ?_
        refine tr ?_
        exact ⟨.inr rfl, _, (.cons (by first | exact .v (by ((repeat apply Look.there rfl); exact Look.here)) (.f (.v _)) | exact .v (by ((repeat apply Look.there rfl); exact Look.here)) (.row rfl rfl) | exact .v (by ((repeat apply Look.there rfl); exact Look.here)) (.f .nil) | exact .a (by ((repeat apply Look.there rfl); exact Look.here)) | skip) .nil), oneI (by simp only [clamp, mx, mn, decide_eq_true_eq, decide_eq_false_iff_not] at *; repeat (first | omega | split))⟩ -- LEAF 3: ret
      ·
        refine awp_skip ?_
        refine tn ?_
        refine sg ?_
        refine mv ?_
        refine as_ ?_
        refine rNil ?_
        refine awp_ret ?_
        exact ⟨.inr rfl, _, (.cons (by first | exact .v (by ((repeat apply Look.there rfl); exact Look.here)) (.f (.v _)) | exact .v (by ((repeat apply Look.there rfl); exact Look.here)) (.row rfl rfl) | exact .v (by ((repeat apply Look.there rfl); exact Look.here)) (.f .nil) | exact .a (by ((repeat apply Look.there rfl); exact Look.here)) | skip) .nil), oneI (by simp only [clamp, mx, mn, decide_eq_true_eq, decide_eq_false_iff_not] at *; repeat (first | omega | split))⟩ -- LEAF 4: ret

/-- frustum/frustumref01.Saturate -/
theorem c31 (x : Int) : Fn Try.prog 31 [I x] (.one (I (sat x))) := by
  refine fnI Try.func31 Try.ntmps31 fun hb => ?_
  refine sg ?_
  refine as_ ?_
  refine rNil ?_
  refine sg ?_
  refine mv ?_
  refine cl (c48 _ _ _) ?_
  refine as_ ?_
  refine rNil ?_
  refine awp_ret ?_
  exact ⟨.inr rfl, _, (.cons (by first | exact .v (by ((repeat apply Look.there rfl); exact Look.here)) (.f (.v _)) | exact .v (by ((repeat apply Look.there rfl); exact Look.here)) (.row rfl rfl) | exact .v (by ((repeat apply Look.there rfl); exact Look.here)) (.f .nil) | exact .a (by ((repeat apply Look.there rfl); exact Look.here)) | skip) .nil), rfl⟩ -- LEAF 1: ret

/-- frustum/frustumref01.Add -/
theorem c73 (a b : Int) : Fn Try.prog 73 [I a, I b] (.one (I (fadd a b))) := by
  refine fnI Try.func73 Try.ntmps73 fun hb => ?_
  have ha := sat_bd a
  have hbb := sat_bd b
  refine sg ?_
  refine as_ ?_
  refine rNil ?_
  refine sg ?_
  refine mv ?_
  refine cl (c31 _) ?_
  refine mv ?_
  refine cl (c31 _) ?_
  refine bo ?_
  refine cl (c31 _) ?_
  refine as_ ?_
  refine rNil ?_
  refine awp_ret ?_
  exact ⟨.inr rfl, _, (.cons (by first | exact .v (by ((repeat apply Look.there rfl); exact Look.here)) (.f (.v _)) | exact .v (by ((repeat apply Look.there rfl); exact Look.here)) (.row rfl rfl) | exact .v (by ((repeat apply Look.there rfl); exact Look.here)) (.f .nil) | exact .a (by ((repeat apply Look.there rfl); exact Look.here)) | skip) .nil), rfl⟩ -- LEAF 1: ret

/-- frustum/frustumref01.Sub -/
theorem c75 (a b : Int) : Fn Try.prog 75 [I a, I b] (.one (I (fsub a b))) := by
  refine fnI Try.func75 Try.ntmps75 fun hb => ?_
  have ha := sat_bd a
  have hbb := sat_bd b
  refine sg ?_
  refine as_ ?_
  refine rNil ?_
  refine sg ?_
  refine mv ?_
  refine cl (c31 _) ?_
  refine mv ?_
  refine cl (c31 _) ?_
  refine bo ?_
  refine cl (c31 _) ?_
  refine as_ ?_
  refine rNil ?_
  refine awp_ret ?_
  exact ⟨.inr rfl, _, (.cons (by first | exact .v (by ((repeat apply Look.there rfl); exact Look.here)) (.f (.v _)) | exact .v (by ((repeat apply Look.there rfl); exact Look.here)) (.row rfl rfl) | exact .v (by ((repeat apply Look.there rfl); exact Look.here)) (.f .nil) | exact .a (by ((repeat apply Look.there rfl); exact Look.here)) | skip) .nil), rfl⟩ -- LEAF 1: ret

def lim (x : Int) : Int := mx 0 (mn x 16384)
theorem lim_bd (x : Int) : 0 ≤ lim x ∧ lim x ≤ 16384 := by unfold lim mx mn; repeat (first | omega | split)
theorem lim_id {x : Int} (h : 0 ≤ x ∧ x ≤ 16384) : lim x = x := by unfold lim mx mn; repeat (first | omega | split)
theorem prod_bd {x y : Int} (hx : -16384 ≤ x ∧ x ≤ 16384) (hy : -16384 ≤ y ∧ y ≤ 16384) : -268435456 ≤ x * y ∧ x * y ≤ 268435456 := by
  have h1 := Int.mul_le_mul (a := x.natAbs) (b := y.natAbs) (c := 16384) (d := 16384) (by omega) (by omega) (by omega) (by omega)
  have h2 : ((x * y).natAbs : Int) = x.natAbs * y.natAbs := by rw [Int.natAbs_mul]; rfl
  omega
def crs (ax ay bx by' px py : Int) : Int := (bx - ax) * (py - ay) - (by' - ay) * (px - ax)
/-- frustum/edge.limit -/
theorem c95 (x : Int) : Fn Try.prog 95 [I x] (.one (I (lim x))) := by
  refine fnI Try.func95 Try.ntmps95 fun hb => ?_
  refine sg ?_
  refine as_ ?_
  refine rNil ?_
  refine sg ?_
  refine mv ?_
  refine mn2 ?_
  refine mx2 ?_
  refine as_ ?_
  refine rNil ?_
  refine awp_ret ?_
  exact ⟨.inr rfl, _, (.cons (by first | exact .v (by ((repeat apply Look.there rfl); exact Look.here)) (.f (.v _)) | exact .v (by ((repeat apply Look.there rfl); exact Look.here)) (.row rfl rfl) | exact .v (by ((repeat apply Look.there rfl); exact Look.here)) (.f .nil) | exact .a (by ((repeat apply Look.there rfl); exact Look.here)) | skip) .nil), rfl⟩ -- LEAF 1: ret

/-- frustum/frustumref34.on -/
theorem c71 (x : Int) : Fn Try.prog 71 [I x] (.one (I (lim x))) := by
  refine fnI Try.func71 Try.ntmps71 fun hb => ?_
  refine sg ?_
  refine as_ ?_
  refine rNil ?_
  refine sg ?_
  refine mv ?_
  refine mn2 ?_
  refine mx2 ?_
  refine as_ ?_
  refine rNil ?_
  refine awp_ret ?_
  exact ⟨.inr rfl, _, (.cons (by first | exact .v (by ((repeat apply Look.there rfl); exact Look.here)) (.f (.v _)) | exact .v (by ((repeat apply Look.there rfl); exact Look.here)) (.row rfl rfl) | exact .v (by ((repeat apply Look.there rfl); exact Look.here)) (.f .nil) | exact .a (by ((repeat apply Look.there rfl); exact Look.here)) | skip) .nil), oneI (by simp only [lim, mx, mn]; repeat (first | omega | split))⟩ -- LEAF 1: ret

def fn' (ax ay bx by' px py : Int) : Int := crs (lim ax) (lim ay) (lim bx) (lim by') (lim px) (lim py)
theorem dif_bd {x y : Int} (hx : 0 ≤ x ∧ x ≤ 16384) (hy : 0 ≤ y ∧ y ≤ 16384) : -16384 ≤ x - y ∧ x - y ≤ 16384 := by omega
theorem fn_bd (ax ay bx by' px py : Int) : -536870912 ≤ fn' ax ay bx by' px py ∧ fn' ax ay bx by' px py ≤ 536870912 := by
  have p1 := prod_bd (dif_bd (lim_bd bx) (lim_bd ax)) (dif_bd (lim_bd py) (lim_bd ay))
  have p2 := prod_bd (dif_bd (lim_bd by') (lim_bd ay)) (dif_bd (lim_bd px) (lim_bd ax))
  unfold fn' crs; omega
/-- frustum/edge.Function -/
theorem c92 (ax ay bx by' px py : Int) : Fn Try.prog 92 [I ax, I ay, I bx, I by', I px, I py] (.one (I (fn' ax ay bx by' px py))) := by
  refine fnI Try.func92 Try.ntmps92 fun hb => ?_
  have p1 := prod_bd (dif_bd (lim_bd bx) (lim_bd ax)) (dif_bd (lim_bd py) (lim_bd ay))
  have p2 := prod_bd (dif_bd (lim_bd by') (lim_bd ay)) (dif_bd (lim_bd px) (lim_bd ax))
  have b1 := lim_bd ax; have b2 := lim_bd ay; have b3 := lim_bd bx; have b4 := lim_bd by'; have b5 := lim_bd px; have b6 := lim_bd py
  refine sg ?_
  refine as_ ?_
  refine rNil ?_
  refine sg ?_
  refine mv ?_
  refine cl (c95 _) ?_
  refine mv ?_
  refine cl (c95 _) ?_
  refine as_ ?_
  refine as_ ?_
  refine rNil ?_
  refine sg ?_
  refine mv ?_
  refine cl (c95 _) ?_
  refine mv ?_
  refine bo ?_
  refine mv ?_
  refine cl (c95 _) ?_
  refine mv ?_
  refine bo ?_
  refine bo ?_
  refine mv ?_
  refine cl (c95 _) ?_
  refine mv ?_
  refine bo ?_
  refine mv ?_
  refine cl (c95 _) ?_
  refine mv ?_
  refine bo ?_
  refine bo ?_
  refine bo ?_
  refine as_ ?_
  refine rNil ?_
  refine awp_ret ?_
  exact ⟨.inr rfl, _, (.cons (by first | exact .v (by ((repeat apply Look.there rfl); exact Look.here)) (.f (.v _)) | exact .v (by ((repeat apply Look.there rfl); exact Look.here)) (.row rfl rfl) | exact .v (by ((repeat apply Look.there rfl); exact Look.here)) (.f .nil) | exact .a (by ((repeat apply Look.there rfl); exact Look.here)) | skip) .nil), rfl⟩ -- LEAF 1: ret

/-- frustum/frustumref34.Function -/
theorem c96 (ax ay bx by' px py : Int) : Fn Try.prog 96 [I ax, I ay, I bx, I by', I px, I py] (.one (I (fn' ax ay bx by' px py))) := by
  refine fnI Try.func96 Try.ntmps96 fun hb => ?_
  have p1 := prod_bd (dif_bd (lim_bd bx) (lim_bd ax)) (dif_bd (lim_bd py) (lim_bd ay))
  have p2 := prod_bd (dif_bd (lim_bd by') (lim_bd ay)) (dif_bd (lim_bd px) (lim_bd ax))
  have b1 := lim_bd ax; have b2 := lim_bd ay; have b3 := lim_bd bx; have b4 := lim_bd by'; have b5 := lim_bd px; have b6 := lim_bd py
  refine sg ?_
  refine as_ ?_
  refine rNil ?_
  refine sg ?_
  refine mv ?_
  refine cl (c71 _) ?_
  refine mv ?_
  refine cl (c71 _) ?_
  refine bo ?_
  refine mv ?_
  refine cl (c71 _) ?_
  refine mv ?_
  refine cl (c71 _) ?_
  refine bo ?_
  refine bo ?_
  refine mv ?_
  refine cl (c71 _) ?_
  refine mv ?_
  refine cl (c71 _) ?_
  refine bo ?_
  refine mv ?_
  refine cl (c71 _) ?_
  refine mv ?_
  refine cl (c71 _) ?_
  refine bo ?_
  refine bo ?_
  refine bo ?_
  refine as_ ?_
  refine rNil ?_
  refine awp_ret ?_
  exact ⟨.inr rfl, _, (.cons (by first | exact .v (by ((repeat apply Look.there rfl); exact Look.here)) (.f (.v _)) | exact .v (by ((repeat apply Look.there rfl); exact Look.here)) (.row rfl rfl) | exact .v (by ((repeat apply Look.there rfl); exact Look.here)) (.f .nil) | exact .a (by ((repeat apply Look.there rfl); exact Look.here)) | skip) .nil), rfl⟩ -- LEAF 1: ret

def tl (ax ay bx by' : Int) : Bool := decide (lim by' - lim ay < 0) || (lim by' - lim ay == 0 && decide (lim bx - lim ax > 0))
/-- frustum/edge.TopLeft -/
theorem c93 (ax ay bx by' : Int) : Fn Try.prog 93 [I ax, I ay, I bx, I by'] (.one (B (tl ax ay bx by'))) := by
  refine fnI Try.func93 Try.ntmps93 fun hb => ?_
  have b1 := lim_bd ax; have b2 := lim_bd ay; have b3 := lim_bd bx; have b4 := lim_bd by'
  refine sg ?_
  refine as_ ?_
  refine rNil ?_
  refine sg ?_
  refine mv ?_
  refine cl (c95 _) ?_
  refine mv ?_
  refine cl (c95 _) ?_
  refine bo ?_
  refine mv ?_
  refine cl (c95 _) ?_
  refine mv ?_
  refine cl (c95 _) ?_
  refine bo ?_
  refine as_ ?_
  refine as_ ?_
  refine rNil ?_
  refine sg ?_
  refine mv ?_
  refine bo ?_
  refine mv ?_
  refine gd (fun h1 => ?_) (fun h1 => ?_)
  ·
    refine no ?_
    refine no ?_
    refine no ?_
    refine noU ?_
    refine noU ?_
    refine no ?_
    refine pkT ?_
    refine as_ ?_
    refine rNil ?_
    refine awp_ret ?_
    exact ⟨.inr rfl, _, (.cons (by first | exact .v (by ((repeat apply Look.there rfl); exact Look.here)) (.f (.v _)) | exact .v (by ((repeat apply Look.there rfl); exact Look.here)) (.row rfl rfl) | exact .v (by ((repeat apply Look.there rfl); exact Look.here)) (.f .nil) | exact .a (by ((repeat apply Look.there rfl); exact Look.here)) | skip) .nil), oneB (by simp_all [tl])⟩ -- LEAF 1: ret
  ·
    refine mv ?_
    refine bo ?_
    refine mv ?_
    refine gd (fun h2 => ?_) (fun h2 => ?_)
    ·
      refine mv ?_
      refine bo ?_
      refine pkT ?_
      refine pkF ?_
      refine as_ ?_
      refine rNil ?_
      refine awp_ret ?_
      exact ⟨.inr rfl, _, (.cons (by first | exact .v (by ((repeat apply Look.there rfl); exact Look.here)) (.f (.v _)) | exact .v (by ((repeat apply Look.there rfl); exact Look.here)) (.row rfl rfl) | exact .v (by ((repeat apply Look.there rfl); exact Look.here)) (.f .nil) | exact .a (by ((repeat apply Look.there rfl); exact Look.here)) | skip) .nil), oneB (by simp_all [tl])⟩ -- LEAF 2: ret
    ·
      refine no ?_
      refine no ?_
      refine pkF ?_
      refine pkF ?_
      refine as_ ?_
      refine rNil ?_
      refine awp_ret ?_
      exact ⟨.inr rfl, _, (.cons (by first | exact .v (by ((repeat apply Look.there rfl); exact Look.here)) (.f (.v _)) | exact .v (by ((repeat apply Look.there rfl); exact Look.here)) (.row rfl rfl) | exact .v (by ((repeat apply Look.there rfl); exact Look.here)) (.f .nil) | exact .a (by ((repeat apply Look.there rfl); exact Look.here)) | skip) .nil), oneB (by simp_all [tl])⟩ -- LEAF 3: ret

def acc (ax ay bx by' px py : Int) : Bool := decide (fn' ax ay bx by' px py > 0) || (fn' ax ay bx by' px py == 0 && tl ax ay bx by')
/-- frustum/edge.Accepts -/
theorem c79 (ax ay bx by' px py : Int) : Fn Try.prog 79 [I ax, I ay, I bx, I by', I px, I py] (.one (B (acc ax ay bx by' px py))) := by
  refine fnI Try.func79 Try.ntmps79 fun hb => ?_
  refine sg ?_
  refine as_ ?_
  refine rNil ?_
  refine sg ?_
  refine mv ?_
  refine mv ?_
  refine mv ?_
  refine mv ?_
  refine mv ?_
  refine mv ?_
  refine cl (c92 _ _ _ _ _ _) ?_
  refine as_ ?_
  refine rNil ?_
  refine sg ?_
  refine mv ?_
  refine bo ?_
  refine mv ?_
  refine gd (fun h1 => ?_) (fun h1 => ?_)
  ·
    refine no ?_
    refine no ?_
    refine no ?_
    refine noU ?_
    refine noU ?_
    refine noU ?_
    refine noU ?_
    refine noU ?_
    refine no ?_
    refine pkT ?_
    refine as_ ?_
    refine rNil ?_
    refine awp_ret ?_
    exact ⟨.inr rfl, _, (.cons (by first | exact .v (by ((repeat apply Look.there rfl); exact Look.here)) (.f (.v _)) | exact .v (by ((repeat apply Look.there rfl); exact Look.here)) (.row rfl rfl) | exact .v (by ((repeat apply Look.there rfl); exact Look.here)) (.f .nil) | exact .a (by ((repeat apply Look.there rfl); exact Look.here)) | skip) .nil), oneB (by simp_all [acc])⟩ -- LEAF 1: ret
  ·
    refine mv ?_
    refine bo ?_
    refine mv ?_
    refine gd (fun h2 => ?_) (fun h2 => ?_)
    ·
      refine mv ?_
      refine mv ?_
      refine mv ?_
      refine mv ?_
      refine cl (c93 _ _ _ _) ?_
      refine pkT ?_
      refine pkF ?_
      refine as_ ?_
      refine rNil ?_
      refine awp_ret ?_
      exact ⟨.inr rfl, _, (.cons (by first | exact .v (by ((repeat apply Look.there rfl); exact Look.here)) (.f (.v _)) | exact .v (by ((repeat apply Look.there rfl); exact Look.here)) (.row rfl rfl) | exact .v (by ((repeat apply Look.there rfl); exact Look.here)) (.f .nil) | exact .a (by ((repeat apply Look.there rfl); exact Look.here)) | skip) .nil), oneB (by simp_all [acc])⟩ -- LEAF 2: ret
    ·
      refine no ?_
      refine no ?_
      refine no ?_
      refine no ?_
      refine no ?_
      refine pkF ?_
      refine pkF ?_
      refine as_ ?_
      refine rNil ?_
      refine awp_ret ?_
      exact ⟨.inr rfl, _, (.cons (by first | exact .v (by ((repeat apply Look.there rfl); exact Look.here)) (.f (.v _)) | exact .v (by ((repeat apply Look.there rfl); exact Look.here)) (.row rfl rfl) | exact .v (by ((repeat apply Look.there rfl); exact Look.here)) (.f .nil) | exact .a (by ((repeat apply Look.there rfl); exact Look.here)) | skip) .nil), oneB (by simp_all [acc])⟩ -- LEAF 3: ret

end Go.Proofs.Ytlaaigljlhkdpaa.VS
