/- The walks of functions: what each computes, by itself. Conditions: none. -/
import Derived.Test.YtnhljpbpfaablaaF2
set_option linter.unusedVariables false
set_option linter.unusedSimpArgs false
namespace Go.Proofs.Ytnhljpbpfaablaa.VS
open Go
def rgOk (n : Int) (x : Ins) : Bool := (!dF x.op || inF x.dst 0 (n - 1)) && ((!aF x.op || inF x.a 0 (n - 1)) && ((!bF x.op || inF x.b 0 (n - 1)) && (!cF x.op || inF x.c 0 (n - 1))))
def outF (p : Prg) (x : Ins) : Bool := !(rgOk p.rg x && immOk p x)
abbrev bxI (x : Ins) : Ent := .box 51 [.r (I x.op), .r (I x.dst), .r (I x.a), .r (I x.b), .r (I x.c), .r (I x.imm)]
abbrev bxP (p : Prg) : Ent := .box 25 [.r (I p.st), .r (I p.rg), .r (I p.ip), .r (I p.ou), .r (I p.un), .r (I p.tx), .r (I p.bf), .r (L p.code)]
theorem in_lt {x n : Int} (h : x < 0) : inF x 0 (n - 1) = false := decide_eq_false (by omega)
theorem in_ge {x n : Int} (h1 : ¬ x < 0) : decide (x ≥ n) = !inF x 0 (n - 1) := by rw [Bool.eq_iff_iff]; simp [inF]; omega
def gF (d : Bool) (x n : Int) : Bool := d && !inF x 0 (n - 1)
theorem rg_gF {n : Int} {x : Ins} : (!rgOk n x) = (((gF (dF x.op) x.dst n || gF (aF x.op) x.a n) || gF (bF x.op) x.b n) || gF (cF x.op) x.c n) := by
  unfold rgOk gF
  cases dF x.op <;> cases aF x.op <;> cases bF x.op <;> cases cF x.op <;> simp [Bool.not_and, Bool.or_assoc]
set_option maxHeartbeats 20000000 in
/-- frustum/frustumref22.outside -/
theorem c46 (p : Prg) (x : Ins) (hs : Small p) : Fn Try.prog 46 [A p, A x] (.one (B (outF p x))) := by
  refine fnI Try.func46 Try.ntmps46 fun hb => ?_
  obtain ⟨s1, s2, s3, s4, s5, s6, s7, s8, s9, s10, s11, s12⟩ := hs
  refine sg ?_
  refine bx _ ?_
  refine bx _ ?_
  refine as_ ?_
  refine rNil ?_
  refine sg ?_
  first | refine ff ?_ | refine fb ?_ | refine fo ?_
  first | refine l1f ?_ | refine l1b ?_ | refine l1o ?_
  refine cl (c49 x.op) ?_
  refine mv ?_
  refine ex ?_
  refine ex ?_
  refine ex ?_
  refine ex ?_
  refine ex ?_
  refine as_ ?_
  refine as_ ?_
  refine as_ ?_
  refine as_ ?_
  refine as_ ?_
  refine rNil ?_
  refine sg ?_
  first | refine ff ?_ | refine fb ?_ | refine fo ?_
  first | refine l1f ?_ | refine l1b ?_ | refine l1o ?_
  refine as_ ?_
  refine rNil ?_
  refine sq ?_
  refine jn (fun S => ∃ v : Bool, v = !rgOk p.rg x ∧ S = ⟨[(77, .r (B v)), (3, .box 1 0), (2, .box 0 0)], [bxP p, bxI x]⟩) ?_ ?_
  ·
    refine rgA ?_
    refine al_join 12 (fun S => ∃ v : Bool, v = (gF (dF x.op) x.dst p.rg) ∧ S = ⟨[(35, .r (B v)), (10, .r (I p.rg)), (8, .r (B (cF x.op))), (7, .r (B (bF x.op))), (6, .r (B (aF x.op))), (3, .box 1 0), (2, .box 0 0)], [bxP p, bxI x]⟩) ?_ ?_
    ·
      refine mv ?_
      refine mv ?_
      refine gd (fun h1 => ?_) (fun h1 => ?_)
      ·
        first | refine ff ?_ | refine fb ?_ | refine fo ?_
        first | refine l1f ?_ | refine l1b ?_ | refine l1o ?_
        refine bo (hz := by exact rfl) ?_
        refine mv ?_
        refine gd (fun h2 => ?_) (fun h2 => ?_)
        ·
          refine no ?_
          refine no ?_
          refine no ?_
          refine no ?_
          refine pkT ?_
          refine pkT ?_
          refine rNil ?_
          refine wx 2 ⟨_, ?_, rfl⟩
          (try simp only [decide_eq_true_eq, decide_eq_false_iff_not] at *)
          simp_all [gF, in_lt, in_ge]
        ·
          first | refine ff ?_ | refine fb ?_ | refine fo ?_
          first | refine l1f ?_ | refine l1b ?_ | refine l1o ?_
          refine mv ?_
          refine bo (hz := by exact rfl) ?_
          refine pkF ?_
          refine pkT ?_
          refine rNil ?_
          refine wx 2 ⟨_, ?_, rfl⟩
          (try simp only [decide_eq_true_eq, decide_eq_false_iff_not] at *)
          simp_all [gF, in_lt, in_ge]
      ·
        refine no ?_
        refine no ?_
        refine no ?_
        refine no ?_
        refine noU ?_
        refine noU ?_
        refine noU ?_
        refine noU ?_
        refine no ?_
        refine pkF ?_
        refine rNil ?_
        refine wx 2 ⟨_, ?_, rfl⟩
        (try simp only [decide_eq_true_eq, decide_eq_false_iff_not] at *)
        simp_all [gF, in_lt, in_ge]
    ·
      rintro S ⟨v1, hv1, rfl⟩
      refine al_join 14 (fun S => ∃ v : Bool, v = ((gF (dF x.op) x.dst p.rg) || gF (aF x.op) x.a p.rg) ∧ S = ⟨[(49, .r (B v)), (10, .r (I p.rg)), (8, .r (B (cF x.op))), (7, .r (B (bF x.op))), (6, .r (B (aF x.op))), (3, .box 1 0), (2, .box 0 0)], [bxP p, bxI x]⟩) ?_ ?_
      ·
        refine mv ?_
        refine gd (fun h3 => ?_) (fun h3 => ?_)
        ·
          refine no ?_
          refine no ?_
          refine noU ?_
          refine noU ?_
          refine noU ?_
          refine noU ?_
          refine noU ?_
          refine noU ?_
          refine noU ?_
          refine noU ?_
          refine noU ?_
          refine no ?_
          refine pkT ?_
          refine rNil ?_
          refine wx 2 ⟨_, ?_, rfl⟩
          rw [← hv1]
          clear hv1
          (try simp only [decide_eq_true_eq, decide_eq_false_iff_not] at *)
          simp_all [gF, in_lt, in_ge]
        ·
          refine mv ?_
          refine mv ?_
          refine gd (fun h4 => ?_) (fun h4 => ?_)
          ·
            first | refine ff ?_ | refine fb ?_ | refine fo ?_
            first | refine l1f ?_ | refine l1b ?_ | refine l1o ?_
            refine bo (hz := by exact rfl) ?_
            refine mv ?_
            refine gd (fun h5 => ?_) (fun h5 => ?_)
            ·
              refine no ?_
              refine no ?_
              refine no ?_
              refine no ?_
              refine pkT ?_
              refine pkT ?_
              refine pkF ?_
              refine rNil ?_
              refine wx 2 ⟨_, ?_, rfl⟩
              rw [← hv1]
              clear hv1
              (try simp only [decide_eq_true_eq, decide_eq_false_iff_not] at *)
              simp_all [gF, in_lt, in_ge]
            ·
              first | refine ff ?_ | refine fb ?_ | refine fo ?_
              first | refine l1f ?_ | refine l1b ?_ | refine l1o ?_
              refine mv ?_
              refine bo (hz := by exact rfl) ?_
              refine pkF ?_
              refine pkT ?_
              refine pkF ?_
              refine rNil ?_
              refine wx 2 ⟨_, ?_, rfl⟩
              rw [← hv1]
              clear hv1
              (try simp only [decide_eq_true_eq, decide_eq_false_iff_not] at *)
              simp_all [gF, in_lt, in_ge]
          ·
            refine no ?_
            refine no ?_
            refine no ?_
            refine no ?_
            refine noU ?_
            refine noU ?_
            refine noU ?_
            refine noU ?_
            refine no ?_
            refine pkF ?_
            refine pkF ?_
            refine rNil ?_
            refine wx 2 ⟨_, ?_, rfl⟩
            rw [← hv1]
            clear hv1
            (try simp only [decide_eq_true_eq, decide_eq_false_iff_not] at *)
            simp_all [gF, in_lt, in_ge]
      ·
        rintro S ⟨v2, hv2, rfl⟩
        refine al_join 14 (fun S => ∃ v : Bool, v = (((gF (dF x.op) x.dst p.rg) || gF (aF x.op) x.a p.rg) || gF (bF x.op) x.b p.rg) ∧ S = ⟨[(63, .r (B v)), (10, .r (I p.rg)), (8, .r (B (cF x.op))), (7, .r (B (bF x.op))), (6, .r (B (aF x.op))), (3, .box 1 0), (2, .box 0 0)], [bxP p, bxI x]⟩) ?_ ?_
        ·
          refine mv ?_
          refine gd (fun h6 => ?_) (fun h6 => ?_)
          ·
            refine no ?_
            refine no ?_
            refine noU ?_
            refine noU ?_
            refine noU ?_
            refine noU ?_
            refine noU ?_
            refine noU ?_
            refine noU ?_
            refine noU ?_
            refine noU ?_
            refine no ?_
            refine pkT ?_
            refine rNil ?_
            refine wx 2 ⟨_, ?_, rfl⟩
            rw [← hv2]
            clear hv1 hv2
            (try simp only [decide_eq_true_eq, decide_eq_false_iff_not] at *)
            simp_all [gF, in_lt, in_ge]
          ·
            refine mv ?_
            refine mv ?_
            refine gd (fun h7 => ?_) (fun h7 => ?_)
            ·
              first | refine ff ?_ | refine fb ?_ | refine fo ?_
              first | refine l1f ?_ | refine l1b ?_ | refine l1o ?_
              refine bo (hz := by exact rfl) ?_
              refine mv ?_
              refine gd (fun h8 => ?_) (fun h8 => ?_)
              ·
                refine no ?_
                refine no ?_
                refine no ?_
                refine no ?_
                refine pkT ?_
                refine pkT ?_
                refine pkF ?_
                refine rNil ?_
                refine wx 2 ⟨_, ?_, rfl⟩
                rw [← hv2]
                clear hv1 hv2
                (try simp only [decide_eq_true_eq, decide_eq_false_iff_not] at *)
                simp_all [gF, in_lt, in_ge]
              ·
                first | refine ff ?_ | refine fb ?_ | refine fo ?_
                first | refine l1f ?_ | refine l1b ?_ | refine l1o ?_
                refine mv ?_
                refine bo (hz := by exact rfl) ?_
                refine pkF ?_
                refine pkT ?_
                refine pkF ?_
                refine rNil ?_
                refine wx 2 ⟨_, ?_, rfl⟩
                rw [← hv2]
                clear hv1 hv2
                (try simp only [decide_eq_true_eq, decide_eq_false_iff_not] at *)
                simp_all [gF, in_lt, in_ge]
            ·
              refine no ?_
              refine no ?_
              refine no ?_
              refine no ?_
              refine noU ?_
              refine noU ?_
              refine noU ?_
              refine noU ?_
              refine no ?_
              refine pkF ?_
              refine pkF ?_
              refine rNil ?_
              refine wx 2 ⟨_, ?_, rfl⟩
              rw [← hv2]
              clear hv1 hv2
              (try simp only [decide_eq_true_eq, decide_eq_false_iff_not] at *)
              simp_all [gF, in_lt, in_ge]
        ·
          rintro S ⟨v3, hv3, rfl⟩
          refine al_runs ?_
          refine mv ?_
          refine gd (fun h9 => ?_) (fun h9 => ?_)
          ·
            refine no ?_
            refine no ?_
            refine noU ?_
            refine noU ?_
            refine noU ?_
            refine noU ?_
            refine noU ?_
            refine noU ?_
            refine noU ?_
            refine noU ?_
            refine noU ?_
            refine no ?_
            refine pkT ?_
            refine rNil ?_
            refine tn ?_
            refine wx 2 ⟨_, ?_, rfl⟩
            rw [rg_gF]
            rw [← hv3]
            clear hv1 hv2 hv3
            (try simp only [decide_eq_true_eq, decide_eq_false_iff_not] at *)
            simp_all [gF, in_lt, in_ge]
          ·
            refine mv ?_
            refine mv ?_
            refine gd (fun h10 => ?_) (fun h10 => ?_)
            ·
              first | refine ff ?_ | refine fb ?_ | refine fo ?_
              first | refine l1f ?_ | refine l1b ?_ | refine l1o ?_
              refine bo (hz := by exact rfl) ?_
              refine mv ?_
              refine gd (fun h11 => ?_) (fun h11 => ?_)
              ·
                refine no ?_
                refine no ?_
                refine no ?_
                refine no ?_
                refine pkT ?_
                refine pkT ?_
                refine pkF ?_
                refine rNil ?_
                refine tn ?_
                refine wx 2 ⟨_, ?_, rfl⟩
                rw [rg_gF]
                rw [← hv3]
                clear hv1 hv2 hv3
                (try simp only [decide_eq_true_eq, decide_eq_false_iff_not] at *)
                simp_all [gF, in_lt, in_ge]
              ·
                first | refine ff ?_ | refine fb ?_ | refine fo ?_
                first | refine l1f ?_ | refine l1b ?_ | refine l1o ?_
                refine mv ?_
                refine bo (hz := by exact rfl) ?_
                refine pkF ?_
                refine pkT ?_
                refine pkF ?_
                refine rNil ?_
                refine tn ?_
                refine wx 2 ⟨_, ?_, rfl⟩
                rw [rg_gF]
                rw [← hv3]
                clear hv1 hv2 hv3
                (try simp only [decide_eq_true_eq, decide_eq_false_iff_not] at *)
                simp_all [gF, in_lt, in_ge]
            ·
              refine no ?_
              refine no ?_
              refine no ?_
              refine no ?_
              refine noU ?_
              refine noU ?_
              refine noU ?_
              refine noU ?_
              refine no ?_
              refine pkF ?_
              refine pkF ?_
              refine rNil ?_
              refine tn ?_
              refine wx 2 ⟨_, ?_, rfl⟩
              rw [rg_gF]
              rw [← hv3]
              clear hv1 hv2 hv3
              (try simp only [decide_eq_true_eq, decide_eq_false_iff_not] at *)
              simp_all [gF, in_lt, in_ge]
  ·
    rintro S ⟨v, hv, rfl⟩
    refine cn (fun h12 => ?_) (fun h12 => ?_)
    ·
      have hr : rgOk p.rg x = false := by
        rw [h12] at hv
        cases hq : rgOk p.rg x with
        | false => rfl
        | true => rw [hq] at hv; cases hv
      refine sg ?_
      refine as_ ?_
      refine rNil ?_
      refine awp_ret ?_
      refine tr ?_
      exact ⟨.inr rfl, _, (.cons (by first | exact .v (by ((repeat apply Look.there rfl); exact Look.here)) (.f (.v _)) | exact .v (by ((repeat apply Look.there rfl); exact Look.here)) (.row rfl (by first | exact rfl | (simp; done) | (simp; omega))) | exact .v (by ((repeat apply Look.there rfl); exact Look.here)) (.f .nil) | exact .a (by ((repeat apply Look.there rfl); exact Look.here)) | skip) .nil), oneB (by rw [outF, hr]; rfl)⟩ -- LEAF 1: ret
    ·
      have hr : rgOk p.rg x = true := by
        rw [h12] at hv
        cases hq : rgOk p.rg x with
        | true => rfl
        | false => rw [hq] at hv; cases hv
      clear hv h12
      refine awp_skip ?_
      refine tn ?_
      refine sg ?_
      refine as_ ?_
      refine rNil ?_
      refine sg ?_
      refine as_ ?_
      refine rNil ?_
      refine sq ?_
      refine sg ?_
      first | refine ff ?_ | refine fb ?_ | refine fo ?_
      first | refine l1f ?_ | refine l1b ?_ | refine l1o ?_
      refine rNil ?_
      refine bk ?_
      refine sg ?_
      refine bo (hz := by exact rfl) ?_
      refine as_ ?_
      refine rNil ?_
      refine cn (fun h13 => ?_) (fun h13 => ?_)
      ·
        refine sg ?_
        refine as_ ?_
        refine rNil ?_
        refine rg ?_
        refine as_ ?_
        refine rNil ?_
        refine bn_ ?_
        refine tn ?_
        refine sg ?_
        first | refine ff ?_ | refine fb ?_ | refine fo ?_
        first | refine l1f ?_ | refine l1b ?_ | refine l1o ?_
        refine mv ?_
        refine bo (hz := by exact rfl) ?_
        refine mv ?_
        refine gd (fun h14 => ?_) (fun h14 => ?_)
        ·
          refine no ?_
          refine no ?_
          refine no ?_
          refine no ?_
          refine pkT ?_
          refine as_ ?_
          refine rNil ?_
          refine awp_ret ?_
          exact ⟨.inr rfl, _, (.cons (by first | exact .v (by ((repeat apply Look.there rfl); exact Look.here)) (.f (.v _)) | exact .v (by ((repeat apply Look.there rfl); exact Look.here)) (.row rfl (by first | exact rfl | (simp; done) | (simp; omega))) | exact .v (by ((repeat apply Look.there rfl); exact Look.here)) (.f .nil) | exact .a (by ((repeat apply Look.there rfl); exact Look.here)) | skip) .nil), oneB (by simp only [beq_iff_eq, beq_eq_false_iff_ne, ne_eq, decide_eq_true_eq, decide_eq_false_iff_not] at *; rw [outF, hr, Bool.true_and, Bool.eq_iff_iff]; clear hr; first | (simp [immOk, inF, *]; done) | (simp [immOk, inF, *]; omega))⟩ -- LEAF 2: ret
        ·
          first | refine ff ?_ | refine fb ?_ | refine fo ?_
          first | refine l1f ?_ | refine l1b ?_ | refine l1o ?_
          refine mv ?_
          refine bo (hz := by exact rfl) ?_
          refine pkF ?_
          refine as_ ?_
          refine rNil ?_
          refine awp_ret ?_
          exact ⟨.inr rfl, _, (.cons (by first | exact .v (by ((repeat apply Look.there rfl); exact Look.here)) (.f (.v _)) | exact .v (by ((repeat apply Look.there rfl); exact Look.here)) (.row rfl (by first | exact rfl | (simp; done) | (simp; omega))) | exact .v (by ((repeat apply Look.there rfl); exact Look.here)) (.f .nil) | exact .a (by ((repeat apply Look.there rfl); exact Look.here)) | skip) .nil), oneB (by simp only [beq_iff_eq, beq_eq_false_iff_ne, ne_eq, decide_eq_true_eq, decide_eq_false_iff_not] at *; rw [outF, hr, Bool.true_and, Bool.eq_iff_iff]; clear hr; first | (simp [immOk, inF, *]; done) | (simp [immOk, inF, *]; omega))⟩ -- LEAF 3: ret
      ·
        refine sg ?_
        refine bo (hz := by exact rfl) ?_
        refine as_ ?_
        refine rNil ?_
        refine cn (fun h15 => ?_) (fun h15 => ?_)
        ·
          refine sg ?_
          first | refine ff ?_ | refine fb ?_ | refine fo ?_
          first | refine l1f ?_ | refine l1b ?_ | refine l1o ?_
          refine bo (hz := by first | exact bop_sub (by omega) (by omega) | exact rfl) ?_
          refine as_ ?_
          refine rNil ?_
          refine sg ?_
          first | refine ff ?_ | refine fb ?_ | refine fo ?_
          first | refine l1f ?_ | refine l1b ?_ | refine l1o ?_
          refine bo (hz := by exact rfl) ?_
          refine rNil ?_
          refine cn (fun h16 => ?_) (fun h16 => ?_)
          ·
            refine rg ?_
            first | refine ff ?_ | refine fb ?_ | refine fo ?_
            first | refine l1f ?_ | refine l1b ?_ | refine l1o ?_
            refine bo (hz := by first | exact bop_mul (by omega) (by omega) | exact rfl) ?_
            refine bo (hz := by first | exact bop_sub (by omega) (by omega) | exact rfl) ?_
            refine as_ ?_
            refine rNil ?_
            refine bn_ ?_
            refine tn ?_
            refine sg ?_
            first | refine ff ?_ | refine fb ?_ | refine fo ?_
            first | refine l1f ?_ | refine l1b ?_ | refine l1o ?_
            refine mv ?_
            refine bo (hz := by exact rfl) ?_
            refine mv ?_
            refine gd (fun h17 => ?_) (fun h17 => ?_)
            ·
              refine no ?_
              refine no ?_
              refine no ?_
              refine no ?_
              refine pkT ?_
              refine as_ ?_
              refine rNil ?_
              refine awp_ret ?_
              exact ⟨.inr rfl, _, (.cons (by first | exact .v (by ((repeat apply Look.there rfl); exact Look.here)) (.f (.v _)) | exact .v (by ((repeat apply Look.there rfl); exact Look.here)) (.row rfl (by first | exact rfl | (simp; done) | (simp; omega))) | exact .v (by ((repeat apply Look.there rfl); exact Look.here)) (.f .nil) | exact .a (by ((repeat apply Look.there rfl); exact Look.here)) | skip) .nil), oneB (by simp only [beq_iff_eq, beq_eq_false_iff_ne, ne_eq, decide_eq_true_eq, decide_eq_false_iff_not] at *; rw [outF, hr, Bool.true_and, Bool.eq_iff_iff]; clear hr; first | (simp [immOk, inF, *]; done) | (simp [immOk, inF, *]; omega))⟩ -- LEAF 4: ret
            ·
              first | refine ff ?_ | refine fb ?_ | refine fo ?_
              first | refine l1f ?_ | refine l1b ?_ | refine l1o ?_
              refine mv ?_
              refine bo (hz := by exact rfl) ?_
              refine pkF ?_
              refine as_ ?_
              refine rNil ?_
              refine awp_ret ?_
              exact ⟨.inr rfl, _, (.cons (by first | exact .v (by ((repeat apply Look.there rfl); exact Look.here)) (.f (.v _)) | exact .v (by ((repeat apply Look.there rfl); exact Look.here)) (.row rfl (by first | exact rfl | (simp; done) | (simp; omega))) | exact .v (by ((repeat apply Look.there rfl); exact Look.here)) (.f .nil) | exact .a (by ((repeat apply Look.there rfl); exact Look.here)) | skip) .nil), oneB (by simp only [beq_iff_eq, beq_eq_false_iff_ne, ne_eq, decide_eq_true_eq, decide_eq_false_iff_not] at *; rw [outF, hr, Bool.true_and, Bool.eq_iff_iff]; clear hr; first | (simp [immOk, inF, *]; done) | (simp [immOk, inF, *]; omega))⟩ -- LEAF 5: ret
          ·
            refine awp_skip ?_
            refine bn_ ?_
            refine tn ?_
            refine sg ?_
            first | refine ff ?_ | refine fb ?_ | refine fo ?_
            first | refine l1f ?_ | refine l1b ?_ | refine l1o ?_
            refine mv ?_
            refine bo (hz := by exact rfl) ?_
            refine mv ?_
            refine gd (fun h18 => ?_) (fun h18 => ?_)
            ·
              refine no ?_
              refine no ?_
              refine no ?_
              refine no ?_
              refine pkT ?_
              refine as_ ?_
              refine rNil ?_
              refine awp_ret ?_
              exact ⟨.inr rfl, _, (.cons (by first | exact .v (by ((repeat apply Look.there rfl); exact Look.here)) (.f (.v _)) | exact .v (by ((repeat apply Look.there rfl); exact Look.here)) (.row rfl (by first | exact rfl | (simp; done) | (simp; omega))) | exact .v (by ((repeat apply Look.there rfl); exact Look.here)) (.f .nil) | exact .a (by ((repeat apply Look.there rfl); exact Look.here)) | skip) .nil), oneB (by simp only [beq_iff_eq, beq_eq_false_iff_ne, ne_eq, decide_eq_true_eq, decide_eq_false_iff_not] at *; rw [outF, hr, Bool.true_and, Bool.eq_iff_iff]; clear hr; first | (simp [immOk, inF, *]; done) | (simp [immOk, inF, *]; omega))⟩ -- LEAF 6: ret
            ·
              first | refine ff ?_ | refine fb ?_ | refine fo ?_
              first | refine l1f ?_ | refine l1b ?_ | refine l1o ?_
              refine mv ?_
              refine bo (hz := by exact rfl) ?_
              refine pkF ?_
              refine as_ ?_
              refine rNil ?_
              refine awp_ret ?_
              exact ⟨.inr rfl, _, (.cons (by first | exact .v (by ((repeat apply Look.there rfl); exact Look.here)) (.f (.v _)) | exact .v (by ((repeat apply Look.there rfl); exact Look.here)) (.row rfl (by first | exact rfl | (simp; done) | (simp; omega))) | exact .v (by ((repeat apply Look.there rfl); exact Look.here)) (.f .nil) | exact .a (by ((repeat apply Look.there rfl); exact Look.here)) | skip) .nil), oneB (by simp only [beq_iff_eq, beq_eq_false_iff_ne, ne_eq, decide_eq_true_eq, decide_eq_false_iff_not] at *; rw [outF, hr, Bool.true_and, Bool.eq_iff_iff]; clear hr; first | (simp [immOk, inF, *]; done) | (simp [immOk, inF, *]; omega))⟩ -- LEAF 7: ret
        ·
          refine sg ?_
          refine bo (hz := by exact rfl) ?_
          refine as_ ?_
          refine rNil ?_
          refine cn (fun h19 => ?_) (fun h19 => ?_)
          ·
            refine rg ?_
            first | refine ff ?_ | refine fb ?_ | refine fo ?_
            first | refine l1f ?_ | refine l1b ?_ | refine l1o ?_
            refine bo (hz := by first | exact bop_sub (by omega) (by omega) | exact rfl) ?_
            refine as_ ?_
            refine rNil ?_
            refine bn_ ?_
            refine tn ?_
            refine sg ?_
            first | refine ff ?_ | refine fb ?_ | refine fo ?_
            first | refine l1f ?_ | refine l1b ?_ | refine l1o ?_
            refine mv ?_
            refine bo (hz := by exact rfl) ?_
            refine mv ?_
            refine gd (fun h20 => ?_) (fun h20 => ?_)
            ·
              refine no ?_
              refine no ?_
              refine no ?_
              refine no ?_
              refine pkT ?_
              refine as_ ?_
              refine rNil ?_
              refine awp_ret ?_
              exact ⟨.inr rfl, _, (.cons (by first | exact .v (by ((repeat apply Look.there rfl); exact Look.here)) (.f (.v _)) | exact .v (by ((repeat apply Look.there rfl); exact Look.here)) (.row rfl (by first | exact rfl | (simp; done) | (simp; omega))) | exact .v (by ((repeat apply Look.there rfl); exact Look.here)) (.f .nil) | exact .a (by ((repeat apply Look.there rfl); exact Look.here)) | skip) .nil), oneB (by simp only [beq_iff_eq, beq_eq_false_iff_ne, ne_eq, decide_eq_true_eq, decide_eq_false_iff_not] at *; rw [outF, hr, Bool.true_and, Bool.eq_iff_iff]; clear hr; first | (simp [immOk, inF, *]; done) | (simp [immOk, inF, *]; omega))⟩ -- LEAF 8: ret
            ·
              first | refine ff ?_ | refine fb ?_ | refine fo ?_
              first | refine l1f ?_ | refine l1b ?_ | refine l1o ?_
              refine mv ?_
              refine bo (hz := by exact rfl) ?_
              refine pkF ?_
              refine as_ ?_
              refine rNil ?_
              refine awp_ret ?_
              exact ⟨.inr rfl, _, (.cons (by first | exact .v (by ((repeat apply Look.there rfl); exact Look.here)) (.f (.v _)) | exact .v (by ((repeat apply Look.there rfl); exact Look.here)) (.row rfl (by first | exact rfl | (simp; done) | (simp; omega))) | exact .v (by ((repeat apply Look.there rfl); exact Look.here)) (.f .nil) | exact .a (by ((repeat apply Look.there rfl); exact Look.here)) | skip) .nil), oneB (by simp only [beq_iff_eq, beq_eq_false_iff_ne, ne_eq, decide_eq_true_eq, decide_eq_false_iff_not] at *; rw [outF, hr, Bool.true_and, Bool.eq_iff_iff]; clear hr; first | (simp [immOk, inF, *]; done) | (simp [immOk, inF, *]; omega))⟩ -- LEAF 9: ret
          ·
            refine sg ?_
            refine bo (hz := by exact rfl) ?_
            refine as_ ?_
            refine rNil ?_
            refine cn (fun h21 => ?_) (fun h21 => ?_)
            ·
              refine rg ?_
              first | refine ff ?_ | refine fb ?_ | refine fo ?_
              first | refine l1f ?_ | refine l1b ?_ | refine l1o ?_
              refine bo (hz := by first | exact bop_sub (by omega) (by omega) | exact rfl) ?_
              refine as_ ?_
              refine rNil ?_
              refine bn_ ?_
              refine tn ?_
              refine sg ?_
              first | refine ff ?_ | refine fb ?_ | refine fo ?_
              first | refine l1f ?_ | refine l1b ?_ | refine l1o ?_
              refine mv ?_
              refine bo (hz := by exact rfl) ?_
              refine mv ?_
              refine gd (fun h22 => ?_) (fun h22 => ?_)
              ·
                refine no ?_
                refine no ?_
                refine no ?_
                refine no ?_
                refine pkT ?_
                refine as_ ?_
                refine rNil ?_
                refine awp_ret ?_
                exact ⟨.inr rfl, _, (.cons (by first | exact .v (by ((repeat apply Look.there rfl); exact Look.here)) (.f (.v _)) | exact .v (by ((repeat apply Look.there rfl); exact Look.here)) (.row rfl (by first | exact rfl | (simp; done) | (simp; omega))) | exact .v (by ((repeat apply Look.there rfl); exact Look.here)) (.f .nil) | exact .a (by ((repeat apply Look.there rfl); exact Look.here)) | skip) .nil), oneB (by simp only [beq_iff_eq, beq_eq_false_iff_ne, ne_eq, decide_eq_true_eq, decide_eq_false_iff_not] at *; rw [outF, hr, Bool.true_and, Bool.eq_iff_iff]; clear hr; first | (simp [immOk, inF, *]; done) | (simp [immOk, inF, *]; omega))⟩ -- LEAF 10: ret
              ·
                first | refine ff ?_ | refine fb ?_ | refine fo ?_
                first | refine l1f ?_ | refine l1b ?_ | refine l1o ?_
                refine mv ?_
                refine bo (hz := by exact rfl) ?_
                refine pkF ?_
                refine as_ ?_
                refine rNil ?_
                refine awp_ret ?_
                exact ⟨.inr rfl, _, (.cons (by first | exact .v (by ((repeat apply Look.there rfl); exact Look.here)) (.f (.v _)) | exact .v (by ((repeat apply Look.there rfl); exact Look.here)) (.row rfl (by first | exact rfl | (simp; done) | (simp; omega))) | exact .v (by ((repeat apply Look.there rfl); exact Look.here)) (.f .nil) | exact .a (by ((repeat apply Look.there rfl); exact Look.here)) | skip) .nil), oneB (by simp only [beq_iff_eq, beq_eq_false_iff_ne, ne_eq, decide_eq_true_eq, decide_eq_false_iff_not] at *; rw [outF, hr, Bool.true_and, Bool.eq_iff_iff]; clear hr; first | (simp [immOk, inF, *]; done) | (simp [immOk, inF, *]; omega))⟩ -- LEAF 11: ret
            ·
              refine sq ?_
              refine sg ?_
              refine bo (hz := by exact rfl) ?_
              refine as_ ?_
              refine rNil ?_
              refine cn (fun h23 => ?_) (fun h23 => ?_)
              ·
                refine awp_skip ?_
                refine tn ?_
                refine cn (fun h24 => ?_) (fun h24 => ?_)
                ·
                  refine rg ?_
                  first | refine ff ?_ | refine fb ?_ | refine fo ?_
                  first | refine l1f ?_ | refine l1b ?_ | refine l1o ?_
                  refine bo (hz := by first | exact bop_mul (by omega) (by omega) | exact rfl) ?_
                  refine bo (hz := by first | exact bop_sub (by omega) (by omega) | exact rfl) ?_
                  refine as_ ?_
                  refine rNil ?_
                  refine bn_ ?_
                  refine tn ?_
                  refine sg ?_
                  first | refine ff ?_ | refine fb ?_ | refine fo ?_
                  first | refine l1f ?_ | refine l1b ?_ | refine l1o ?_
                  refine mv ?_
                  refine bo (hz := by exact rfl) ?_
                  refine mv ?_
                  refine gd (fun h25 => ?_) (fun h25 => ?_)
                  ·
                    refine no ?_
                    refine no ?_
                    refine no ?_
                    refine no ?_
                    refine pkT ?_
                    refine as_ ?_
                    refine rNil ?_
                    refine awp_ret ?_
                    exact ⟨.inr rfl, _, (.cons (by first | exact .v (by ((repeat apply Look.there rfl); exact Look.here)) (.f (.v _)) | exact .v (by ((repeat apply Look.there rfl); exact Look.here)) (.row rfl (by first | exact rfl | (simp; done) | (simp; omega))) | exact .v (by ((repeat apply Look.there rfl); exact Look.here)) (.f .nil) | exact .a (by ((repeat apply Look.there rfl); exact Look.here)) | skip) .nil), oneB (by simp only [beq_iff_eq, beq_eq_false_iff_ne, ne_eq, decide_eq_true_eq, decide_eq_false_iff_not] at *; rw [outF, hr, Bool.true_and, Bool.eq_iff_iff]; clear hr; first | (simp [immOk, inF, *]; done) | (simp [immOk, inF, *]; omega))⟩ -- LEAF 12: ret
                  ·
                    first | refine ff ?_ | refine fb ?_ | refine fo ?_
                    first | refine l1f ?_ | refine l1b ?_ | refine l1o ?_
                    refine mv ?_
                    refine bo (hz := by exact rfl) ?_
                    refine pkF ?_
                    refine as_ ?_
                    refine rNil ?_
                    refine awp_ret ?_
                    exact ⟨.inr rfl, _, (.cons (by first | exact .v (by ((repeat apply Look.there rfl); exact Look.here)) (.f (.v _)) | exact .v (by ((repeat apply Look.there rfl); exact Look.here)) (.row rfl (by first | exact rfl | (simp; done) | (simp; omega))) | exact .v (by ((repeat apply Look.there rfl); exact Look.here)) (.f .nil) | exact .a (by ((repeat apply Look.there rfl); exact Look.here)) | skip) .nil), oneB (by simp only [beq_iff_eq, beq_eq_false_iff_ne, ne_eq, decide_eq_true_eq, decide_eq_false_iff_not] at *; rw [outF, hr, Bool.true_and, Bool.eq_iff_iff]; clear hr; first | (simp [immOk, inF, *]; done) | (simp [immOk, inF, *]; omega))⟩ -- LEAF 13: ret
                ·
                  first | exact absurd h24 (by decide) | (exfalso; simp_all; done)
              ·
                refine rg ?_
                refine bo (hz := by exact rfl) ?_
                refine as_ ?_
                refine rNil ?_
                refine tn ?_
                refine cn (fun h26 => ?_) (fun h26 => ?_)
                ·
                  refine rg ?_
                  first | refine ff ?_ | refine fb ?_ | refine fo ?_
                  first | refine l1f ?_ | refine l1b ?_ | refine l1o ?_
                  refine bo (hz := by first | exact bop_mul (by omega) (by omega) | exact rfl) ?_
                  refine bo (hz := by first | exact bop_sub (by omega) (by omega) | exact rfl) ?_
                  refine as_ ?_
                  refine rNil ?_
                  refine bn_ ?_
                  refine tn ?_
                  refine sg ?_
                  first | refine ff ?_ | refine fb ?_ | refine fo ?_
                  first | refine l1f ?_ | refine l1b ?_ | refine l1o ?_
                  refine mv ?_
                  refine bo (hz := by exact rfl) ?_
                  refine mv ?_
                  refine gd (fun h27 => ?_) (fun h27 => ?_)
                  ·
                    refine no ?_
                    refine no ?_
                    refine no ?_
                    refine no ?_
                    refine pkT ?_
                    refine as_ ?_
                    refine rNil ?_
                    refine awp_ret ?_
                    exact ⟨.inr rfl, _, (.cons (by first | exact .v (by ((repeat apply Look.there rfl); exact Look.here)) (.f (.v _)) | exact .v (by ((repeat apply Look.there rfl); exact Look.here)) (.row rfl (by first | exact rfl | (simp; done) | (simp; omega))) | exact .v (by ((repeat apply Look.there rfl); exact Look.here)) (.f .nil) | exact .a (by ((repeat apply Look.there rfl); exact Look.here)) | skip) .nil), oneB (by simp only [beq_iff_eq, beq_eq_false_iff_ne, ne_eq, decide_eq_true_eq, decide_eq_false_iff_not] at *; rw [outF, hr, Bool.true_and, Bool.eq_iff_iff]; clear hr; first | (simp [immOk, inF, *]; done) | (simp [immOk, inF, *]; omega))⟩ -- LEAF 14: ret
                  ·
                    first | refine ff ?_ | refine fb ?_ | refine fo ?_
                    first | refine l1f ?_ | refine l1b ?_ | refine l1o ?_
                    refine mv ?_
                    refine bo (hz := by exact rfl) ?_
                    refine pkF ?_
                    refine as_ ?_
                    refine rNil ?_
                    refine awp_ret ?_
                    exact ⟨.inr rfl, _, (.cons (by first | exact .v (by ((repeat apply Look.there rfl); exact Look.here)) (.f (.v _)) | exact .v (by ((repeat apply Look.there rfl); exact Look.here)) (.row rfl (by first | exact rfl | (simp; done) | (simp; omega))) | exact .v (by ((repeat apply Look.there rfl); exact Look.here)) (.f .nil) | exact .a (by ((repeat apply Look.there rfl); exact Look.here)) | skip) .nil), oneB (by simp only [beq_iff_eq, beq_eq_false_iff_ne, ne_eq, decide_eq_true_eq, decide_eq_false_iff_not] at *; rw [outF, hr, Bool.true_and, Bool.eq_iff_iff]; clear hr; first | (simp [immOk, inF, *]; done) | (simp [immOk, inF, *]; omega))⟩ -- LEAF 15: ret
                ·
                  refine sg ?_
                  refine bo (hz := by exact rfl) ?_
                  refine as_ ?_
                  refine rNil ?_
                  refine cn (fun h28 => ?_) (fun h28 => ?_)
                  ·
                    refine rg ?_
                    first | refine ff ?_ | refine fb ?_ | refine fo ?_
                    first | refine l1f ?_ | refine l1b ?_ | refine l1o ?_
                    refine bo (hz := by first | exact bop_sub (by omega) (by omega) | exact rfl) ?_
                    refine as_ ?_
                    refine rNil ?_
                    refine bn_ ?_
                    refine tn ?_
                    refine sg ?_
                    first | refine ff ?_ | refine fb ?_ | refine fo ?_
                    first | refine l1f ?_ | refine l1b ?_ | refine l1o ?_
                    refine mv ?_
                    refine bo (hz := by exact rfl) ?_
                    refine mv ?_
                    refine gd (fun h29 => ?_) (fun h29 => ?_)
                    ·
                      refine no ?_
                      refine no ?_
                      refine no ?_
                      refine no ?_
                      refine pkT ?_
                      refine as_ ?_
                      refine rNil ?_
                      refine awp_ret ?_
                      exact ⟨.inr rfl, _, (.cons (by first | exact .v (by ((repeat apply Look.there rfl); exact Look.here)) (.f (.v _)) | exact .v (by ((repeat apply Look.there rfl); exact Look.here)) (.row rfl (by first | exact rfl | (simp; done) | (simp; omega))) | exact .v (by ((repeat apply Look.there rfl); exact Look.here)) (.f .nil) | exact .a (by ((repeat apply Look.there rfl); exact Look.here)) | skip) .nil), oneB (by simp only [beq_iff_eq, beq_eq_false_iff_ne, ne_eq, decide_eq_true_eq, decide_eq_false_iff_not] at *; rw [outF, hr, Bool.true_and, Bool.eq_iff_iff]; clear hr; first | (simp [immOk, inF, *]; done) | (simp [immOk, inF, *]; omega))⟩ -- LEAF 16: ret
                    ·
                      first | refine ff ?_ | refine fb ?_ | refine fo ?_
                      first | refine l1f ?_ | refine l1b ?_ | refine l1o ?_
                      refine mv ?_
                      refine bo (hz := by exact rfl) ?_
                      refine pkF ?_
                      refine as_ ?_
                      refine rNil ?_
                      refine awp_ret ?_
                      exact ⟨.inr rfl, _, (.cons (by first | exact .v (by ((repeat apply Look.there rfl); exact Look.here)) (.f (.v _)) | exact .v (by ((repeat apply Look.there rfl); exact Look.here)) (.row rfl (by first | exact rfl | (simp; done) | (simp; omega))) | exact .v (by ((repeat apply Look.there rfl); exact Look.here)) (.f .nil) | exact .a (by ((repeat apply Look.there rfl); exact Look.here)) | skip) .nil), oneB (by simp only [beq_iff_eq, beq_eq_false_iff_ne, ne_eq, decide_eq_true_eq, decide_eq_false_iff_not] at *; rw [outF, hr, Bool.true_and, Bool.eq_iff_iff]; clear hr; first | (simp [immOk, inF, *]; done) | (simp [immOk, inF, *]; omega))⟩ -- LEAF 17: ret
                  ·
                    refine sg ?_
                    refine bo (hz := by exact rfl) ?_
                    refine as_ ?_
                    refine rNil ?_
                    refine cn (fun h30 => ?_) (fun h30 => ?_)
                    ·
                      refine sg ?_
                      refine as_ ?_
                      refine rNil ?_
                      refine rg ?_
                      refine as_ ?_
                      refine rNil ?_
                      refine bn_ ?_
                      refine tn ?_
                      refine sg ?_
                      first | refine ff ?_ | refine fb ?_ | refine fo ?_
                      first | refine l1f ?_ | refine l1b ?_ | refine l1o ?_
                      refine mv ?_
                      refine bo (hz := by exact rfl) ?_
                      refine mv ?_
                      refine gd (fun h31 => ?_) (fun h31 => ?_)
                      ·
                        refine no ?_
                        refine no ?_
                        refine no ?_
                        refine no ?_
                        refine pkT ?_
                        refine as_ ?_
                        refine rNil ?_
                        refine awp_ret ?_
                        exact ⟨.inr rfl, _, (.cons (by first | exact .v (by ((repeat apply Look.there rfl); exact Look.here)) (.f (.v _)) | exact .v (by ((repeat apply Look.there rfl); exact Look.here)) (.row rfl (by first | exact rfl | (simp; done) | (simp; omega))) | exact .v (by ((repeat apply Look.there rfl); exact Look.here)) (.f .nil) | exact .a (by ((repeat apply Look.there rfl); exact Look.here)) | skip) .nil), oneB (by simp only [beq_iff_eq, beq_eq_false_iff_ne, ne_eq, decide_eq_true_eq, decide_eq_false_iff_not] at *; rw [outF, hr, Bool.true_and, Bool.eq_iff_iff]; clear hr; first | (simp [immOk, inF, *]; done) | (simp [immOk, inF, *]; omega))⟩ -- LEAF 18: ret
                      ·
                        first | refine ff ?_ | refine fb ?_ | refine fo ?_
                        first | refine l1f ?_ | refine l1b ?_ | refine l1o ?_
                        refine mv ?_
                        refine bo (hz := by exact rfl) ?_
                        refine pkF ?_
                        refine as_ ?_
                        refine rNil ?_
                        refine awp_ret ?_
                        exact ⟨.inr rfl, _, (.cons (by first | exact .v (by ((repeat apply Look.there rfl); exact Look.here)) (.f (.v _)) | exact .v (by ((repeat apply Look.there rfl); exact Look.here)) (.row rfl (by first | exact rfl | (simp; done) | (simp; omega))) | exact .v (by ((repeat apply Look.there rfl); exact Look.here)) (.f .nil) | exact .a (by ((repeat apply Look.there rfl); exact Look.here)) | skip) .nil), oneB (by simp only [beq_iff_eq, beq_eq_false_iff_ne, ne_eq, decide_eq_true_eq, decide_eq_false_iff_not] at *; rw [outF, hr, Bool.true_and, Bool.eq_iff_iff]; clear hr; first | (simp [immOk, inF, *]; done) | (simp [immOk, inF, *]; omega))⟩ -- LEAF 19: ret
                    ·
                      refine sg ?_
                      refine as_ ?_
                      refine rNil ?_
                      refine awp_ret ?_
                      refine br ?_
                      refine tr ?_
                      exact ⟨.inr rfl, _, (.cons (by first | exact .v (by ((repeat apply Look.there rfl); exact Look.here)) (.f (.v _)) | exact .v (by ((repeat apply Look.there rfl); exact Look.here)) (.row rfl (by first | exact rfl | (simp; done) | (simp; omega))) | exact .v (by ((repeat apply Look.there rfl); exact Look.here)) (.f .nil) | exact .a (by ((repeat apply Look.there rfl); exact Look.here)) | skip) .nil), oneB (by simp only [beq_iff_eq, beq_eq_false_iff_ne, ne_eq, decide_eq_true_eq, decide_eq_false_iff_not] at *; rw [outF, hr, Bool.true_and, Bool.eq_iff_iff]; clear hr; first | (simp [immOk, inF, *]; done) | (simp [immOk, inF, *]; omega))⟩ -- LEAF 20: ret

end Go.Proofs.Ytnhljpbpfaablaa.VS
