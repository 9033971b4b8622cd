/- The walks of functions: what each computes, by itself. Conditions: none. -/
import Derived.Test.YtnhljpbpfaablaaF3
set_option linter.unusedVariables false
set_option linter.unusedSimpArgs false
namespace Go.Proofs.Ytnhljpbpfaablaa.VS
open Go
def opnF (p : Prg) (x : Ins) : Int := if okF x.op = false then 10 else if unF x = true then 2 else if rgOk p.rg x = true ∧ immOk p x = true then 0 else 6
abbrev bxA (x : Ins) : Ent := .box 84 [.r (I x.dst), .r (B (dF x.op)), .r (I x.a), .r (B (aF x.op)), .r (I x.b), .r (B (bF x.op)), .r (I x.c), .r (B (cF x.op))]
def z4 (x : Ins) : Prop := (dF x.op = true ∨ x.dst = 0) ∧ (aF x.op = true ∨ x.a = 0) ∧ (bF x.op = true ∨ x.b = 0) ∧ (cF x.op = true ∨ x.c = 0)
theorem un_of {x : Ins} (hz : z4 x) (hm : mF x.op = true ∨ x.imm = 0) : unF x = false := by
  obtain ⟨h1, h2, h3, h4⟩ := hz
  unfold unF
  rcases h1 with h1 | h1 <;> rcases h2 with h2 | h2 <;> rcases h3 with h3 | h3 <;> rcases h4 with h4 | h4 <;> rcases hm with hm | hm <;> simp [h1, h2, h3, h4, hm]
theorem opn_un {p : Prg} {x : Ins} (h0 : okF x.op = true) (h : unF x = true) : opnF p x = 2 := by rw [opnF, if_neg (by rw [h0]; decide), if_pos h]
theorem opn_out {p : Prg} {x : Ins} (h0 : okF x.op = true) (h : unF x = false) (hr : rgOk p.rg x = false ∨ immOk p x = false) : opnF p x = 6 := by
  rw [opnF, if_neg (by rw [h0]; decide), if_neg (by rw [h]; decide), if_neg (by rintro ⟨h1, h2⟩; rw [h1, h2] at hr; rcases hr with h | h <;> cases h)]
theorem opn_ok {p : Prg} {x : Ins} (h0 : okF x.op = true) (h : unF x = false) (h1 : rgOk p.rg x = true) (h2 : immOk p x = true) : opnF p x = 0 := by
  rw [opnF, if_neg (by rw [h0]; decide), if_neg (by rw [h]; decide), if_pos ⟨h1, h2⟩]
def fvI (x : Ins) (k : Nat) : Int := if k = 0 then x.dst else if k = 1 then x.a else if k = 2 then x.b else x.c
def fuI (x : Ins) (k : Nat) : Bool := if k = 0 then dF x.op else if k = 1 then aF x.op else if k = 2 then bF x.op else cF x.op
theorem rgs_at (x : Ins) {k : Nat} (hk : (k : Int) < 4) : ((rgsF x).drop ((k : Int).toNat * 2)).take 2 = [.i .i64 (fvI x k), .b (fuI x k)] := by
  rcases (show k = 0 ∨ k = 1 ∨ k = 2 ∨ k = 3 by omega) with h | h | h | h <;> subst h <;> rfl
theorem z4_of {x : Ins} (h : ∀ j < 4, fuI x j = true ∨ fvI x j = 0) : z4 x := ⟨h 0 (by decide), h 1 (by decide), h 2 (by decide), h 3 (by decide)⟩
theorem un_at {x : Ins} {k : Nat} (hk : k < 4) (h1 : fuI x k = false) (h2 : fvI x k ≠ 0) : unF x = true := by
  rcases (show k = 0 ∨ k = 1 ∨ k = 2 ∨ k = 3 by omega) with h | h | h | h <;> subst h <;> simp [fuI, fvI] at h1 h2 <;> simp [unF, h1, h2]
theorem rg_of {n : Int} {x : Ins} (h : ∀ j < 4, fuI x j = false ∨ inF (fvI x j) 0 (n - 1) = true) : rgOk n x = true := by
  have h0 := h 0 (by decide); have h1 := h 1 (by decide); have h2 := h 2 (by decide); have h3 := h 3 (by decide)
  simp [fuI, fvI] at h0 h1 h2 h3
  simp [rgOk, h0, h1, h2, h3]
theorem rg_at {n : Int} {x : Ins} {k : Nat} (hk : k < 4) (h1 : fuI x k = true) (h2 : inF (fvI x k) 0 (n - 1) = false) : rgOk n x = false := by
  rcases (show k = 0 ∨ k = 1 ∨ k = 2 ∨ k = 3 by omega) with h | h | h | h <;> subst h <;> simp [fuI, fvI] at h1 h2 <;> simp [rgOk, h1, h2]
theorem upto_succ {q : Nat → Prop} {k : Nat} (h : ∀ j < k, q j) (hk : q k) : ∀ j < k + 1, q j := fun j hj => by
  rcases Nat.lt_or_ge j k with h1 | h1
  · exact h j h1
  · rw [show j = k by omega]; exact hk
/-- frustum/isa.operands -/
theorem c38 (p : Prg) (x : Ins) (hs : Small p) : Fn Try.prog 38 [A p, A x] (.one (I (opnF p x))) := by
  refine fnI Try.func38 Try.ntmps38 fun hb => ?_
  have hs' := hs
  obtain ⟨s1, s2, s3, s4, s5, s6, s7, s8, s9, s10, s11, s12⟩ := hs'
  refine sg ?_
  refine bx _ ?_
  refine bx _ ?_
  refine as_ ?_
  refine rNil ?_
  refine sq ?_
  refine sg ?_
  first | refine ff ?_ | refine fb ?_ | refine fo ?_
  first | refine l1f ?_ | refine l1b ?_ | refine l1o ?_
  refine cl (c52 x.op) ?_
  refine nt ?_
  refine rNil ?_
  refine cn (fun h1 => ?_) (fun h1 => ?_)
  ·
    have h0 : okF x.op = false := by simpa using h1
    refine sg ?_
    refine as_ ?_
    refine rNil ?_
    refine awp_ret ?_
    refine tr ?_
    exact ⟨.inr rfl, _, (.cons (by first | exact .v (by ((repeat apply Look.there rfl); exact Look.here)) (.f (.v _)) | exact .v (by ((repeat apply Look.there rfl); exact Look.here)) (.row rfl (by first | exact rfl | (simp; done) | (simp; omega))) | exact .v (by ((repeat apply Look.there rfl); exact Look.here)) (.f .nil) | exact .a (by ((repeat apply Look.there rfl); exact Look.here)) | skip) .nil), oneI (by rw [opnF, if_pos h0])⟩ -- LEAF 1: ret
  ·
    have h0 : okF x.op = true := by simpa using h1
    clear h1
    refine awp_skip ?_
    refine tn ?_
    refine sg ?_
    first | refine ff ?_ | refine fb ?_ | refine fo ?_
    first | refine l1f ?_ | refine l1b ?_ | refine l1o ?_
    refine cl (c41 x.op) ?_
    refine mv ?_
    refine ex ?_
    refine ex ?_
    refine ex ?_
    refine ex ?_
    refine ex ?_
    refine as_ ?_
    refine as_ ?_
    refine as_ ?_
    refine as_ ?_
    refine as_ ?_
    refine rNil ?_
    refine sg ?_
    first | refine lAf ?_ | refine lAb ?_ | refine lAo ?_
    refine cl (c53 x) ?_
    refine al _ ?_
    refine sA ?_
    refine rNil ?_
    refine sq ?_
    refine sg ?_
    first | refine lAf ?_ | refine lAb ?_ | refine lAo ?_
    refine mv ?_
    refine rNil ?_
    refine bk ?_
    refine lp (fun m S => ∃ k : Nat, m = 4 - k ∧ k ≤ 4 ∧ (∀ j < k, fuI x j = true ∨ fvI x j = 0) ∧ S = ⟨[(31, .r (I k)), (30, .r (.agg (rgsF x))), (9, .r (B (mF x.op))), (10, .box 2 0), (3, .box 1 0), (2, .box 0 0)], [bxP p, bxI x, bxA x]⟩) 4 ?_ ?_
    · exact wx 3 ⟨0, rfl, by decide, fun j hj => absurd hj (Nat.not_lt_zero _), rfl⟩
    rintro m S ⟨k, hm, hk4, hz, rfl⟩
    refine sg ?_
    refine bo (hz := by exact rfl) ?_
    refine rNil ?_
    refine sq ?_
    refine cn (fun h2 => ?_) (fun h2 => ?_)
    ·
      have hk : (k : Int) < 4 := by simpa using h2
      refine awp_skip ?_
      refine tn ?_
      refine sq ?_
      refine bk ?_
      refine sg ?_
      refine ixA ?_
      rw [rgs_at x hk]
      refine al _ ?_
      refine sA ?_
      refine rNil ?_
      refine sg ?_
      first | refine ff ?_ | refine fb ?_ | refine fo ?_
      first | refine l1f ?_ | refine l1b ?_ | refine l1o ?_
      refine nt ?_
      refine mv ?_
      refine gd (fun h3 => ?_) (fun h3 => ?_)
      ·
        have hu : fuI x k = false := by simpa using h3
        first | refine ff ?_ | refine fb ?_ | refine fo ?_
        first | refine l1f ?_ | refine l1b ?_ | refine l1o ?_
        refine bo (hz := by exact rfl) ?_
        refine pkT ?_
        refine rNil ?_
        refine cn (fun h4 => ?_) (fun h4 => ?_)
        ·
          refine sg ?_
          refine as_ ?_
          refine rNil ?_
          refine awp_ret ?_
          refine br ?_
          refine tr ?_
          refine tr ?_
          refine br ?_
          refine tr ?_
          exact ⟨.inr rfl, _, (.cons (by first | exact .v (by ((repeat apply Look.there rfl); exact Look.here)) (.f (.v _)) | exact .v (by ((repeat apply Look.there rfl); exact Look.here)) (.row rfl (by first | exact rfl | (simp; done) | (simp; omega))) | exact .v (by ((repeat apply Look.there rfl); exact Look.here)) (.f .nil) | exact .a (by ((repeat apply Look.there rfl); exact Look.here)) | skip) .nil), oneI (opn_un h0 (un_at (by omega) hu (by simpa using h4))).symm⟩ -- LEAF 2: ret
        ·
          refine awp_skip ?_
          refine bn_ ?_
          refine tn ?_
          refine rg ?_
          refine bo (hz := by first | exact bop_add (by omega) (by omega) | exact rfl) ?_
          refine mv ?_
          refine rNil ?_
          refine tn ?_
          exact ⟨4 - (k + 1), by omega, wx 3 ⟨k + 1, rfl, by omega, upto_succ hz (.inr (by simpa using h4)), rfl⟩⟩ -- LEAF 3: round of loop 1
      ·
        have hu : fuI x k = true := by simpa using h3
        refine no ?_
        refine no ?_
        refine no ?_
        refine pkF ?_
        refine rNil ?_
        refine cn (fun h5 => ?_) (fun h5 => ?_)
        ·
          first | exact absurd h5 (by decide) | (exfalso; simp_all; done)
        ·
          refine awp_skip ?_
          refine bn_ ?_
          refine tn ?_
          refine rg ?_
          refine bo (hz := by first | exact bop_add (by omega) (by omega) | exact rfl) ?_
          refine mv ?_
          refine rNil ?_
          refine tn ?_
          exact ⟨4 - (k + 1), by omega, wx 3 ⟨k + 1, rfl, by omega, upto_succ hz (.inl hu), rfl⟩⟩ -- LEAF 4: round of loop 1
    ·
      have hk : k = 4 := by simp at h2; omega
      subst hk
      have hz := z4_of hz
      clear h2
      refine awp_exit ?_
      refine te ?_
      refine te ?_
      refine xbk ?_
      refine tn ?_
      refine jn (fun S => (mF x.op = true ∨ x.imm = 0) ∧ S = ⟨[(10, .box 2 0), (3, .box 1 0), (2, .box 0 0)], [bxP p, bxI x, bxA x]⟩) ?_ ?_
      ·
        refine sg ?_
        refine mv ?_
        refine nt ?_
        refine mv ?_
        refine gd (fun h6 => ?_) (fun h6 => ?_)
        ·
          first | refine ff ?_ | refine fb ?_ | refine fo ?_
          first | refine l1f ?_ | refine l1b ?_ | refine l1o ?_
          refine bo (hz := by exact rfl) ?_
          refine pkT ?_
          refine rNil ?_
          refine cn (fun h7 => ?_) (fun h7 => ?_)
          ·
            refine sg ?_
            refine as_ ?_
            refine rNil ?_
            refine awp_ret ?_
            refine tr ?_
            exact ⟨.inr rfl, _, (.cons (by first | exact .v (by ((repeat apply Look.there rfl); exact Look.here)) (.f (.v _)) | exact .v (by ((repeat apply Look.there rfl); exact Look.here)) (.row rfl (by first | exact rfl | (simp; done) | (simp; omega))) | exact .v (by ((repeat apply Look.there rfl); exact Look.here)) (.f .nil) | exact .a (by ((repeat apply Look.there rfl); exact Look.here)) | skip) .nil), oneI (opn_un h0 (by simp only [Bool.not_eq_true', bne_iff_ne, ne_eq] at h6 h7; simp [unF, h6, h7])).symm⟩ -- LEAF 5: ret
          ·
            refine awp_skip ?_
            refine tn ?_
            refine wx 3 ⟨by simp_all, rfl⟩
        ·
          refine no ?_
          refine no ?_
          refine no ?_
          refine pkF ?_
          refine rNil ?_
          refine cn (fun h8 => ?_) (fun h8 => ?_)
          ·
            first | exact absurd h8 (by decide) | (exfalso; simp_all; done)
          ·
            refine awp_skip ?_
            refine tn ?_
            refine wx 3 ⟨by simp_all, rfl⟩
      ·
        rintro S ⟨hm, rfl⟩
        have hun := un_of hz hm
        refine sq ?_
        refine sg ?_
        first | refine lAf ?_ | refine lAb ?_ | refine lAo ?_
        refine mv ?_
        refine rNil ?_
        refine bk ?_
        refine lp (fun m S => ∃ k : Nat, m = 4 - k ∧ k ≤ 4 ∧ (∀ j < k, fuI x j = false ∨ inF (fvI x j) 0 (p.rg - 1) = true) ∧ S = ⟨[(51, .r (I k)), (50, .r (.agg (rgsF x))), (3, .box 1 0), (2, .box 0 0)], [bxP p, bxI x]⟩) 4 ?_ ?_
        · exact wx 2 ⟨0, rfl, by decide, fun j hj => absurd hj (Nat.not_lt_zero _), rfl⟩
        rintro m S ⟨k, hm4, hk4, hz2, rfl⟩
        refine sg ?_
        refine bo (hz := by exact rfl) ?_
        refine rNil ?_
        refine sq ?_
        refine cn (fun h9 => ?_) (fun h9 => ?_)
        ·
          have hk : (k : Int) < 4 := by simpa using h9
          refine awp_skip ?_
          refine tn ?_
          refine sq ?_
          refine bk ?_
          refine sg ?_
          refine ixA ?_
          rw [rgs_at x hk]
          refine al _ ?_
          refine sA ?_
          refine rNil ?_
          refine sg ?_
          first | refine ff ?_ | refine fb ?_ | refine fo ?_
          first | refine l1f ?_ | refine l1b ?_ | refine l1o ?_
          refine mv ?_
          refine gd (fun h10 => ?_) (fun h10 => ?_)
          ·
            first | refine ff ?_ | refine fb ?_ | refine fo ?_
            first | refine l1f ?_ | refine l1b ?_ | refine l1o ?_
            first | refine ff ?_ | refine fb ?_ | refine fo ?_
            first | refine l1f ?_ | refine l1b ?_ | refine l1o ?_
            refine bo (hz := by first | exact bop_sub (by omega) (by omega) | exact rfl) ?_
            refine cl (c37 (fvI x k) 0 (p.rg - 1)) ?_
            refine nt ?_
            refine pkT ?_
            refine rNil ?_
            refine cn (fun h11 => ?_) (fun h11 => ?_)
            ·
              refine sg ?_
              refine as_ ?_
              refine rNil ?_
              refine awp_ret ?_
              refine br ?_
              refine tr ?_
              refine tr ?_
              refine br ?_
              refine tr ?_
              exact ⟨.inr rfl, _, (.cons (by first | exact .v (by ((repeat apply Look.there rfl); exact Look.here)) (.f (.v _)) | exact .v (by ((repeat apply Look.there rfl); exact Look.here)) (.row rfl (by first | exact rfl | (simp; done) | (simp; omega))) | exact .v (by ((repeat apply Look.there rfl); exact Look.here)) (.f .nil) | exact .a (by ((repeat apply Look.there rfl); exact Look.here)) | skip) .nil), oneI (opn_out h0 hun (.inl (rg_at (by omega) h10 (by simpa using h11)))).symm⟩ -- LEAF 6: ret
            ·
              refine awp_skip ?_
              refine bn_ ?_
              refine tn ?_
              refine rg ?_
              refine bo (hz := by first | exact bop_add (by omega) (by omega) | exact rfl) ?_
              refine mv ?_
              refine rNil ?_
              refine tn ?_
              exact ⟨4 - (k + 1), by omega, wx 2 ⟨k + 1, rfl, by omega, upto_succ hz2 (.inr (by simpa using h11)), rfl⟩⟩ -- LEAF 7: round of loop 2
          ·
            refine no ?_
            refine no ?_
            refine no ?_
            refine no ?_
            refine no ?_
            refine no ?_
            refine no ?_
            refine pkF ?_
            refine rNil ?_
            refine cn (fun h12 => ?_) (fun h12 => ?_)
            ·
              first | exact absurd h12 (by decide) | (exfalso; simp_all; done)
            ·
              refine awp_skip ?_
              refine bn_ ?_
              refine tn ?_
              refine rg ?_
              refine bo (hz := by first | exact bop_add (by omega) (by omega) | exact rfl) ?_
              refine mv ?_
              refine rNil ?_
              refine tn ?_
              exact ⟨4 - (k + 1), by omega, wx 2 ⟨k + 1, rfl, by omega, upto_succ hz2 (.inl h10), rfl⟩⟩ -- LEAF 8: round of loop 2
        ·
          have hk : k = 4 := by simp at h9; omega
          subst hk
          have hrg := rg_of hz2
          refine awp_exit ?_
          refine te ?_
          refine te ?_
          refine xbk ?_
          refine tn ?_
          refine sq ?_
          refine sg ?_
          first | refine lAf ?_ | refine lAb ?_ | refine lAo ?_
          first | refine lAf ?_ | refine lAb ?_ | refine lAo ?_
          refine cl (c54 p x hs) ?_
          refine nt ?_
          refine rNil ?_
          refine cn (fun h13 => ?_) (fun h13 => ?_)
          ·
            refine sg ?_
            refine as_ ?_
            refine rNil ?_
            refine awp_ret ?_
            refine tr ?_
            exact ⟨.inr rfl, _, (.cons (by first | exact .v (by ((repeat apply Look.there rfl); exact Look.here)) (.f (.v _)) | exact .v (by ((repeat apply Look.there rfl); exact Look.here)) (.row rfl (by first | exact rfl | (simp; done) | (simp; omega))) | exact .v (by ((repeat apply Look.there rfl); exact Look.here)) (.f .nil) | exact .a (by ((repeat apply Look.there rfl); exact Look.here)) | skip) .nil), oneI (opn_out h0 hun (.inr (by simpa using h13))).symm⟩ -- LEAF 9: ret
          ·
            refine awp_skip ?_
            refine tn ?_
            refine sg ?_
            refine as_ ?_
            refine rNil ?_
            refine awp_ret ?_
            exact ⟨.inr rfl, _, (.cons (by first | exact .v (by ((repeat apply Look.there rfl); exact Look.here)) (.f (.v _)) | exact .v (by ((repeat apply Look.there rfl); exact Look.here)) (.row rfl (by first | exact rfl | (simp; done) | (simp; omega))) | exact .v (by ((repeat apply Look.there rfl); exact Look.here)) (.f .nil) | exact .a (by ((repeat apply Look.there rfl); exact Look.here)) | skip) .nil), oneI (opn_ok h0 hun hrg (by simpa using h13)).symm⟩ -- LEAF 10: ret

end Go.Proofs.Ytnhljpbpfaablaa.VS
