/- The walks of functions: what each computes, by itself. Conditions: none. -/
import Derived.Test.YtnhljpbpfaablaaF6
set_option linter.unusedVariables false
set_option linter.unusedSimpArgs false
namespace Go.Proofs.Ytnhljpbpfaablaa.VS
open Go
instance (p : Prg) : Decidable (Small p) := by unfold Small; infer_instance
def vrun (p : Prg) : List Ins → List Int → Int
  | [], st => if st = [] then 0 else 16
  | x :: l, st => if opnF p x = 0 then (match nx p.st x.op st with | none => 16 | some st' => vrun p l st') else opnF p x
def validF (p : Prg) : Int := if 1 ≤ p.st ∧ p.st ≤ 3 then (if Small p then (if p.code.length ≤ 16384 then vrun p p.code [] else 5) else 6) else 10
theorem nx_ok {sg op : Int} {st l : List Int} (h : nx sg op st = some l) (hs : Okst st) : Okst l ∧ l.length ≤ st.length + 1 := by
  rw [nx_nl h]
  unfold nl
  have hd : Okst st.dropLast ∧ st.dropLast.length ≤ st.length + 1 := ⟨fun c hc => hs c (List.dropLast_subset _ hc), by simp; omega⟩
  have happ : ∀ (l : List Int) (c : Int), Okst l → (c = 1 ∨ c = 2 ∨ c = 3) → Okst (l ++ [c]) := fun l c hl hc d hd => by
    rcases List.mem_append.1 hd with h | h
    · exact hl d h
    · rw [List.mem_singleton.1 h]; exact hc
  split
  · exact ⟨happ _ _ hs (by decide), by simp⟩
  split
  · exact ⟨happ _ _ hd.1 (by decide), by simp <;> omega⟩
  split
  · exact hd
  split
  · exact ⟨happ _ _ hs (by decide), by simp⟩
  split
  · exact hd
  exact ⟨hs, by omega⟩
theorem vrun_cons {p : Prg} {x : Ins} {l : List Ins} {st st' : List Int} (h1 : opnF p x = 0) (h2 : nx p.st x.op st = some st') : vrun p (x :: l) st = vrun p l st' := by rw [vrun, if_pos h1, h2]
theorem vrun_bad {p : Prg} {x : Ins} {l : List Ins} {st : List Int} (h1 : opnF p x ≠ 0) : vrun p (x :: l) st = opnF p x := by rw [vrun, if_neg h1]
theorem vrun_none {p : Prg} {x : Ins} {l : List Ins} {st : List Int} (h1 : opnF p x = 0) (h2 : nx p.st x.op st = none) : vrun p (x :: l) st = 16 := by rw [vrun, if_pos h1, h2]
theorem drop_at {α : Type} {l : List α} {k : Nat} {x : α} (h : l[k]? = some x) : l.drop k = x :: l.drop (k + 1) := by
  obtain ⟨h1, h2⟩ := List.getElem?_eq_some_iff.1 h
  rw [List.drop_eq_getElem_cons h1, h2]
theorem in_and {x a y b : Int} : ∀ {v : Bool}, v = (inF x 0 a && inF y 0 b) → (v = true ↔ (0 ≤ x ∧ x ≤ a ∧ 0 ≤ y ∧ y ≤ b)) := by
  rintro v rfl; simp [inF]; omega
/-- frustum/isa.Validate -/
theorem c19 (p : Prg) : Fn Try.prog 19 [A p] (.one (I (validF p))) := by
  refine fnI Try.func19 Try.ntmps19 fun hb => ?_
  have hln := bd_len (hb (A p) (by simp) (.sl (p.code.map Enc.c)) (by simp [Enc.c, RV.flat]))
  rw [List.length_map] at hln
  refine sg ?_
  refine bx _ ?_
  refine as_ ?_
  refine rNil ?_
  refine jn (fun S => (1 ≤ p.st ∧ p.st ≤ 3) ∧ S = ⟨[(1, .box 0 0)], [bxP p]⟩) ?_ ?_
  ·
    refine sg ?_
    first | refine ff ?_ | refine fb ?_ | refine fo ?_
    first | refine l1f ?_ | refine l1b ?_ | refine l1o ?_
    refine bo (hz := by exact rfl) ?_
    refine mv ?_
    refine gd (fun h1 => ?_) (fun h1 => ?_)
    ·
      refine no ?_
      refine no ?_
      refine no ?_
      refine pkT ?_
      refine rNil ?_
      refine cn (fun h2 => ?_) (fun h2 => ?_)
      ·
        have g0 : ¬ (1 ≤ p.st ∧ p.st ≤ 3) := by simp at h1 h2; omega
        refine sg ?_
        refine as_ ?_
        refine rNil ?_
        refine awp_ret ?_
        refine tr ?_
        exact ⟨.inr rfl, _, (.cons (by first | exact .v (by ((repeat apply Look.there rfl); exact Look.here)) (.f (.v _)) | exact .v (by ((repeat apply Look.there rfl); exact Look.here)) (.row rfl (by first | exact rfl | (simp; done) | (simp; omega))) | exact .v (by ((repeat apply Look.there rfl); exact Look.here)) (.f .nil) | exact .a (by ((repeat apply Look.there rfl); exact Look.here)) | skip) .nil), oneI (by rw [validF, if_neg g0])⟩ -- LEAF 1: ret
      ·
        first | exact absurd h2 (by decide) | (exfalso; simp_all; done)
    ·
      first | refine ff ?_ | refine fb ?_ | refine fo ?_
      first | refine l1f ?_ | refine l1b ?_ | refine l1o ?_
      refine bo (hz := by exact rfl) ?_
      refine pkF ?_
      refine rNil ?_
      refine cn (fun h3 => ?_) (fun h3 => ?_)
      ·
        have g0 : ¬ (1 ≤ p.st ∧ p.st ≤ 3) := by simp at h1 h3; omega
        refine sg ?_
        refine as_ ?_
        refine rNil ?_
        refine awp_ret ?_
        refine tr ?_
        exact ⟨.inr rfl, _, (.cons (by first | exact .v (by ((repeat apply Look.there rfl); exact Look.here)) (.f (.v _)) | exact .v (by ((repeat apply Look.there rfl); exact Look.here)) (.row rfl (by first | exact rfl | (simp; done) | (simp; omega))) | exact .v (by ((repeat apply Look.there rfl); exact Look.here)) (.f .nil) | exact .a (by ((repeat apply Look.there rfl); exact Look.here)) | skip) .nil), oneI (by rw [validF, if_neg g0])⟩ -- LEAF 2: ret
      ·
        refine awp_skip ?_
        refine tn ?_
        refine wx 1 ⟨?_, rfl⟩
        simp at *; omega
  ·
    rintro S ⟨hst, rfl⟩
    refine jn (fun S => ∃ v : Bool, v = (inF p.ip 0 32 && inF p.ou 0 32) ∧ S = ⟨[(3, .r (B v)), (1, .box 0 0)], [bxP p]⟩) ?_ ?_
    ·
      refine rg ?_
      first | refine ff ?_ | refine fb ?_ | refine fo ?_
      first | refine l1f ?_ | refine l1b ?_ | refine l1o ?_
      refine cl (c37 _ _ _) ?_
      refine mv ?_
      refine gd (fun h4 => ?_) (fun h4 => ?_)
      ·
        first | refine ff ?_ | refine fb ?_ | refine fo ?_
        first | refine l1f ?_ | refine l1b ?_ | refine l1o ?_
        refine cl (c37 _ _ _) ?_
        refine pkT ?_
        refine as_ ?_
        refine rNil ?_
        refine tn ?_
        refine wx 1 ⟨_, ?_, rfl⟩
        simp_all
      ·
        refine no ?_
        refine no ?_
        refine no ?_
        refine pkF ?_
        refine as_ ?_
        refine rNil ?_
        refine tn ?_
        refine wx 1 ⟨_, ?_, rfl⟩
        simp_all
    ·
      rintro S ⟨v1, hv1, rfl⟩
      refine jn (fun S => ∃ v : Bool, v = (inF p.un 0 64 && (inF p.tx 0 4 && inF p.bf 0 4)) ∧ S = ⟨[(4, .r (B v)), (3, .r (B v1)), (1, .box 0 0)], [bxP p]⟩) ?_ ?_
      ·
        refine rg ?_
        first | refine ff ?_ | refine fb ?_ | refine fo ?_
        first | refine l1f ?_ | refine l1b ?_ | refine l1o ?_
        refine cl (c37 _ _ _) ?_
        refine mv ?_
        refine gd (fun h5 => ?_) (fun h5 => ?_)
        ·
          first | refine ff ?_ | refine fb ?_ | refine fo ?_
          first | refine l1f ?_ | refine l1b ?_ | refine l1o ?_
          refine cl (c37 _ _ _) ?_
          refine pkT ?_
          refine mv ?_
          refine gd (fun h6 => ?_) (fun h6 => ?_)
          ·
            first | refine ff ?_ | refine fb ?_ | refine fo ?_
            first | refine l1f ?_ | refine l1b ?_ | refine l1o ?_
            refine cl (c37 _ _ _) ?_
            refine pkT ?_
            refine as_ ?_
            refine rNil ?_
            refine tn ?_
            refine wx 1 ⟨_, ?_, rfl⟩
            simp_all
          ·
            refine no ?_
            refine no ?_
            refine no ?_
            refine pkF ?_
            refine as_ ?_
            refine rNil ?_
            refine tn ?_
            refine wx 1 ⟨_, ?_, rfl⟩
            simp_all
        ·
          refine no ?_
          refine no ?_
          refine no ?_
          refine pkF ?_
          refine mv ?_
          refine no ?_
          refine no ?_
          refine no ?_
          refine pkF ?_
          refine as_ ?_
          refine rNil ?_
          refine tn ?_
          refine wx 1 ⟨_, ?_, rfl⟩
          simp_all
      ·
        rintro S ⟨v2, hv2, rfl⟩
        refine jn (fun S => Small p ∧ S = ⟨[(1, .box 0 0)], [bxP p]⟩) ?_ ?_
        ·
          refine sg ?_
          first | refine ff ?_ | refine fb ?_ | refine fo ?_
          first | refine l1f ?_ | refine l1b ?_ | refine l1o ?_
          refine cl (c37 _ _ _) ?_
          refine nt ?_
          refine mv ?_
          refine gd (fun h7 => ?_) (fun h7 => ?_)
          ·
            refine no ?_
            refine no ?_
            refine pkT ?_
            refine mv ?_
            refine no ?_
            refine no ?_
            refine pkT ?_
            refine rNil ?_
            refine cn (fun h8 => ?_) (fun h8 => ?_)
            ·
              have g0 : ¬ Small p := by simp [inF] at hv1 hv2 h7 h8; unfold Small; omega
              refine sg ?_
              refine as_ ?_
              refine rNil ?_
              refine awp_ret ?_
              refine tr ?_
              exact ⟨.inr rfl, _, (.cons (by first | exact .v (by ((repeat apply Look.there rfl); exact Look.here)) (.f (.v _)) | exact .v (by ((repeat apply Look.there rfl); exact Look.here)) (.row rfl (by first | exact rfl | (simp; done) | (simp; omega))) | exact .v (by ((repeat apply Look.there rfl); exact Look.here)) (.f .nil) | exact .a (by ((repeat apply Look.there rfl); exact Look.here)) | skip) .nil), oneI (by rw [validF, if_pos hst, if_neg g0])⟩ -- LEAF 3: ret
            ·
              first | exact absurd h8 (by decide) | (exfalso; simp_all; done)
          ·
            refine mv ?_
            refine nt ?_
            refine pkF ?_
            refine mv ?_
            refine gd (fun h9 => ?_) (fun h9 => ?_)
            ·
              refine no ?_
              refine no ?_
              refine pkT ?_
              refine rNil ?_
              refine cn (fun h10 => ?_) (fun h10 => ?_)
              ·
                have g0 : ¬ Small p := by
                  intro hs
                  obtain ⟨s1, s2, s3, s4, s5, s6, s7, s8, s9, s10, s11, s12⟩ := hs
                  simp [inF, *] at *
                refine sg ?_
                refine as_ ?_
                refine rNil ?_
                refine awp_ret ?_
                refine tr ?_
                exact ⟨.inr rfl, _, (.cons (by first | exact .v (by ((repeat apply Look.there rfl); exact Look.here)) (.f (.v _)) | exact .v (by ((repeat apply Look.there rfl); exact Look.here)) (.row rfl (by first | exact rfl | (simp; done) | (simp; omega))) | exact .v (by ((repeat apply Look.there rfl); exact Look.here)) (.f .nil) | exact .a (by ((repeat apply Look.there rfl); exact Look.here)) | skip) .nil), oneI (by rw [validF, if_pos hst, if_neg g0])⟩ -- LEAF 4: ret
              ·
                first | exact absurd h10 (by decide) | (exfalso; simp_all; done)
            ·
              refine mv ?_
              refine nt ?_
              refine pkF ?_
              refine rNil ?_
              refine cn (fun h11 => ?_) (fun h11 => ?_)
              ·
                have g0 : ¬ Small p := by
                  intro hs
                  obtain ⟨s1, s2, s3, s4, s5, s6, s7, s8, s9, s10, s11, s12⟩ := hs
                  simp [inF, *] at *
                refine sg ?_
                refine as_ ?_
                refine rNil ?_
                refine awp_ret ?_
                refine tr ?_
                exact ⟨.inr rfl, _, (.cons (by first | exact .v (by ((repeat apply Look.there rfl); exact Look.here)) (.f (.v _)) | exact .v (by ((repeat apply Look.there rfl); exact Look.here)) (.row rfl (by first | exact rfl | (simp; done) | (simp; omega))) | exact .v (by ((repeat apply Look.there rfl); exact Look.here)) (.f .nil) | exact .a (by ((repeat apply Look.there rfl); exact Look.here)) | skip) .nil), oneI (by rw [validF, if_pos hst, if_neg g0])⟩ -- LEAF 5: ret
              ·
                refine awp_skip ?_
                refine tn ?_
                refine wx 1 ⟨?_, rfl⟩
                simp_all [inF, Small]
        ·
          rintro S ⟨hs, rfl⟩
          refine sq ?_
          refine sg ?_
          first | refine ff ?_ | refine fb ?_ | refine fo ?_
          first | refine l1f ?_ | refine l1b ?_ | refine l1o ?_
          first | refine lnM ?_ | refine ln ?_ | refine lnO ?_ | refine lnN ?_ | refine lnW ?_ | refine lnS ?_
          refine bo (hz := by exact rfl) ?_
          refine rNil ?_
          refine cn (fun h12 => ?_) (fun h12 => ?_)
          ·
            have g0 : ¬ p.code.length ≤ 16384 := by simp at h12; omega
            refine sg ?_
            refine as_ ?_
            refine rNil ?_
            refine awp_ret ?_
            refine tr ?_
            exact ⟨.inr rfl, _, (.cons (by first | exact .v (by ((repeat apply Look.there rfl); exact Look.here)) (.f (.v _)) | exact .v (by ((repeat apply Look.there rfl); exact Look.here)) (.row rfl (by first | exact rfl | (simp; done) | (simp; omega))) | exact .v (by ((repeat apply Look.there rfl); exact Look.here)) (.f .nil) | exact .a (by ((repeat apply Look.there rfl); exact Look.here)) | skip) .nil), oneI (by rw [validF, if_pos hst, if_pos hs, if_neg g0])⟩ -- LEAF 6: ret
          ·
            have g1 : p.code.length ≤ 16384 := by simp at h12; omega
            have hvF : validF p = vrun p p.code [] := by rw [validF, if_pos hst, if_pos hs, if_pos g1]
            refine awp_skip ?_
            refine tn ?_
            refine sg ?_
            refine al _ ?_
            refine rNil ?_
            refine sq ?_
            refine sg ?_
            first | refine ff ?_ | refine fb ?_ | refine fo ?_
            first | refine l1f ?_ | refine l1b ?_ | refine l1o ?_
            first | refine lnM ?_ | refine ln ?_ | refine lnO ?_ | refine lnN ?_ | refine lnW ?_ | refine lnS ?_
            refine mv ?_
            refine rNil ?_
            refine bk ?_
            refine adB 2 1 49 1 0 63 ?_
            refine lp (fun m S => ∃ (k : Nat) (st : List Int), m = p.code.length - k ∧ k ≤ p.code.length ∧ vrun p p.code [] = vrun p (p.code.drop k) st ∧ Okst st ∧ st.length ≤ k ∧ S = ⟨[(57, .r (I k)), (56, .r (I p.code.length)), (55, .r (L p.code)), (5, .box 1 0), (1, .box 0 0)], [bxP p, .box 63 [.own 2 st.length, .r (I (n3 st))], .row 49 1 ((cds st).map Enc.c)]⟩) p.code.length ?_ ?_
            · exact wx 3 ⟨0, [], rfl, Nat.zero_le _, rfl, fun c hc => (by cases hc), Nat.le_refl _, rfl⟩
            rintro m S ⟨k, st, hm, hk, hv, hok, hstl, rfl⟩
            refine sg ?_
            refine bo (hz := by exact rfl) ?_
            refine rNil ?_
            refine sq ?_
            refine cn (fun h13 => ?_) (fun h13 => ?_)
            ·
              have hkl : k < p.code.length := by simpa using h13
              obtain ⟨x, hx⟩ : ∃ x, p.code[((k : Int)).toNat]? = some x := ⟨p.code[k], by simp [hkl]⟩
              rw [drop_at (by simpa using hx)] at hv
              refine awp_skip ?_
              refine tn ?_
              refine sq ?_
              refine bk ?_
              refine sg ?_
              first | refine xs_ ?_ | refine xo ?_ | refine xw ?_ | refine xsl ?_
              first | refine lAf ?_ | refine lAb ?_ | refine lAo ?_
              refine al _ ?_
              refine sA ?_
              refine rNil ?_
              refine sq ?_
              refine sg ?_
              first | refine lAf ?_ | refine lAb ?_ | refine lAo ?_
              first | refine lAf ?_ | refine lAb ?_ | refine lAo ?_
              refine cl (c38 p x hs) ?_
              refine as_ ?_
              refine rNil ?_
              refine sg ?_
              refine mv ?_
              refine bo (hz := by exact rfl) ?_
              refine rNil ?_
              refine cn (fun h14 => ?_) (fun h14 => ?_)
              ·
                have g2 : opnF p x ≠ 0 := by simpa using h14
                refine sg ?_
                refine mv ?_
                refine as_ ?_
                refine rNil ?_
                refine awp_ret ?_
                refine tr ?_
                refine br ?_
                refine tr ?_
                refine tr ?_
                refine br ?_
                refine tr ?_
                exact ⟨.inr rfl, _, (.cons (by first | exact .v (by ((repeat apply Look.there rfl); exact Look.here)) (.f (.v _)) | exact .v (by ((repeat apply Look.there rfl); exact Look.here)) (.row rfl (by first | exact rfl | (simp; done) | (simp; omega))) | exact .v (by ((repeat apply Look.there rfl); exact Look.here)) (.f .nil) | exact .a (by ((repeat apply Look.there rfl); exact Look.here)) | skip) .nil), oneI (by rw [hvF, hv, vrun_bad g2])⟩ -- LEAF 7: ret
              ·
                have g2 : opnF p x = 0 := by simpa using h14
                refine awp_skip ?_
                refine tn ?_
                refine sgX 3 ?_
                first | refine lAf ?_ | refine lAb ?_ | refine lAo ?_
                first | refine ff ?_ | refine fb ?_ | refine fo ?_
                first | refine l1f ?_ | refine l1b ?_ | refine l1o ?_
                refine rNil ?_
                refine cx (c39' p x st x.op st.length rfl hok (by omega)) ?_
                refine nt ?_
                refine rNil ?_
                refine cn (fun h15 => ?_) (fun h15 => ?_)
                ·
                  have g3 : nx p.st x.op st = none := by simpa using h15
                  refine sg ?_
                  refine as_ ?_
                  refine rNil ?_
                  refine awp_ret ?_
                  refine br ?_
                  refine tr ?_
                  refine tr ?_
                  refine br ?_
                  refine tr ?_
                  exact ⟨.inr rfl, _, (.cons (by first | exact .v (by ((repeat apply Look.there rfl); exact Look.here)) (.f (.v _)) | exact .v (by ((repeat apply Look.there rfl); exact Look.here)) (.row rfl (by first | exact rfl | (simp; done) | (simp; omega))) | exact .v (by ((repeat apply Look.there rfl); exact Look.here)) (.f .nil) | exact .a (by ((repeat apply Look.there rfl); exact Look.here)) | skip) .nil), oneI (by rw [hvF, hv, vrun_none g2 g3])⟩ -- LEAF 8: ret
                ·
                  obtain ⟨st', g3⟩ := Option.isSome_iff_exists.1 (by simpa using h15)
                  have g4 := nx_ok g3 hok
                  refine awp_skip ?_
                  refine bn_ ?_
                  refine tn ?_
                  refine rg ?_
                  refine bo (hz := by first | exact bop_add (by omega) (by omega) | exact rfl) ?_
                  refine mv ?_
                  refine rNil ?_
                  refine tn ?_
                  exact ⟨p.code.length - (k + 1), by omega, wy 3 ⟨k + 1, st', rfl, by omega, by rw [hv, vrun_cons g2 g3], g4.1, by omega, rfl⟩ (by rw [g3]; rfl)⟩ -- LEAF 9: round of loop 1
            ·
              have hkl : k = p.code.length := by simp at h13; omega
              rw [hkl, List.drop_length] at hv
              refine awp_exit ?_
              refine te ?_
              refine te ?_
              refine xbk ?_
              refine tn ?_
              refine sq ?_
              refine sg ?_
              first | refine ff ?_ | refine fb ?_ | refine fo ?_
              first | refine l1f ?_ | refine l1b ?_ | refine l1o ?_
              first | refine lnM ?_ | refine ln ?_ | refine lnO ?_ | refine lnN ?_ | refine lnW ?_ | refine lnS ?_
              refine bo (hz := by exact rfl) ?_
              refine rNil ?_
              refine cn (fun h16 => ?_) (fun h16 => ?_)
              ·
                have g3 : st ≠ [] := fun e => by subst e; simp at h16
                refine sg ?_
                refine as_ ?_
                refine rNil ?_
                refine awp_ret ?_
                refine tr ?_
                exact ⟨.inr rfl, _, (.cons (by first | exact .v (by ((repeat apply Look.there rfl); exact Look.here)) (.f (.v _)) | exact .v (by ((repeat apply Look.there rfl); exact Look.here)) (.row rfl (by first | exact rfl | (simp; done) | (simp; omega))) | exact .v (by ((repeat apply Look.there rfl); exact Look.here)) (.f .nil) | exact .a (by ((repeat apply Look.there rfl); exact Look.here)) | skip) .nil), oneI (by rw [hvF, hv, vrun, if_neg g3])⟩ -- LEAF 10: ret
              ·
                have g3 : st = [] := List.length_eq_zero_iff.1 (by simp at h16; first | omega | simp [h16])
                refine awp_skip ?_
                refine tn ?_
                refine sg ?_
                refine as_ ?_
                refine rNil ?_
                refine awp_ret ?_
                exact ⟨.inr rfl, _, (.cons (by first | exact .v (by ((repeat apply Look.there rfl); exact Look.here)) (.f (.v _)) | exact .v (by ((repeat apply Look.there rfl); exact Look.here)) (.row rfl (by first | exact rfl | (simp; done) | (simp; omega))) | exact .v (by ((repeat apply Look.there rfl); exact Look.here)) (.f .nil) | exact .a (by ((repeat apply Look.there rfl); exact Look.here)) | skip) .nil), oneI (by rw [hvF, hv, vrun, if_pos g3])⟩ -- LEAF 11: ret

/-- frustum/frustumref22.Validate -/
theorem c27 (p : Prg) : Fn Try.prog 27 [A p] (.one (I (validF p))) := by
  refine fnI Try.func27 Try.ntmps27 fun hb => ?_
  have hln := bd_len (hb (A p) (by simp) (.sl (p.code.map Enc.c)) (by simp [Enc.c, RV.flat]))
  rw [List.length_map] at hln
  refine sg ?_
  refine bx _ ?_
  refine as_ ?_
  refine rNil ?_
  refine jn (fun S => (1 ≤ p.st ∧ p.st ≤ 3) ∧ S = ⟨[(1, .box 0 0)], [bxP p]⟩) ?_ ?_
  ·
    refine sg ?_
    first | refine ff ?_ | refine fb ?_ | refine fo ?_
    first | refine l1f ?_ | refine l1b ?_ | refine l1o ?_
    refine bo (hz := by exact rfl) ?_
    refine mv ?_
    refine gd (fun h1 => ?_) (fun h1 => ?_)
    ·
      refine no ?_
      refine no ?_
      refine no ?_
      refine pkT ?_
      refine rNil ?_
      refine cn (fun h2 => ?_) (fun h2 => ?_)
      ·
        have g0 : ¬ (1 ≤ p.st ∧ p.st ≤ 3) := by simp at h1 h2; omega
        refine sg ?_
        refine as_ ?_
        refine rNil ?_
        refine awp_ret ?_
        refine tr ?_
        exact ⟨.inr rfl, _, (.cons (by first | exact .v (by ((repeat apply Look.there rfl); exact Look.here)) (.f (.v _)) | exact .v (by ((repeat apply Look.there rfl); exact Look.here)) (.row rfl (by first | exact rfl | (simp; done) | (simp; omega))) | exact .v (by ((repeat apply Look.there rfl); exact Look.here)) (.f .nil) | exact .a (by ((repeat apply Look.there rfl); exact Look.here)) | skip) .nil), oneI (by rw [validF, if_neg g0])⟩ -- LEAF 1: ret
      ·
        first | exact absurd h2 (by decide) | (exfalso; simp_all; done)
    ·
      first | refine ff ?_ | refine fb ?_ | refine fo ?_
      first | refine l1f ?_ | refine l1b ?_ | refine l1o ?_
      refine bo (hz := by exact rfl) ?_
      refine pkF ?_
      refine rNil ?_
      refine cn (fun h3 => ?_) (fun h3 => ?_)
      ·
        have g0 : ¬ (1 ≤ p.st ∧ p.st ≤ 3) := by simp at h1 h3; omega
        refine sg ?_
        refine as_ ?_
        refine rNil ?_
        refine awp_ret ?_
        refine tr ?_
        exact ⟨.inr rfl, _, (.cons (by first | exact .v (by ((repeat apply Look.there rfl); exact Look.here)) (.f (.v _)) | exact .v (by ((repeat apply Look.there rfl); exact Look.here)) (.row rfl (by first | exact rfl | (simp; done) | (simp; omega))) | exact .v (by ((repeat apply Look.there rfl); exact Look.here)) (.f .nil) | exact .a (by ((repeat apply Look.there rfl); exact Look.here)) | skip) .nil), oneI (by rw [validF, if_neg g0])⟩ -- LEAF 2: ret
      ·
        refine awp_skip ?_
        refine tn ?_
        refine wx 1 ⟨?_, rfl⟩
        simp at *; omega
  ·
    rintro S ⟨hst, rfl⟩
    refine jn (fun S => Small p ∧ S = ⟨[(1, .box 0 0)], [bxP p]⟩) ?_ ?_
    ·
      refine sg ?_
      first | refine ff ?_ | refine fb ?_ | refine fo ?_
      first | refine l1f ?_ | refine l1b ?_ | refine l1o ?_
      refine bo (hz := by exact rfl) ?_
      refine mv ?_
      refine gd (fun h4 => ?_) (fun h4 => ?_)
      ·
        refine no ?_
        refine no ?_
        refine no ?_
        refine pkT ?_
        refine mv ?_
        refine no ?_
        refine no ?_
        refine no ?_
        refine pkT ?_
        refine mv ?_
        refine no ?_
        refine no ?_
        refine no ?_
        refine pkT ?_
        refine mv ?_
        refine no ?_
        refine no ?_
        refine no ?_
        refine pkT ?_
        refine mv ?_
        refine no ?_
        refine no ?_
        refine no ?_
        refine pkT ?_
        refine mv ?_
        refine no ?_
        refine no ?_
        refine no ?_
        refine pkT ?_
        refine mv ?_
        refine no ?_
        refine no ?_
        refine no ?_
        refine pkT ?_
        refine mv ?_
        refine no ?_
        refine no ?_
        refine no ?_
        refine pkT ?_
        refine mv ?_
        refine no ?_
        refine no ?_
        refine no ?_
        refine pkT ?_
        refine mv ?_
        refine no ?_
        refine no ?_
        refine no ?_
        refine pkT ?_
        refine mv ?_
        refine no ?_
        refine no ?_
        refine no ?_
        refine pkT ?_
        refine rNil ?_
        refine cn (fun h5 => ?_) (fun h5 => ?_)
        ·
          refine sg ?_
          refine as_ ?_
          refine rNil ?_
          refine awp_ret ?_
          refine tr ?_
          exact ⟨.inr rfl, _, (.cons (by first | exact .v (by ((repeat apply Look.there rfl); exact Look.here)) (.f (.v _)) | exact .v (by ((repeat apply Look.there rfl); exact Look.here)) (.row rfl (by first | exact rfl | (simp; done) | (simp; omega))) | exact .v (by ((repeat apply Look.there rfl); exact Look.here)) (.f .nil) | exact .a (by ((repeat apply Look.there rfl); exact Look.here)) | skip) .nil), oneI (by rw [validF, if_pos hst, if_neg (by simp at *; unfold Small; omega)])⟩ -- LEAF 3: ret
        ·
          first | exact absurd h5 (by decide) | (exfalso; simp_all; done)
      ·
        first | refine ff ?_ | refine fb ?_ | refine fo ?_
        first | refine l1f ?_ | refine l1b ?_ | refine l1o ?_
        refine bo (hz := by exact rfl) ?_
        refine pkF ?_
        refine mv ?_
        refine gd (fun h6 => ?_) (fun h6 => ?_)
        ·
          refine no ?_
          refine no ?_
          refine no ?_
          refine pkT ?_
          refine mv ?_
          refine no ?_
          refine no ?_
          refine no ?_
          refine pkT ?_
          refine mv ?_
          refine no ?_
          refine no ?_
          refine no ?_
          refine pkT ?_
          refine mv ?_
          refine no ?_
          refine no ?_
          refine no ?_
          refine pkT ?_
          refine mv ?_
          refine no ?_
          refine no ?_
          refine no ?_
          refine pkT ?_
          refine mv ?_
          refine no ?_
          refine no ?_
          refine no ?_
          refine pkT ?_
          refine mv ?_
          refine no ?_
          refine no ?_
          refine no ?_
          refine pkT ?_
          refine mv ?_
          refine no ?_
          refine no ?_
          refine no ?_
          refine pkT ?_
          refine mv ?_
          refine no ?_
          refine no ?_
          refine no ?_
          refine pkT ?_
          refine mv ?_
          refine no ?_
          refine no ?_
          refine no ?_
          refine pkT ?_
          refine rNil ?_
          refine cn (fun h7 => ?_) (fun h7 => ?_)
          ·
            refine sg ?_
            refine as_ ?_
            refine rNil ?_
            refine awp_ret ?_
            refine tr ?_
            exact ⟨.inr rfl, _, (.cons (by first | exact .v (by ((repeat apply Look.there rfl); exact Look.here)) (.f (.v _)) | exact .v (by ((repeat apply Look.there rfl); exact Look.here)) (.row rfl (by first | exact rfl | (simp; done) | (simp; omega))) | exact .v (by ((repeat apply Look.there rfl); exact Look.here)) (.f .nil) | exact .a (by ((repeat apply Look.there rfl); exact Look.here)) | skip) .nil), oneI (by rw [validF, if_pos hst, if_neg (by simp at *; unfold Small; omega)])⟩ -- LEAF 4: ret
          ·
            first | exact absurd h7 (by decide) | (exfalso; simp_all; done)
        ·
          first | refine ff ?_ | refine fb ?_ | refine fo ?_
          first | refine l1f ?_ | refine l1b ?_ | refine l1o ?_
          refine bo (hz := by exact rfl) ?_
          refine pkF ?_
          refine mv ?_
          refine gd (fun h8 => ?_) (fun h8 => ?_)
          ·
            refine no ?_
            refine no ?_
            refine no ?_
            refine pkT ?_
            refine mv ?_
            refine no ?_
            refine no ?_
            refine no ?_
            refine pkT ?_
            refine mv ?_
            refine no ?_
            refine no ?_
            refine no ?_
            refine pkT ?_
            refine mv ?_
            refine no ?_
            refine no ?_
            refine no ?_
            refine pkT ?_
            refine mv ?_
            refine no ?_
            refine no ?_
            refine no ?_
            refine pkT ?_
            refine mv ?_
            refine no ?_
            refine no ?_
            refine no ?_
            refine pkT ?_
            refine mv ?_
            refine no ?_
            refine no ?_
            refine no ?_
            refine pkT ?_
            refine mv ?_
            refine no ?_
            refine no ?_
            refine no ?_
            refine pkT ?_
            refine mv ?_
            refine no ?_
            refine no ?_
            refine no ?_
            refine pkT ?_
            refine rNil ?_
            refine cn (fun h9 => ?_) (fun h9 => ?_)
            ·
              refine sg ?_
              refine as_ ?_
              refine rNil ?_
              refine awp_ret ?_
              refine tr ?_
              exact ⟨.inr rfl, _, (.cons (by first | exact .v (by ((repeat apply Look.there rfl); exact Look.here)) (.f (.v _)) | exact .v (by ((repeat apply Look.there rfl); exact Look.here)) (.row rfl (by first | exact rfl | (simp; done) | (simp; omega))) | exact .v (by ((repeat apply Look.there rfl); exact Look.here)) (.f .nil) | exact .a (by ((repeat apply Look.there rfl); exact Look.here)) | skip) .nil), oneI (by rw [validF, if_pos hst, if_neg (by simp at *; unfold Small; omega)])⟩ -- LEAF 5: ret
            ·
              first | exact absurd h9 (by decide) | (exfalso; simp_all; done)
          ·
            first | refine ff ?_ | refine fb ?_ | refine fo ?_
            first | refine l1f ?_ | refine l1b ?_ | refine l1o ?_
            refine bo (hz := by exact rfl) ?_
            refine pkF ?_
            refine mv ?_
            refine gd (fun h10 => ?_) (fun h10 => ?_)
            ·
              refine no ?_
              refine no ?_
              refine no ?_
              refine pkT ?_
              refine mv ?_
              refine no ?_
              refine no ?_
              refine no ?_
              refine pkT ?_
              refine mv ?_
              refine no ?_
              refine no ?_
              refine no ?_
              refine pkT ?_
              refine mv ?_
              refine no ?_
              refine no ?_
              refine no ?_
              refine pkT ?_
              refine mv ?_
              refine no ?_
              refine no ?_
              refine no ?_
              refine pkT ?_
              refine mv ?_
              refine no ?_
              refine no ?_
              refine no ?_
              refine pkT ?_
              refine mv ?_
              refine no ?_
              refine no ?_
              refine no ?_
              refine pkT ?_
              refine mv ?_
              refine no ?_
              refine no ?_
              refine no ?_
              refine pkT ?_
              refine rNil ?_
              refine cn (fun h11 => ?_) (fun h11 => ?_)
              ·
                refine sg ?_
                refine as_ ?_
                refine rNil ?_
                refine awp_ret ?_
                refine tr ?_
                exact ⟨.inr rfl, _, (.cons (by first | exact .v (by ((repeat apply Look.there rfl); exact Look.here)) (.f (.v _)) | exact .v (by ((repeat apply Look.there rfl); exact Look.here)) (.row rfl (by first | exact rfl | (simp; done) | (simp; omega))) | exact .v (by ((repeat apply Look.there rfl); exact Look.here)) (.f .nil) | exact .a (by ((repeat apply Look.there rfl); exact Look.here)) | skip) .nil), oneI (by rw [validF, if_pos hst, if_neg (by simp at *; unfold Small; omega)])⟩ -- LEAF 6: ret
              ·
                first | exact absurd h11 (by decide) | (exfalso; simp_all; done)
            ·
              first | refine ff ?_ | refine fb ?_ | refine fo ?_
              first | refine l1f ?_ | refine l1b ?_ | refine l1o ?_
              refine bo (hz := by exact rfl) ?_
              refine pkF ?_
              refine mv ?_
              refine gd (fun h12 => ?_) (fun h12 => ?_)
              ·
                refine no ?_
                refine no ?_
                refine no ?_
                refine pkT ?_
                refine mv ?_
                refine no ?_
                refine no ?_
                refine no ?_
                refine pkT ?_
                refine mv ?_
                refine no ?_
                refine no ?_
                refine no ?_
                refine pkT ?_
                refine mv ?_
                refine no ?_
                refine no ?_
                refine no ?_
                refine pkT ?_
                refine mv ?_
                refine no ?_
                refine no ?_
                refine no ?_
                refine pkT ?_
                refine mv ?_
                refine no ?_
                refine no ?_
                refine no ?_
                refine pkT ?_
                refine mv ?_
                refine no ?_
                refine no ?_
                refine no ?_
                refine pkT ?_
                refine rNil ?_
                refine cn (fun h13 => ?_) (fun h13 => ?_)
                ·
                  refine sg ?_
                  refine as_ ?_
                  refine rNil ?_
                  refine awp_ret ?_
                  refine tr ?_
                  exact ⟨.inr rfl, _, (.cons (by first | exact .v (by ((repeat apply Look.there rfl); exact Look.here)) (.f (.v _)) | exact .v (by ((repeat apply Look.there rfl); exact Look.here)) (.row rfl (by first | exact rfl | (simp; done) | (simp; omega))) | exact .v (by ((repeat apply Look.there rfl); exact Look.here)) (.f .nil) | exact .a (by ((repeat apply Look.there rfl); exact Look.here)) | skip) .nil), oneI (by rw [validF, if_pos hst, if_neg (by simp at *; unfold Small; omega)])⟩ -- LEAF 7: ret
                ·
                  first | exact absurd h13 (by decide) | (exfalso; simp_all; done)
              ·
                first | refine ff ?_ | refine fb ?_ | refine fo ?_
                first | refine l1f ?_ | refine l1b ?_ | refine l1o ?_
                refine bo (hz := by exact rfl) ?_
                refine pkF ?_
                refine mv ?_
                refine gd (fun h14 => ?_) (fun h14 => ?_)
                ·
                  refine no ?_
                  refine no ?_
                  refine no ?_
                  refine pkT ?_
                  refine mv ?_
                  refine no ?_
                  refine no ?_
                  refine no ?_
                  refine pkT ?_
                  refine mv ?_
                  refine no ?_
                  refine no ?_
                  refine no ?_
                  refine pkT ?_
                  refine mv ?_
                  refine no ?_
                  refine no ?_
                  refine no ?_
                  refine pkT ?_
                  refine mv ?_
                  refine no ?_
                  refine no ?_
                  refine no ?_
                  refine pkT ?_
                  refine mv ?_
                  refine no ?_
                  refine no ?_
                  refine no ?_
                  refine pkT ?_
                  refine rNil ?_
                  refine cn (fun h15 => ?_) (fun h15 => ?_)
                  ·
                    refine sg ?_
                    refine as_ ?_
                    refine rNil ?_
                    refine awp_ret ?_
                    refine tr ?_
                    exact ⟨.inr rfl, _, (.cons (by first | exact .v (by ((repeat apply Look.there rfl); exact Look.here)) (.f (.v _)) | exact .v (by ((repeat apply Look.there rfl); exact Look.here)) (.row rfl (by first | exact rfl | (simp; done) | (simp; omega))) | exact .v (by ((repeat apply Look.there rfl); exact Look.here)) (.f .nil) | exact .a (by ((repeat apply Look.there rfl); exact Look.here)) | skip) .nil), oneI (by rw [validF, if_pos hst, if_neg (by simp at *; unfold Small; omega)])⟩ -- LEAF 8: ret
                  ·
                    first | exact absurd h15 (by decide) | (exfalso; simp_all; done)
                ·
                  first | refine ff ?_ | refine fb ?_ | refine fo ?_
                  first | refine l1f ?_ | refine l1b ?_ | refine l1o ?_
                  refine bo (hz := by exact rfl) ?_
                  refine pkF ?_
                  refine mv ?_
                  refine gd (fun h16 => ?_) (fun h16 => ?_)
                  ·
                    refine no ?_
                    refine no ?_
                    refine no ?_
                    refine pkT ?_
                    refine mv ?_
                    refine no ?_
                    refine no ?_
                    refine no ?_
                    refine pkT ?_
                    refine mv ?_
                    refine no ?_
                    refine no ?_
                    refine no ?_
                    refine pkT ?_
                    refine mv ?_
                    refine no ?_
                    refine no ?_
                    refine no ?_
                    refine pkT ?_
                    refine mv ?_
                    refine no ?_
                    refine no ?_
                    refine no ?_
                    refine pkT ?_
                    refine rNil ?_
                    refine cn (fun h17 => ?_) (fun h17 => ?_)
                    ·
                      refine sg ?_
                      refine as_ ?_
                      refine rNil ?_
                      refine awp_ret ?_
                      refine tr ?_
                      exact ⟨.inr rfl, _, (.cons (by first | exact .v (by ((repeat apply Look.there rfl); exact Look.here)) (.f (.v _)) | exact .v (by ((repeat apply Look.there rfl); exact Look.here)) (.row rfl (by first | exact rfl | (simp; done) | (simp; omega))) | exact .v (by ((repeat apply Look.there rfl); exact Look.here)) (.f .nil) | exact .a (by ((repeat apply Look.there rfl); exact Look.here)) | skip) .nil), oneI (by rw [validF, if_pos hst, if_neg (by simp at *; unfold Small; omega)])⟩ -- LEAF 9: ret
                    ·
                      first | exact absurd h17 (by decide) | (exfalso; simp_all; done)
                  ·
                    first | refine ff ?_ | refine fb ?_ | refine fo ?_
                    first | refine l1f ?_ | refine l1b ?_ | refine l1o ?_
                    refine bo (hz := by exact rfl) ?_
                    refine pkF ?_
                    refine mv ?_
                    refine gd (fun h18 => ?_) (fun h18 => ?_)
                    ·
                      refine no ?_
                      refine no ?_
                      refine no ?_
                      refine pkT ?_
                      refine mv ?_
                      refine no ?_
                      refine no ?_
                      refine no ?_
                      refine pkT ?_
                      refine mv ?_
                      refine no ?_
                      refine no ?_
                      refine no ?_
                      refine pkT ?_
                      refine mv ?_
                      refine no ?_
                      refine no ?_
                      refine no ?_
                      refine pkT ?_
                      refine rNil ?_
                      refine cn (fun h19 => ?_) (fun h19 => ?_)
                      ·
                        refine sg ?_
                        refine as_ ?_
                        refine rNil ?_
                        refine awp_ret ?_
                        refine tr ?_
                        exact ⟨.inr rfl, _, (.cons (by first | exact .v (by ((repeat apply Look.there rfl); exact Look.here)) (.f (.v _)) | exact .v (by ((repeat apply Look.there rfl); exact Look.here)) (.row rfl (by first | exact rfl | (simp; done) | (simp; omega))) | exact .v (by ((repeat apply Look.there rfl); exact Look.here)) (.f .nil) | exact .a (by ((repeat apply Look.there rfl); exact Look.here)) | skip) .nil), oneI (by rw [validF, if_pos hst, if_neg (by simp at *; unfold Small; omega)])⟩ -- LEAF 10: ret
                      ·
                        first | exact absurd h19 (by decide) | (exfalso; simp_all; done)
                    ·
                      first | refine ff ?_ | refine fb ?_ | refine fo ?_
                      first | refine l1f ?_ | refine l1b ?_ | refine l1o ?_
                      refine bo (hz := by exact rfl) ?_
                      refine pkF ?_
                      refine mv ?_
                      refine gd (fun h20 => ?_) (fun h20 => ?_)
                      ·
                        refine no ?_
                        refine no ?_
                        refine no ?_
                        refine pkT ?_
                        refine mv ?_
                        refine no ?_
                        refine no ?_
                        refine no ?_
                        refine pkT ?_
                        refine mv ?_
                        refine no ?_
                        refine no ?_
                        refine no ?_
                        refine pkT ?_
                        refine rNil ?_
                        refine cn (fun h21 => ?_) (fun h21 => ?_)
                        ·
                          refine sg ?_
                          refine as_ ?_
                          refine rNil ?_
                          refine awp_ret ?_
                          refine tr ?_
                          exact ⟨.inr rfl, _, (.cons (by first | exact .v (by ((repeat apply Look.there rfl); exact Look.here)) (.f (.v _)) | exact .v (by ((repeat apply Look.there rfl); exact Look.here)) (.row rfl (by first | exact rfl | (simp; done) | (simp; omega))) | exact .v (by ((repeat apply Look.there rfl); exact Look.here)) (.f .nil) | exact .a (by ((repeat apply Look.there rfl); exact Look.here)) | skip) .nil), oneI (by rw [validF, if_pos hst, if_neg (by simp at *; unfold Small; omega)])⟩ -- LEAF 11: ret
                        ·
                          first | exact absurd h21 (by decide) | (exfalso; simp_all; done)
                      ·
                        first | refine ff ?_ | refine fb ?_ | refine fo ?_
                        first | refine l1f ?_ | refine l1b ?_ | refine l1o ?_
                        refine bo (hz := by exact rfl) ?_
                        refine pkF ?_
                        refine mv ?_
                        refine gd (fun h22 => ?_) (fun h22 => ?_)
                        ·
                          refine no ?_
                          refine no ?_
                          refine no ?_
                          refine pkT ?_
                          refine mv ?_
                          refine no ?_
                          refine no ?_
                          refine no ?_
                          refine pkT ?_
                          refine rNil ?_
                          refine cn (fun h23 => ?_) (fun h23 => ?_)
                          ·
                            refine sg ?_
                            refine as_ ?_
                            refine rNil ?_
                            refine awp_ret ?_
                            refine tr ?_
                            exact ⟨.inr rfl, _, (.cons (by first | exact .v (by ((repeat apply Look.there rfl); exact Look.here)) (.f (.v _)) | exact .v (by ((repeat apply Look.there rfl); exact Look.here)) (.row rfl (by first | exact rfl | (simp; done) | (simp; omega))) | exact .v (by ((repeat apply Look.there rfl); exact Look.here)) (.f .nil) | exact .a (by ((repeat apply Look.there rfl); exact Look.here)) | skip) .nil), oneI (by rw [validF, if_pos hst, if_neg (by simp at *; unfold Small; omega)])⟩ -- LEAF 12: ret
                          ·
                            first | exact absurd h23 (by decide) | (exfalso; simp_all; done)
                        ·
                          first | refine ff ?_ | refine fb ?_ | refine fo ?_
                          first | refine l1f ?_ | refine l1b ?_ | refine l1o ?_
                          refine bo (hz := by exact rfl) ?_
                          refine pkF ?_
                          refine mv ?_
                          refine gd (fun h24 => ?_) (fun h24 => ?_)
                          ·
                            refine no ?_
                            refine no ?_
                            refine no ?_
                            refine pkT ?_
                            refine rNil ?_
                            refine cn (fun h25 => ?_) (fun h25 => ?_)
                            ·
                              refine sg ?_
                              refine as_ ?_
                              refine rNil ?_
                              refine awp_ret ?_
                              refine tr ?_
                              exact ⟨.inr rfl, _, (.cons (by first | exact .v (by ((repeat apply Look.there rfl); exact Look.here)) (.f (.v _)) | exact .v (by ((repeat apply Look.there rfl); exact Look.here)) (.row rfl (by first | exact rfl | (simp; done) | (simp; omega))) | exact .v (by ((repeat apply Look.there rfl); exact Look.here)) (.f .nil) | exact .a (by ((repeat apply Look.there rfl); exact Look.here)) | skip) .nil), oneI (by rw [validF, if_pos hst, if_neg (by simp at *; unfold Small; omega)])⟩ -- LEAF 13: ret
                            ·
                              first | exact absurd h25 (by decide) | (exfalso; simp_all; done)
                          ·
                            first | refine ff ?_ | refine fb ?_ | refine fo ?_
                            first | refine l1f ?_ | refine l1b ?_ | refine l1o ?_
                            refine bo (hz := by exact rfl) ?_
                            refine pkF ?_
                            refine rNil ?_
                            refine cn (fun h26 => ?_) (fun h26 => ?_)
                            ·
                              refine sg ?_
                              refine as_ ?_
                              refine rNil ?_
                              refine awp_ret ?_
                              refine tr ?_
                              exact ⟨.inr rfl, _, (.cons (by first | exact .v (by ((repeat apply Look.there rfl); exact Look.here)) (.f (.v _)) | exact .v (by ((repeat apply Look.there rfl); exact Look.here)) (.row rfl (by first | exact rfl | (simp; done) | (simp; omega))) | exact .v (by ((repeat apply Look.there rfl); exact Look.here)) (.f .nil) | exact .a (by ((repeat apply Look.there rfl); exact Look.here)) | skip) .nil), oneI (by rw [validF, if_pos hst, if_neg (by simp at *; unfold Small; omega)])⟩ -- LEAF 14: ret
                            ·
                              refine awp_skip ?_
                              refine tn ?_
                              refine wx 1 ⟨?_, rfl⟩
                              simp at *; unfold Small; omega
    ·
      rintro S ⟨hs, rfl⟩
      refine sq ?_
      refine sg ?_
      first | refine ff ?_ | refine fb ?_ | refine fo ?_
      first | refine l1f ?_ | refine l1b ?_ | refine l1o ?_
      first | refine lnM ?_ | refine ln ?_ | refine lnO ?_ | refine lnN ?_ | refine lnW ?_ | refine lnS ?_
      refine bo (hz := by exact rfl) ?_
      refine rNil ?_
      refine cn (fun h27 => ?_) (fun h27 => ?_)
      ·
        have g0 : ¬ p.code.length ≤ 16384 := by simp at h27; omega
        refine sg ?_
        refine as_ ?_
        refine rNil ?_
        refine awp_ret ?_
        refine tr ?_
        exact ⟨.inr rfl, _, (.cons (by first | exact .v (by ((repeat apply Look.there rfl); exact Look.here)) (.f (.v _)) | exact .v (by ((repeat apply Look.there rfl); exact Look.here)) (.row rfl (by first | exact rfl | (simp; done) | (simp; omega))) | exact .v (by ((repeat apply Look.there rfl); exact Look.here)) (.f .nil) | exact .a (by ((repeat apply Look.there rfl); exact Look.here)) | skip) .nil), oneI (by rw [validF, if_pos hst, if_pos hs, if_neg g0])⟩ -- LEAF 15: ret
      ·
        have g1 : p.code.length ≤ 16384 := by simp at h27; omega
        have hvF : validF p = vrun p p.code [] := by rw [validF, if_pos hst, if_pos hs, if_pos g1]
        refine awp_skip ?_
        refine tn ?_
        refine sg ?_
        refine bs ?_
        refine as_ ?_
        refine rNil ?_
        refine sq ?_
        refine sg ?_
        refine as_ ?_
        refine rNil ?_
        refine bk ?_
        refine lp (fun m S => ∃ (k : Nat) (st : List Int), m = p.code.length - k ∧ k ≤ p.code.length ∧ vrun p p.code [] = vrun p (p.code.drop k) st ∧ Okst st ∧ st.length ≤ k ∧ S = ⟨[(4, .r (I k)), (3, .r (L st)), (1, .box 0 0)], [bxP p]⟩) p.code.length ?_ ?_
        · exact wx 1 ⟨0, [], rfl, Nat.zero_le _, rfl, fun c hc => (by cases hc), Nat.le_refl _, rfl⟩
        rintro m S ⟨k, st, hm, hk, hv, hok, hstl, rfl⟩
        refine sq ?_
        refine sg ?_
        refine mv ?_
        first | refine ff ?_ | refine fb ?_ | refine fo ?_
        first | refine l1f ?_ | refine l1b ?_ | refine l1o ?_
        first | refine lnM ?_ | refine ln ?_ | refine lnO ?_ | refine lnN ?_ | refine lnW ?_ | refine lnS ?_
        refine bo (hz := by exact rfl) ?_
        refine rNil ?_
        refine cn (fun h28 => ?_) (fun h28 => ?_)
        ·
          have hkl : k < p.code.length := by simpa using h28
          obtain ⟨x, hx⟩ : ∃ x, p.code[((k : Int)).toNat]? = some x := ⟨p.code[k], by simp [hkl]⟩
          rw [drop_at (by simpa using hx)] at hv
          refine awp_skip ?_
          refine tn ?_
          refine sq ?_
          refine bk ?_
          refine sg ?_
          first | refine ff ?_ | refine fb ?_ | refine fo ?_
          first | refine l1f ?_ | refine l1b ?_ | refine l1o ?_
          refine mv ?_
          first | refine xs_ ?_ | refine xo ?_ | refine xw ?_ | refine xsl ?_
          first | refine lAf ?_ | refine lAb ?_ | refine lAo ?_
          refine al _ ?_
          refine sA ?_
          refine rNil ?_
          refine sq ?_
          refine sg ?_
          first | refine ff ?_ | refine fb ?_ | refine fo ?_
          first | refine l1f ?_ | refine l1b ?_ | refine l1o ?_
          refine cl (c44 x.op) ?_
          refine nt ?_
          refine rNil ?_
          refine cn (fun h29 => ?_) (fun h29 => ?_)
          ·
            have g2 : opnF p x = 10 := by rw [opnF, if_pos (by simpa using h29)]
            refine sg ?_
            refine as_ ?_
            refine rNil ?_
            refine awp_ret ?_
            refine tr ?_
            refine br ?_
            refine tr ?_
            refine tr ?_
            refine br ?_
            refine tr ?_
            exact ⟨.inr rfl, _, (.cons (by first | exact .v (by ((repeat apply Look.there rfl); exact Look.here)) (.f (.v _)) | exact .v (by ((repeat apply Look.there rfl); exact Look.here)) (.row rfl (by first | exact rfl | (simp; done) | (simp; omega))) | exact .v (by ((repeat apply Look.there rfl); exact Look.here)) (.f .nil) | exact .a (by ((repeat apply Look.there rfl); exact Look.here)) | skip) .nil), oneI (by rw [hvF, hv, vrun_bad (by rw [g2]; decide), g2])⟩ -- LEAF 16: ret
          ·
            have g2 : okF x.op = true := by simpa using h29
            refine awp_skip ?_
            refine tn ?_
            refine sq ?_
            refine sg ?_
            first | refine lAf ?_ | refine lAb ?_ | refine lAo ?_
            refine cl (c45 x) ?_
            refine rNil ?_
            refine cn (fun h30 => ?_) (fun h30 => ?_)
            ·
              have g3 : opnF p x = 2 := opn_un g2 h30
              refine sg ?_
              refine as_ ?_
              refine rNil ?_
              refine awp_ret ?_
              refine tr ?_
              refine br ?_
              refine tr ?_
              refine tr ?_
              refine br ?_
              refine tr ?_
              exact ⟨.inr rfl, _, (.cons (by first | exact .v (by ((repeat apply Look.there rfl); exact Look.here)) (.f (.v _)) | exact .v (by ((repeat apply Look.there rfl); exact Look.here)) (.row rfl (by first | exact rfl | (simp; done) | (simp; omega))) | exact .v (by ((repeat apply Look.there rfl); exact Look.here)) (.f .nil) | exact .a (by ((repeat apply Look.there rfl); exact Look.here)) | skip) .nil), oneI (by rw [hvF, hv, vrun_bad (by rw [g3]; decide), g3])⟩ -- LEAF 17: ret
            ·
              refine awp_skip ?_
              refine tn ?_
              refine sq ?_
              refine sg ?_
              first | refine lAf ?_ | refine lAb ?_ | refine lAo ?_
              first | refine lAf ?_ | refine lAb ?_ | refine lAo ?_
              refine cl (c46 p x hs) ?_
              refine rNil ?_
              refine cn (fun h31 => ?_) (fun h31 => ?_)
              ·
                have g3 : opnF p x = 6 := opn_out g2 h30 (by simp only [outF, Bool.not_eq_true', Bool.and_eq_false_iff] at h31; exact h31)
                refine sg ?_
                refine as_ ?_
                refine rNil ?_
                refine awp_ret ?_
                refine tr ?_
                refine br ?_
                refine tr ?_
                refine tr ?_
                refine br ?_
                refine tr ?_
                exact ⟨.inr rfl, _, (.cons (by first | exact .v (by ((repeat apply Look.there rfl); exact Look.here)) (.f (.v _)) | exact .v (by ((repeat apply Look.there rfl); exact Look.here)) (.row rfl (by first | exact rfl | (simp; done) | (simp; omega))) | exact .v (by ((repeat apply Look.there rfl); exact Look.here)) (.f .nil) | exact .a (by ((repeat apply Look.there rfl); exact Look.here)) | skip) .nil), oneI (by rw [hvF, hv, vrun_bad (by rw [g3]; decide), g3])⟩ -- LEAF 18: ret
              ·
                have g3 : opnF p x = 0 := by
                  simp only [outF, Bool.not_eq_false', Bool.and_eq_true] at h31
                  exact opn_ok g2 h30 h31.1 h31.2
                refine awp_skip ?_
                refine tn ?_
                refine sg ?_
                first | refine ff ?_ | refine fb ?_ | refine fo ?_
                first | refine l1f ?_ | refine l1b ?_ | refine l1o ?_
                first | refine ff ?_ | refine fb ?_ | refine fo ?_
                first | refine l1f ?_ | refine l1b ?_ | refine l1o ?_
                refine mv ?_
                refine cl (c47 p.st x.op st (by omega)) ?_
                refine mv ?_
                refine ex ?_
                refine ex ?_
                refine as_ ?_
                refine as_ ?_
                refine rNil ?_
                refine sq ?_
                refine sg ?_
                refine mv ?_
                refine nt ?_
                refine rNil ?_
                refine cn (fun h32 => ?_) (fun h32 => ?_)
                ·
                  have g4 : nx p.st x.op st = none := by simpa using h32
                  refine sg ?_
                  refine as_ ?_
                  refine rNil ?_
                  refine awp_ret ?_
                  refine tr ?_
                  refine br ?_
                  refine tr ?_
                  refine tr ?_
                  refine br ?_
                  refine tr ?_
                  exact ⟨.inr rfl, _, (.cons (by first | exact .v (by ((repeat apply Look.there rfl); exact Look.here)) (.f (.v _)) | exact .v (by ((repeat apply Look.there rfl); exact Look.here)) (.row rfl (by first | exact rfl | (simp; done) | (simp; omega))) | exact .v (by ((repeat apply Look.there rfl); exact Look.here)) (.f .nil) | exact .a (by ((repeat apply Look.there rfl); exact Look.here)) | skip) .nil), oneI (by rw [hvF, hv, vrun_none g3 g4])⟩ -- LEAF 19: ret
                ·
                  obtain ⟨st', g4⟩ := Option.isSome_iff_exists.1 (by simpa using h32)
                  have g5 := nx_ok g4 hok
                  have g6 := nx_nl g4
                  refine awp_skip ?_
                  refine tn ?_
                  refine rg ?_
                  refine mv ?_
                  refine as_ ?_
                  refine rNil ?_
                  refine bn_ ?_
                  refine tn ?_
                  refine rg ?_
                  refine mv ?_
                  refine bo (hz := by first | exact bop_add (by omega) (by omega) | exact rfl) ?_
                  refine as_ ?_
                  refine rNil ?_
                  refine tn ?_
                  exact ⟨p.code.length - (k + 1), by omega, wx 1 ⟨k + 1, st', rfl, by omega, by rw [hv, vrun_cons g3 g4], g5.1, by omega, by rw [g6]; rfl⟩⟩ -- LEAF 20: round of loop 1
        ·
          have hkl : k = p.code.length := by simp at h28; omega
          rw [hkl, List.drop_length] at hv
          refine awp_exit ?_
          refine te ?_
          refine te ?_
          refine xbk ?_
          refine tn ?_
          refine sq ?_
          refine sg ?_
          refine mv ?_
          first | refine lnM ?_ | refine ln ?_ | refine lnO ?_ | refine lnN ?_ | refine lnW ?_ | refine lnS ?_
          refine bo (hz := by exact rfl) ?_
          refine rNil ?_
          refine cn (fun h33 => ?_) (fun h33 => ?_)
          ·
            have g3 : st ≠ [] := fun e => by subst e; simp at h33
            refine sg ?_
            refine as_ ?_
            refine rNil ?_
            refine awp_ret ?_
            refine tr ?_
            exact ⟨.inr rfl, _, (.cons (by first | exact .v (by ((repeat apply Look.there rfl); exact Look.here)) (.f (.v _)) | exact .v (by ((repeat apply Look.there rfl); exact Look.here)) (.row rfl (by first | exact rfl | (simp; done) | (simp; omega))) | exact .v (by ((repeat apply Look.there rfl); exact Look.here)) (.f .nil) | exact .a (by ((repeat apply Look.there rfl); exact Look.here)) | skip) .nil), oneI (by rw [hvF, hv, vrun, if_neg g3])⟩ -- LEAF 21: ret
          ·
            have g3 : st = [] := List.length_eq_zero_iff.1 (by simp at h33; first | omega | simp [h33])
            refine awp_skip ?_
            refine tn ?_
            refine sg ?_
            refine as_ ?_
            refine rNil ?_
            refine awp_ret ?_
            exact ⟨.inr rfl, _, (.cons (by first | exact .v (by ((repeat apply Look.there rfl); exact Look.here)) (.f (.v _)) | exact .v (by ((repeat apply Look.there rfl); exact Look.here)) (.row rfl (by first | exact rfl | (simp; done) | (simp; omega))) | exact .v (by ((repeat apply Look.there rfl); exact Look.here)) (.f .nil) | exact .a (by ((repeat apply Look.there rfl); exact Look.here)) | skip) .nil), oneI (by rw [hvF, hv, vrun, if_pos g3])⟩ -- LEAF 22: ret

end Go.Proofs.Ytnhljpbpfaablaa.VS
