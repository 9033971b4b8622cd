/- The walks of functions: what each computes, by itself. Conditions: none. -/
import Derived.Test.YtolbhipnbhehdaaF3
set_option linter.unusedVariables false
set_option linter.unusedSimpArgs false
namespace Go.Proofs.Ytolbhipnbhehdaa.VS
open Go
theorem stepC_no {em : List (List Int)} {s : Nat × List (List V)} {c : Int} (h : ¬ ((s.1 : Int) < c ∧ c < em.length)) : stepC em s c = s := if_neg h
theorem foldl_no {em : List (List Int)} : ∀ (l : List Int) (s : Nat × List (List V)), em.length ≤ s.1 + 1 → l.foldl (stepC em) s = s
  | [], _, _ => rfl
  | c :: l, s, h => by rw [List.foldl_cons, stepC_no (by omega)]; exact foldl_no l s h
theorem stripsL_done {em : List (List Int)} {cuts : List Int} {q : Nat} {s : Nat × List (List V)} (h : stripsL em (cuts.take q) = s) (hd : cuts.length ≤ q ∨ em.length ≤ s.1 + 1) : stripsL em cuts = s := by
  rcases hd with hd | hd
  · rwa [List.take_of_length_le hd] at h
  · rw [← List.take_append_drop q cuts, stripsL, List.foldl_append]
    rw [show List.foldl (stepC em) (0, []) (List.take q cuts) = s from h]
    exact foldl_no _ _ hd
theorem seg_snoc {em : List (List Int)} {a i : Nat} {x : List Int} (hx : em[i]? = some x) (h : a ≤ i) : seg em a (i + 1) = seg em a i ++ [vofs x] := by
  unfold seg
  rw [show i + 1 - a = (i - a) + 1 by omega, take_snoc (x := x) (by rw [List.getElem?_drop, show a + (i - a) = i by omega]; exact hx), List.map_append]
  rfl
theorem seg_len {em : List (List Int)} {a i : Nat} (h : i ≤ em.length) : (seg em a i).length = i - a := by
  unfold seg
  rw [List.length_map, List.length_take, List.length_drop]; omega
theorem seg_self {em : List (List Int)} {a : Nat} : seg em a a = [] := by simp [seg]
/-- Which cuts are behind. -/
def Lag (em : List (List Int)) (cuts : List Int) (at_ last : Nat) (os : List (List V)) : Prop := ∃ q, (q = at_ ∨ (q = at_ + 1 ∧ ∃ c, cuts[at_]? = some c ∧ c ≤ last)) ∧ stripsL em (cuts.take q) = (last, os)
def Pend (em : List (List Int)) (cuts : List Int) (at_ last i : Nat) : Prop := cuts.length ≤ at_ ∨ ∃ c, cuts[at_]? = some c ∧ (last : Int) < c ∧ c < em.length ∧ (i : Int) ≤ c
theorem lag_skip {em : List (List Int)} {cuts : List Int} {at_ last : Nat} {os : List (List V)} (h : Lag em cuts at_ last os) {c : Int} (hc : cuts[at_]? = some c) (hn : c ≤ last ∨ (em.length : Int) ≤ c) : Lag em cuts (at_ + 1) last os := by
  obtain ⟨q, hq, hs⟩ := h
  rcases hq with rfl | ⟨rfl, _⟩
  · exact ⟨q + 1, .inl rfl, by rw [stripsL_snoc em hc, hs, stepC_no (by show ¬ ((last : Int) < c ∧ _); omega)]⟩
  · exact ⟨at_ + 1, .inl rfl, hs⟩
theorem lag_now {em : List (List Int)} {cuts : List Int} {at_ last : Nat} {os : List (List V)} (h : Lag em cuts at_ last os) (hp : cuts.length ≤ at_ ∨ ∃ c, cuts[at_]? = some c ∧ (last : Int) < c) : stripsL em (cuts.take at_) = (last, os) := by
  obtain ⟨q, hq, hs⟩ := h
  rcases hq with rfl | ⟨rfl, c, hc, hle⟩
  · exact hs
  · rcases hp with hp | ⟨c', hc', hlt⟩
    · have := (List.getElem?_eq_some_iff.1 hc).1; omega
    · rw [hc] at hc'; cases hc'; omega
abbrev E19 (r : LR) (os : List (List V)) (st : List V) : List Ent := [.box 39 [.r (.v (.sl (r.outs.map Enc.c))), .r (B r.disc), .r (.v (.sl (r.em.map Enc.c))), .r (.v (.sl (r.cuts.map Enc.c)))], .row 31 1 (os.map Enc.c), .row 26 5 (st.map Enc.c)]
/-- frustum/frustumref30.Strips -/
theorem c19 (r : LR) (hem : r.em.length ≤ 300) (hcu : r.cuts.length ≤ 300) (hl : ∀ l ∈ r.em, l.length ≤ 17592186044412) : Fn Try.prog 19 [A r] (.one (L (strips r))) := by
  refine fnI Try.func19 Try.ntmps19 fun hb => ?_
  refine sg ?_
  refine bx _ ?_
  refine as_ ?_
  refine rNil ?_
  refine sg ?_
  refine (bsO _) ?_
  refine as_ ?_
  refine rNil ?_
  refine sg ?_
  refine (bsO _) ?_
  refine as_ ?_
  refine rNil ?_
  refine sg ?_
  refine as_ ?_
  refine as_ ?_
  refine rNil ?_
  refine sq ?_
  refine sg ?_
  refine as_ ?_
  refine rNil ?_
  refine bk ?_
  refine lp (fun n S => ∃ (i at_ last nu ns : Nat) (os : List (List V)) (st : List V), n = r.em.length - i ∧ i ≤ r.em.length ∧ last ≤ i ∧ at_ ≤ r.cuts.length ∧ Lag r.em r.cuts at_ last os ∧ (i ≤ last + 1 ∨ Pend r.em r.cuts at_ last i) ∧ os.length ≤ i ∧ st = seg r.em last i ∧ nu = os.length ∧ ns = st.length ∧
    S = ⟨[(7, .r (I i)), (5, .r (I at_)), (6, .r (I last)), (3, .own 1 nu), (4, .own 2 ns), (1, .box 0 0)], E19 r os st⟩) r.em.length ?_ ?_
  · exact wx 3 ⟨0, 0, 0, 0, 0, [], [], rfl, by omega, by omega, by omega, ⟨0, .inl rfl, rfl⟩, .inl (by omega), by simp, seg_self.symm, rfl, rfl, rfl⟩
  rintro n S ⟨i, at_, last, nu, ns, os, st, hn, hi, hla, hat, hlag, hpend, hos, hst, hno, hns, rfl⟩
  refine sq ?_
  refine sg ?_
  refine mv ?_
  first | refine ff ?_ | refine fb ?_ | refine fo ?_
  first | refine l1f ?_ | refine l1b ?_ | refine l1o ?_
  first | refine lnM ?_ | refine ln ?_ | refine lnO ?_ | refine lnN ?_ | refine lnW ?_
  refine bo ?_
  refine rNil ?_
  refine cn (fun h1 => ?_) (fun h1 => ?_)
  ·
    have hi1 : i < r.em.length := by simp at h1; omega
    obtain ⟨x, hx⟩ := ex_get hi1
    have hxl := hl x (List.mem_of_getElem? hx)
    have hstl : st.length = i - last := by rw [hst, seg_len hi]
    have hnsm : ns = (st.map Enc.c).length := by rw [List.length_map, hns]
    have hnum : nu = (os.map Enc.c).length := by rw [List.length_map, hno]
    refine awp_skip ?_
    refine tn ?_
    refine sq ?_
    refine bk ?_
    refine sq ?_
    refine bk ?_
    refine lp (fun n S => ∃ (a : Nat), n = r.cuts.length - a ∧ a ≤ r.cuts.length ∧ Lag r.em r.cuts a last os ∧ (i ≤ last + 1 ∨ Pend r.em r.cuts a last i) ∧ S = ⟨[(7, .r (I i)), (5, .r (I a)), (6, .r (I last)), (3, .own 1 nu), (4, .own 2 ns), (1, .box 0 0)], E19 r os st⟩) (r.cuts.length - at_) ?_ ?_
    · exact wx 3 ⟨at_, rfl, hat, hlag, hpend, rfl⟩
    have hn0 := hn
    clear hn hlag hpend hat
    rintro n S ⟨a, hn, ha, hlag, hpend, rfl⟩
    refine sq ?_
    refine sd mixO ?_
    refine mv ?_
    first | refine ff ?_ | refine fb ?_ | refine fo ?_
    first | refine l1f ?_ | refine l1b ?_ | refine l1o ?_
    first | refine lnM ?_ | refine ln ?_ | refine lnO ?_ | refine lnN ?_ | refine lnW ?_
    refine bo ?_
    refine mv ?_
    refine gd (fun h2 => ?_) (fun h2 => ?_)
    ·
      have ha1 : a < r.cuts.length := by simpa using h2
      obtain ⟨c, hc⟩ := ex_get ha1
      first | refine ff ?_ | refine fb ?_ | refine fo ?_
      first | refine l1f ?_ | refine l1b ?_ | refine l1o ?_
      refine mv ?_
      first | refine xs_ ?_ | refine xo ?_ | refine xw ?_
      first | refine l1f ?_ | refine l1b ?_ | refine l1o ?_
      refine mv ?_
      refine bo ?_
      refine mv ?_
      refine gd (fun h3 => ?_) (fun h3 => ?_)
      ·
        refine no ?_
        refine no ?_
        refine no ?_
        refine no ?_
        refine no ?_
        refine no ?_
        refine no ?_
        refine no ?_
        refine no ?_
        refine pkT ?_
        refine pkT ?_
        refine rNil ⟨rfl, ?_⟩
        refine cn (fun h4 => ?_) (fun h4 => ?_)
        ·
          refine awp_skip ?_
          refine tn ?_
          refine bk ?_
          refine rg ?_
          refine mv ?_
          refine bo ?_
          refine as_ ?_
          refine rNil ?_
          refine bn_ ?_
          refine tn ?_
          have hle : c ≤ last := by simpa using h3
          refine ⟨r.cuts.length - (a + 1), by omega, wx 3 ⟨a + 1, rfl, by omega, lag_skip hlag hc (.inl hle), ?_, rfl⟩⟩
          rcases hpend with h | h | ⟨c', hc', hlt, _⟩
          · exact .inl h
          · omega
          · rw [hc] at hc'; cases hc'; omega -- LEAF 1: round of loop 2
        ·
          exact absurd h4 (by decide)
      ·
        first | refine ff ?_ | refine fb ?_ | refine fo ?_
        first | refine l1f ?_ | refine l1b ?_ | refine l1o ?_
        refine mv ?_
        first | refine xs_ ?_ | refine xo ?_ | refine xw ?_
        first | refine l1f ?_ | refine l1b ?_ | refine l1o ?_
        first | refine ff ?_ | refine fb ?_ | refine fo ?_
        first | refine l1f ?_ | refine l1b ?_ | refine l1o ?_
        first | refine lnM ?_ | refine ln ?_ | refine lnO ?_ | refine lnN ?_ | refine lnW ?_
        refine bo ?_
        refine pkF ?_
        refine pkT ?_
        refine rNil ⟨rfl, ?_⟩
        refine cn (fun h5 => ?_) (fun h5 => ?_)
        ·
          have hge : (r.em.length : Int) ≤ c := by simpa using h5
          refine awp_skip ?_
          refine tn ?_
          refine bk ?_
          refine rg ?_
          refine mv ?_
          refine bo ?_
          refine as_ ?_
          refine rNil ?_
          refine bn_ ?_
          refine tn ?_
          refine ⟨r.cuts.length - (a + 1), by omega, wx 3 ⟨a + 1, rfl, by omega, lag_skip hlag hc (.inr hge), ?_, rfl⟩⟩
          rcases hpend with h | h | ⟨c', hc', hlt, hlt2, _⟩
          · exact .inl h
          · omega
          · rw [hc] at hc'; cases hc'; omega -- LEAF 2: round of loop 2
        ·
          have hlt : (last : Int) < c := by simp at h3; omega
          have hlen : c < r.em.length := by simp at h5; omega
          have hsL := lag_now hlag (.inr ⟨c, hc, hlt⟩)
          have hic : (i : Int) ≤ c := by
            rcases hpend with h | h | ⟨c', hc', _, _, h⟩
            · omega
            · omega
            · rw [hc] at hc'; cases hc'; exact h
          refine awp_exit ?_
          refine te ?_
          refine te ?_
          refine xbk ?_
          refine tn ?_
          refine sq ?_
          refine sg ?_
          refine mv ?_
          first | refine ff ?_ | refine fb ?_ | refine fo ?_
          first | refine l1f ?_ | refine l1b ?_ | refine l1o ?_
          first | refine lnM ?_ | refine ln ?_ | refine lnO ?_ | refine lnN ?_ | refine lnW ?_
          refine bo ?_
          refine mv ?_
          refine gd (fun h6 => ?_) (fun h6 => ?_)
          ·
            first | refine ff ?_ | refine fb ?_ | refine fo ?_
            first | refine l1f ?_ | refine l1b ?_ | refine l1o ?_
            refine mv ?_
            first | refine xs_ ?_ | refine xo ?_ | refine xw ?_
            first | refine l1f ?_ | refine l1b ?_ | refine l1o ?_
            refine mv ?_
            refine bo ?_
            refine pkT ?_
            refine rNil ?_
            refine cn (fun h7 => ?_) (fun h7 => ?_)
            ·
              have hci : c = i := by simpa using h7
              subst hci
              refine sg ?_
              refine mv ?_
              refine as_ ?_
              refine rNil ?_
              refine fz 2 ?_
              refine sg ?_
              refine mv ?_
              refine mv ?_
              refine (bsF [2]) ?_
              first | refine ap ?_ | refine (apN _) ?_
              refine as_ ?_
              refine rNil ?_
              refine rg ?_
              refine (bsO _) ?_
              refine as_ ?_
              refine rNil ?_
              refine tn ?_
              refine rg ?_
              refine mv ?_
              first | refine ff ?_ | refine fb ?_ | refine fo ?_
              first | refine l1f ?_ | refine l1b ?_ | refine l1o ?_
              refine mv ?_
              first | refine xs_ ?_ | refine xo ?_ | refine xw ?_
              first | refine l1f ?_ | refine l1b ?_ | refine l1o ?_
              refine cl (c11 x (by omega)) ?_
              refine bs ?_
              first | refine ap ?_ | refine (apN _) ?_
              refine as_ ?_
              refine rNil ?_
              refine bn_ ?_
              refine tn ?_
              refine rg ?_
              refine mv ?_
              refine bo ?_
              refine as_ ?_
              refine rNil ?_
              refine tn ?_
              refine ⟨r.em.length - (i + 1), by omega, wr2 [0, 1, 3] ⟨i + 1, a, i, ((os.map Enc.c) ++ [Enc.c st]).length, 1, os ++ [st], [vofs x], rfl, by omega, by omega, ha, ⟨a + 1, .inr ⟨rfl, _, hc, by omega⟩, ?_⟩, .inl (by omega), by simp; omega, ?_, by simp, rfl, rfl⟩ (.cons (.box _ (.cons (.r _) (.cons (.r _) (.cons (.r _) (.cons (.r _) .nil))))) (.cons (.row _ _ _) (.cons (.row _ _ _) (.nil _)))) (by simp [RV.flat, Enc.c, vofs]) ?_⟩
              · rw [stripsL_snoc r.em hc, hsL, stepC, if_pos ⟨hlt, hlen⟩, hst]; rfl
              · rw [seg_snoc hx (Nat.le_refl _), seg_self]; rfl
              · ((repeat refine KeptR.cons (by ((repeat apply Look.there rfl); exact Look.here)) (by first | exact SRen.r _ | exact SRen.own _ _ | exact SRen.box _ _) ?_); exact KeptR.nil) -- LEAF 3: round of loop 1
            ·
              refine awp_skip ?_
              refine tn ?_
              refine rg ?_
              refine mv ?_
              first | refine ff ?_ | refine fb ?_ | refine fo ?_
              first | refine l1f ?_ | refine l1b ?_ | refine l1o ?_
              refine mv ?_
              first | refine xs_ ?_ | refine xo ?_ | refine xw ?_
              first | refine l1f ?_ | refine l1b ?_ | refine l1o ?_
              refine cl (c11 x (by omega)) ?_
              refine bs ?_
              first | refine ap ?_ | refine (apN _) ?_
              refine as_ ?_
              refine rNil ?_
              refine bn_ ?_
              refine tn ?_
              refine rg ?_
              refine mv ?_
              refine bo ?_
              refine as_ ?_
              refine rNil ?_
              refine tn ?_
              have hne : c ≠ i := by simpa using h7
              refine ⟨r.em.length - (i + 1), by omega, wy 3 ⟨i + 1, a, last, nu, ns + 1, os, st ++ [vofs x], rfl, by omega, by omega, ha, hlag, .inr (.inr ⟨c, hc, hlt, hlen, by omega⟩), by omega, ?_, hno, by simp [hns], rfl⟩ (by simp [RV.flat, Enc.c, vofs])⟩
              rw [seg_snoc hx (by omega), hst] -- LEAF 4: round of loop 1
          ·
            rw [h2] at h6; cases h6 -- END
    ·
      refine no ?_
      refine no ?_
      refine no ?_
      refine no ?_
      refine no ?_
      refine no ?_
      refine no ?_
      refine no ?_
      refine noU ?_
      refine noU ?_
      refine noU ?_
      refine noU ?_
      refine noU ?_
      refine noU ?_
      refine noU ?_
      refine noU ?_
      refine noU ?_
      refine no ?_
      refine pkF ?_
      refine rNil ⟨rfl, ?_⟩
      refine cn (fun h8 => ?_) (fun h8 => ?_)
      ·
        exact absurd h8 (by decide)
      ·
        refine awp_exit ?_
        refine te ?_
        refine te ?_
        refine xbk ?_
        refine tn ?_
        refine sq ?_
        refine sg ?_
        refine mv ?_
        first | refine ff ?_ | refine fb ?_ | refine fo ?_
        first | refine l1f ?_ | refine l1b ?_ | refine l1o ?_
        first | refine lnM ?_ | refine ln ?_ | refine lnO ?_ | refine lnN ?_ | refine lnW ?_
        refine bo ?_
        refine mv ?_
        refine gd (fun h9 => ?_) (fun h9 => ?_)
        ·
          rw [h2] at h9; cases h9 -- END
        ·
          refine no ?_
          refine no ?_
          refine no ?_
          refine no ?_
          refine no ?_
          refine no ?_
          refine no ?_
          refine pkF ?_
          refine rNil ?_
          refine cn (fun h10 => ?_) (fun h10 => ?_)
          ·
            exact absurd h10 (by decide)
          ·
            refine awp_skip ?_
            refine tn ?_
            refine rg ?_
            refine mv ?_
            first | refine ff ?_ | refine fb ?_ | refine fo ?_
            first | refine l1f ?_ | refine l1b ?_ | refine l1o ?_
            refine mv ?_
            first | refine xs_ ?_ | refine xo ?_ | refine xw ?_
            first | refine l1f ?_ | refine l1b ?_ | refine l1o ?_
            refine cl (c11 x (by omega)) ?_
            refine bs ?_
            first | refine ap ?_ | refine (apN _) ?_
            refine as_ ?_
            refine rNil ?_
            refine bn_ ?_
            refine tn ?_
            refine rg ?_
            refine mv ?_
            refine bo ?_
            refine as_ ?_
            refine rNil ?_
            refine tn ?_
            have hae : r.cuts.length ≤ a := by simp at h2; omega
            refine ⟨r.em.length - (i + 1), by omega, wy 3 ⟨i + 1, a, last, nu, ns + 1, os, st ++ [vofs x], rfl, by omega, by omega, ha, hlag, .inr (.inl hae), by omega, ?_, hno, by simp [hns], rfl⟩ (by simp [RV.flat, Enc.c, vofs])⟩
            rw [seg_snoc hx (by omega), hst] -- LEAF 5: round of loop 1
  ·
    refine awp_exit ?_
    refine te ?_
    refine te ?_
    refine xbk ?_
    refine tn ?_
    refine sq ?_
    have hie : i = r.em.length := by simp at h1; omega
    obtain ⟨q, hq, hsq⟩ := hlag
    have hdone : stripsL r.em r.cuts = (last, os) := by
      refine stripsL_done hsq ?_
      rcases hpend with h | h | ⟨c, _, _, h3, h4⟩
      · right; show r.em.length ≤ last + 1; omega
      · left; rcases hq with rfl | ⟨rfl, c, hc, _⟩ <;> omega
      · omega
    have hstl : st.length = r.em.length - last := by rw [hst, seg_len hi, hie]
    have hnsm : ns = (st.map Enc.c).length := by rw [List.length_map, hns]
    have hnum : nu = (os.map Enc.c).length := by rw [List.length_map, hno]
    refine sg ?_
    refine mv ?_
    first | refine lnM ?_ | refine ln ?_ | refine lnO ?_ | refine lnN ?_ | refine lnW ?_
    refine bo ?_
    refine rNil ?_
    refine cn (fun h11 => ?_) (fun h11 => ?_)
    ·
      refine fz 2 ?_
      refine rg ?_
      refine mv ?_
      refine mv ?_
      refine (bsF [2]) ?_
      first | refine ap ?_ | refine (apN _) ?_
      refine as_ ?_
      refine rNil ?_
      refine tn ?_
      refine sg ?_
      refine mv ?_
      refine as_ ?_
      refine rNil ?_
      refine awp_ret ?_
      exact ⟨.inr rfl, _, .cons (.v (by ((repeat apply Look.there rfl); exact Look.here)) (.row rfl rfl)) .nil, by rw [strips, hdone, if_pos (by simp at h11; omega), hst, hie]; simp [outOf, RV.flat, Enc.c]⟩ -- LEAF 6: ret
    ·
      refine awp_skip ?_
      refine tn ?_
      refine sg ?_
      refine mv ?_
      refine as_ ?_
      refine rNil ?_
      refine awp_ret ?_
      exact ⟨.inr rfl, _, .cons (.v (by ((repeat apply Look.there rfl); exact Look.here)) (.row rfl hnum)) .nil, by rw [strips, hdone, if_neg (by simp at h11; simp only; omega)]; rfl⟩ -- LEAF 7: ret

end Go.Proofs.Ytolbhipnbhehdaa.VS
