/- The walks of functions: what each computes, by itself. Conditions: none. -/
import Derived.Test.YtnhljpbpfaablaaF13
set_option linter.unusedVariables false
set_option linter.unusedSimpArgs false
namespace Go.Proofs.Ytnhljpbpfaablaa.VS
open Go
theorem shr1 {s : Int} (h : 0 ≤ s) : shop .shr .u64 s 1 = some (.i .u64 (s / 2)) := by
  have h1 : min (1 : Int).toNat IntKind.u64.bits = 1 := rfl
  simp only [shop]
  rw [if_neg (by decide), h1, show (2 : Int) ^ 1 = 2 by decide, Int.fdiv_eq_ediv_of_nonneg _ (by decide)]
theorem lx_last {ls : List Pr} {P : List Int} {y : Int} (h : LX ls (P ++ [y])) : ∀ a ∈ P ++ [y], kx ls a ≤ kx ls y := last_max (Q := []) (by rw [List.append_nil]; exact h)
theorem lx_first {ls : List Pr} {P : List Int} {y : Int} (h : LX ls (y :: P)) : ∀ a ∈ y :: P, kx ls y ≤ kx ls a := by
  intro a ha
  rcases List.mem_cons.1 ha with h1 | h1
  · rw [h1]; exact Int.le_refl _
  · have := (List.pairwise_cons.1 h).1 a h1
    rw [lxb_iff] at this; omega
theorem merge_ok {ls : List Pr} {X1 X2 Y1 Y2 : List Int} (hX : LX ls (X1 ++ X2)) (hY : LX ls (Y1 ++ Y2)) (hlt : ∀ x ∈ X1 ++ X2, ∀ y ∈ Y1 ++ Y2, x < y)
    (hA : X1 = [] ∨ Y2 = [] ∨ ∃ X x Y y, X1 = X ++ [x] ∧ Y2 = y :: Y ∧ kx ls x ≤ kx ls y) (hB : X2 = [] ∨ Y1 = [] ∨ ∃ X x Y y, X2 = x :: X ∧ Y1 = Y ++ [y] ∧ kx ls y < kx ls x) :
    lexs ls (X1 ++ Y1) ++ lexs ls (X2 ++ Y2) = lexs ls ((X1 ++ X2) ++ (Y1 ++ Y2)) := by
  obtain ⟨hX1, hX2, hX3⟩ := LX.app.1 hX
  obtain ⟨hY1, hY2, hY3⟩ := LX.app.1 hY
  have hA' : ∀ x ∈ X1, ∀ y ∈ Y2, kx ls x ≤ kx ls y := by
    intro x hx y hy
    rcases hA with h | h | ⟨X, x', Y, y', h1, h2, h3⟩
    · rw [h] at hx; cases hx
    · rw [h] at hy; cases hy
    · have e1 := lx_last (by rw [← h1]; exact hX1) x (by rw [← h1]; exact hx)
      have e2 := lx_first (by rw [← h2]; exact hY2) y (by rw [← h2]; exact hy)
      omega
  have hB' : ∀ x ∈ X2, ∀ y ∈ Y1, kx ls y < kx ls x := by
    intro x hx y hy
    rcases hB with h | h | ⟨X, x', Y, y', h1, h2, h3⟩
    · rw [h] at hx; cases hx
    · rw [h] at hy; cases hy
    · have e1 := lx_first (by rw [← h1]; exact hX2) x (by rw [← h1]; exact hx)
      have e2 := lx_last (by rw [← h2]; exact hY1) y (by rw [← h2]; exact hy)
      omega
  refine lexs_uniq (LX.app.2 ⟨lexs_sorted _ _, lexs_sorted _ _, fun a ha b hb => ?_⟩) ?_
  · have ha := lexs_mem.1 ha
    have hb := lexs_mem.1 hb
    rcases List.mem_append.1 ha with ha | ha <;> rcases List.mem_append.1 hb with hb | hb
    · exact hX3 a ha b hb
    · rw [lxb_iff]
      have := hA' a ha b hb
      have := hlt a (List.mem_append_left _ ha) b (List.mem_append_right _ hb)
      omega
    · rw [lxb_iff]; exact .inl (hB' b hb a ha)
    · exact hY3 a ha b hb
  · refine ((lexs_perm _ _).append (lexs_perm _ _)).trans ?_
    have e1 : (X1 ++ Y1 ++ (X2 ++ Y2)) = X1 ++ ((Y1 ++ X2) ++ Y2) := by simp
    have e2 : (X1 ++ X2 ++ (Y1 ++ Y2)) = X1 ++ ((X2 ++ Y1) ++ Y2) := by simp
    rw [e1, e2]
    exact (List.perm_append_comm.append_right Y2).append_left X1
theorem lexs_self {ls : List Pr} {l : List Int} (h : LX ls l) : lexs ls l = l := (lexs_uniq h (List.Perm.refl l)).symm
def MergeOK (p : Prg) (ls : List Pr) (out : List Int) (L : Nat) : Prop := ∀ (A X Y B : List Int) (T : List Ent), UT T → X.length + Y.length < L → 0 < X.length → 0 < Y.length → LX ls X → LX ls Y → (∀ x ∈ X, ∀ y ∈ Y, x < y) → GdL ls (X ++ Y) → (A ++ X ++ Y ++ B).length ≤ 8192 →
  FnX Try.prog 60 [] [.own 3 (A ++ X ++ Y ++ B).length, .r (I A.length), .r (I ((A.length + X.length : Nat) : Int)), .r (I ((A.length + X.length + Y.length : Nat) : Int)), .clo 35 [1]] .none (oT p ls out (A ++ X ++ Y ++ B) T) (oT p ls out (A ++ lexs ls (X ++ Y) ++ B) T)
theorem ex_snoc {l : List Int} (h : 0 < l.length) : ∃ P y, l = P ++ [y] := ⟨l.dropLast, l.getLast (by intro e; rw [e] at h; cases h), (List.dropLast_concat_getLast _).symm⟩
theorem ex_cons {l : List Int} (h : 0 < l.length) : ∃ y P, l = y :: P := by
  cases l with
  | nil => cases h
  | cons y P => exact ⟨y, P, rfl⟩
/-- One element put among sorted ones. -/
theorem one_left {ls : List Pr} {x : Int} {Y1 Y2 : List Int} (hY : LX ls (Y1 ++ Y2)) (hlt : ∀ y ∈ Y1 ++ Y2, x < y) (h1 : Y1 = [] ∨ ∃ P y, Y1 = P ++ [y] ∧ kx ls y < kx ls x) (h2 : Y2 = [] ∨ ∃ y P, Y2 = y :: P ∧ kx ls x ≤ kx ls y) : Y1 ++ x :: Y2 = lexs ls (x :: (Y1 ++ Y2)) := by
  obtain ⟨hY1, hY2, _⟩ := LX.app.1 hY
  refine lexs_uniq (lx_mid hY (fun a ha => lxb_iff.2 (.inl ?_)) (fun b hb => lxb_iff.2 ?_)) List.perm_middle
  · rcases h1 with h | ⟨P, y, h, h3⟩
    · rw [h] at ha; cases ha
    · have := lx_last (by rw [← h]; exact hY1) a (by rw [← h]; exact ha)
      omega
  · have h4 := hlt b (List.mem_append_right _ hb)
    rcases h2 with h | ⟨y, P, h, h3⟩
    · rw [h] at hb; cases hb
    · have := lx_first (by rw [← h]; exact hY2) b (by rw [← h]; exact hb)
      omega
theorem one_right {ls : List Pr} {y : Int} {X1 X2 : List Int} (hX : LX ls (X1 ++ X2)) (hlt : ∀ x ∈ X1 ++ X2, x < y) (h1 : X1 = [] ∨ ∃ P x, X1 = P ++ [x] ∧ kx ls x ≤ kx ls y) (h2 : X2 = [] ∨ ∃ x P, X2 = x :: P ∧ kx ls y < kx ls x) : X1 ++ y :: X2 = lexs ls ((X1 ++ X2) ++ [y]) := by
  obtain ⟨hX1, hX2, _⟩ := LX.app.1 hX
  refine lexs_uniq (lx_mid hX (fun a ha => lxb_iff.2 ?_) (fun b hb => lxb_iff.2 (.inl ?_))) (List.perm_middle.trans (List.perm_append_singleton y _).symm)
  · have h4 := hlt a (List.mem_append_left _ ha)
    rcases h1 with h | ⟨P, x, h, h3⟩
    · rw [h] at ha; cases ha
    · have := lx_last (by rw [← h]; exact hX1) a (by rw [← h]; exact ha)
      omega
  · rcases h2 with h | ⟨x, P, h, h3⟩
    · rw [h] at hb; cases hb
    · have := lx_first (by rw [← h]; exact hX2) b (by rw [← h]; exact hb)
      omega
theorem c61' {p : Prg} {ls : List Pr} {out zs ts : List Int} {T : List Ent} {N0 : Nat} {a m b : Int} (A X Y B : List Int) (hUT : UT T) (hz : zs = A ++ X ++ Y ++ B) (ht : ts = A ++ Y ++ X ++ B) (hN : N0 = zs.length) (ha : a = A.length) (hm : m = A.length + X.length) (hb : b = A.length + X.length + Y.length) (hX : 0 < X.length) (hY : 0 < Y.length) (hlen : N0 ≤ 8192) :
    FnX Try.prog 61 [] [.own 3 N0, .r (I a), .r (I m), .r (I b), .clo 35 [1]] .none (oT p ls out zs T) (oT p ls out ts T) := by
  subst hz ht ha hN
  rw [show m = ((A.length + X.length : Nat) : Int) by omega, show b = ((A.length + X.length + Y.length : Nat) : Int) by omega]
  exact c61 p ls out A X Y B T hUT hX hY hlen
theorem mOK' {p : Prg} {ls : List Pr} {out zs ts : List Int} {T : List Ent} {L N0 : Nat} {a m b : Int} (ih : MergeOK p ls out L) (A X Y B : List Int) (hUT : UT T) (hz : zs = A ++ X ++ Y ++ B) (ht : ts = A ++ lexs ls (X ++ Y) ++ B) (hN : N0 = zs.length) (ha : a = A.length) (hm : m = A.length + X.length) (hb : b = A.length + X.length + Y.length) (hX0 : 0 < X.length) (hY0 : 0 < Y.length)
    (hL : X.length + Y.length < L) (hX : LX ls X) (hY : LX ls Y) (hlt : ∀ x ∈ X, ∀ y ∈ Y, x < y) (hGd : GdL ls (X ++ Y)) (hlen : N0 ≤ 8192) :
    FnX Try.prog 60 [] [.own 3 N0, .r (I a), .r (I m), .r (I b), .clo 35 [1]] .none (oT p ls out zs T) (oT p ls out ts T) := by
  subst hz ht ha hN
  rw [show m = ((A.length + X.length : Nat) : Int) by omega, show b = ((A.length + X.length + Y.length : Nat) : Int) by omega]
  exact ih A X Y B T hUT hL hX0 hY0 hX hY hlt hGd hlen
set_option maxHeartbeats 4000000 in
/-- slices.symMergeCmpFunc[int] -/
theorem c60s (p : Prg) (ls : List Pr) (out : List Int) (L : Nat) (ih : MergeOK p ls out L) (A X Y B : List Int) (T : List Ent) (hUT : UT T) (hL : X.length + Y.length = L) (hX0 : 0 < X.length) (hY0 : 0 < Y.length) (hX : LX ls X) (hY : LX ls Y) (hlt : ∀ x ∈ X, ∀ y ∈ Y, x < y) (hGd : GdL ls (X ++ Y)) (hlen : (A ++ X ++ Y ++ B).length ≤ 8192) :
    FnX Try.prog 60 [] [.own 3 (A ++ X ++ Y ++ B).length, .r (I A.length), .r (I ((A.length + X.length : Nat) : Int)), .r (I ((A.length + X.length + Y.length : Nat) : Int)), .clo 35 [1]] .none (oT p ls out (A ++ X ++ Y ++ B) T) (oT p ls out (A ++ lexs ls (X ++ Y) ++ B) T) := by
  refine fnX_of Try.func60 Try.ntmps60 (fun K hK hKf => ?_)
  have hUK := ut_snoc hUT hK
  generalize hN : (A ++ X ++ Y ++ B).length = N0 at *
  simp only [List.length_append] at hN
  refine sq ?_
  refine sg ?_
  refine mv ?_
  refine mv ?_
  refine bo (hz := by first | exact bop_sub (by omega) (by omega) | exact rfl) ?_
  refine bo (hz := by exact rfl) ?_
  refine rNil ?_
  refine cn (fun h1 => ?_) (fun h1 => ?_)
  ·
    have hX1 : X.length = 1 := by simp at h1; omega
    obtain ⟨x, rfl⟩ : ∃ x, X = [x] := List.length_eq_one_iff.1 hX1
    have hgx := hGd x (by simp)
    have hltx := hlt x (by simp)
    rw [show A ++ [x] ++ Y ++ B = A ++ x :: (Y ++ B) by simp]
    refine sg ?_
    refine mv ?_
    refine as_ ?_
    refine rNil ?_
    refine sg ?_
    refine mv ?_
    refine as_ ?_
    refine rNil ?_
    refine sq ?_
    refine bk ?_
    refine lp (fun m S => ∃ (u v : Nat), m = v - u ∧ u ≤ v ∧ v ≤ Y.length ∧ (u = 0 ∨ kx ls (Y.getD (u - 1) 0) < kx ls x) ∧ (v = Y.length ∨ kx ls x ≤ kx ls (Y.getD v 0)) ∧ S = ⟨[(11, .r (I ((A.length + 1 + v : Nat) : Int))), (10, .r (I ((A.length + 1 + u : Nat) : Int))), (0, .own 3 N0), (1, .r (I A.length)), (4, .clo 35 [1])], oT p ls out (A ++ x :: (Y ++ B)) (T ++ [.sav K])⟩) Y.length ?_ ?_
    · exact wz ⟨0, Y.length, rfl, Nat.zero_le _, Nat.le_refl _, .inl rfl, .inl rfl, rfl⟩ rfl
    rintro m S ⟨u, v, hm, huv, hv, hu1, hv1, rfl⟩
    generalize hz : A ++ x :: (Y ++ B) = zs
    have hzl : zs.length = N0 := by rw [← hz]; simp at hN ⊢; omega
    refine sq ?_
    refine sg ?_
    refine mv ?_
    refine mv ?_
    refine bo (hz := by exact rfl) ?_
    refine rNil ?_
    refine cn (fun h2 => ?_) (fun h2 => ?_)
    ·
      have huv' : u < v := by simp at h2; omega
      obtain ⟨w, hw⟩ : ∃ w : Nat, w = (A.length + 1 + u + (A.length + 1 + v)) / 2 - (A.length + 1) := ⟨_, rfl⟩
      have hw2 : (((A.length + 1 + u : Nat) : Int) + ((A.length + 1 + v : Nat) : Int)) / 2 = ((A.length + 1 + w : Nat) : Int) := by omega
      have hwb : u ≤ w ∧ w < v := by omega
      have hwy : Y.getD w 0 ∈ Y := by rw [List.getD_eq_getElem?_getD, List.getElem?_eq_getElem (by omega)]; exact List.getElem_mem _
      have hgy := hGd (Y.getD w 0) (List.mem_append_right _ hwy)
      have g1 : zs.getD (((A.length + 1 + w : Nat) : Int).toNat * 1) 0 = Y.getD w 0 := by
        rw [← hz, show ((A.length + 1 + w : Nat) : Int).toNat * 1 = A.length + (w + 1) by omega, List.getD_eq_getElem?_getD, List.getElem?_append_right (by omega), show A.length + (w + 1) - A.length = w + 1 by omega, List.getElem?_cons_succ, List.getElem?_append_left (by omega), List.getD_eq_getElem?_getD]
      have g2 : zs.getD ((A.length : Int).toNat * 1) 0 = x := by rw [← hz]; exact getD_mid (by omega)
      refine awp_skip ?_
      refine tn ?_
      refine bk ?_
      refine sg ?_
      refine mv ?_
      refine mv ?_
      refine bo (hz := by first | exact bop_add (by omega) (by omega) | exact rfl) ?_
      refine cv ?_
      refine sh (hz := shr1 (by omega)) ?_
      refine cv (n := ((A.length + 1 + w : Nat) : Int)) (hz := by rw [hw2]; exact wrap64_in (by omega) (by omega)) ?_
      refine as_ ?_
      refine rNil ?_
      refine sd mixO ?_
      refine mv ?_
      refine mv ?_
      refine mv ?_
      first | refine xs_ ?_ | refine xo ?_ | refine xw ?_ | refine xsl ?_
      first | refine l1f ?_ | refine l1b ?_ | refine l1o ?_ | refine ldI ?_
      refine mv ?_
      refine mv ?_
      first | refine xs_ ?_ | refine xo ?_ | refine xw ?_ | refine xsl ?_
      first | refine l1f ?_ | refine l1b ?_ | refine l1o ?_ | refine ldI ?_
      rw [g1, g2]
      refine ccR [1] (ss := [.r (I (Y.getD w 0)), .r (I x)]) (fss := [[.sl (ls.map Enc.c)]]) (c35 ls _ _ hgy hgx) ?_
      refine bo (hz := by exact rfl) ?_
      refine rNil ⟨rfl, ?_⟩
      refine cn (fun h3 => ?_) (fun h3 => ?_)
      ·
        refine rg ?_
        refine mv ?_
        refine bo (hz := by first | exact bop_add (by omega) (by omega) | exact rfl) ?_
        refine as_ ?_
        refine rNil ?_
        refine bn_ ?_
        refine tn ?_
        exact ⟨v - (w + 1), by omega, wz ⟨w + 1, v, rfl, by omega, hv, .inr (by rw [Nat.add_sub_cancel]; have := of_decide_eq_true h3; omega), hv1, rfl⟩ rfl⟩ -- LEAF 1: round of loop 1
      ·
        refine rg ?_
        refine mv ?_
        refine as_ ?_
        refine rNil ?_
        refine bn_ ?_
        refine tn ?_
        exact ⟨w - u, by omega, wz ⟨u, w, rfl, by omega, by omega, hu1, .inr (by have := of_decide_eq_false h3; omega), rfl⟩ rfl⟩ -- LEAF 2: round of loop 1
    ·
      have huv' : u = v := by simp at h2; omega
      subst huv'
      subst hz
      have hYs : Y.take u ++ Y.drop u = Y := List.take_append_drop u Y
      have hfin : A ++ (Y.take u ++ x :: Y.drop u) ++ B = A ++ lexs ls ([x] ++ Y) ++ B := by
        rw [one_left (Y1 := Y.take u) (Y2 := Y.drop u) (by rw [hYs]; exact hY) (by rw [hYs]; exact hltx), hYs]; rfl
        · rcases hu1 with h | h
          · left; rw [h]; rfl
          · by_cases h0 : u = 0
            · left; rw [h0]; rfl
            · right
              have e := take_snoc (l := Y) (k := u - 1) (x := Y.getD (u - 1) 0) (by rw [List.getD_eq_getElem?_getD, List.getElem?_eq_getElem (by omega)]; rfl)
              rw [show u - 1 + 1 = u by omega] at e
              exact ⟨_, _, e, h⟩
        · rcases hv1 with h | h
          · left; rw [h, List.drop_length]
          · by_cases h0 : u = Y.length
            · left; rw [h0, List.drop_length]
            · right
              exact ⟨_, _, drop_at (x := Y.getD u 0) (by rw [List.getD_eq_getElem?_getD, List.getElem?_eq_getElem (by omega)]; rfl), h⟩
      refine awp_exit ?_
      refine te ?_
      refine te ?_
      refine xbk ?_
      refine tn ?_
      refine sq ?_
      refine sg ?_
      refine mv ?_
      refine as_ ?_
      refine rNil ?_
      refine bk ?_
      have hul : (Y.take u).length = u := by rw [List.length_take]; omega
      refine lp (fun m S => ∃ (s : Nat) (zs : List Int), m = u - s ∧ s ≤ u ∧ zs = (A ++ (Y.take u).take s) ++ x :: ((Y.take u).drop s ++ Y.drop u ++ B) ∧ S = ⟨[(13, .r (I ((A.length + s : Nat) : Int))), (10, .r (I ((A.length + 1 + u : Nat) : Int))), (0, .own 3 N0)], oT p ls out zs (T ++ [.sav K])⟩) u ?_ ?_
      · exact wz ⟨0, _, rfl, Nat.zero_le _, rfl, rfl⟩ (oTd (by simp))
      rintro m2 S ⟨s, zs, hm2, hs, hz, rfl⟩
      have hzl : zs.length = N0 := by rw [hz]; simp at hN ⊢; omega
      refine sq ?_
      refine sg ?_
      refine mv ?_
      refine mv ?_
      refine bo (hz := by first | exact bop_sub (by omega) (by omega) | exact rfl) ?_
      refine bo (hz := by exact rfl) ?_
      refine rNil ?_
      refine cn (fun h4 => ?_) (fun h4 => ?_)
      ·
        have hs' : s < u := by simp at h4; omega
        obtain ⟨y, hy⟩ : ∃ y, (Y.take u)[s]? = some y := ⟨(Y.take u)[s]'(by omega), List.getElem?_eq_getElem _⟩
        have hz2 : zs = (A ++ (Y.take u).take s) ++ x :: ([] ++ y :: ((Y.take u).drop (s + 1) ++ Y.drop u ++ B)) := by rw [hz, drop_at hy]; simp
        have hl1 : ((Y.take u).take s).length = s := by rw [List.length_take]; omega
        refine awp_skip ?_
        refine tn ?_
        refine sq ?_
        refine bk ?_
        refine rd mixO ?_
        refine mv ?_
        refine mv ?_
        refine mv ?_
        refine mv ?_
        refine bo (hz := by first | exact bop_add (by omega) (by omega) | exact rfl) ?_
        refine mv ?_
        refine mv ?_
        refine bo (hz := by first | exact bop_add (by omega) (by omega) | exact rfl) ?_
        first | refine xs_ ?_ | refine xo ?_ | refine xw ?_ | refine xsl ?_
        first | refine l1f ?_ | refine l1b ?_ | refine l1o ?_ | refine ldI ?_
        refine mv ?_
        refine mv ?_
        first | refine xs_ ?_ | refine xo ?_ | refine xw ?_ | refine xsl ?_
        first | refine l1f ?_ | refine l1b ?_ | refine l1o ?_ | refine ldI ?_
        first | refine xs_ ?_ | refine xo ?_ | refine xw ?_ | refine xsl ?_
        first | refine s1 ?_ | refine s1w ?_ | refine soI ?_
        first | refine xs_ ?_ | refine xo ?_ | refine xw ?_ | refine xsl ?_
        first | refine s1 ?_ | refine s1w ?_ | refine soI ?_
        refine rNil ⟨rfl, ?_⟩
        refine bn_ ?_
        refine tn ?_
        refine rg ?_
        refine mv ?_
        refine bo (hz := by first | exact bop_add (by omega) (by omega) | exact rfl) ?_
        refine as_ ?_
        refine rNil ?_
        refine tn ?_
        exact ⟨u - (s + 1), by omega, wz ⟨s + 1, (A ++ (Y.take u).take (s + 1)) ++ x :: ((Y.take u).drop (s + 1) ++ Y.drop u ++ B), rfl, by omega, rfl, rfl⟩ (oTd ((swap_eq hz2 (by simp only [List.length_append]; omega) (by simp only [List.length_append, List.length_nil]; omega)).trans (by rw [take_snoc hy]; simp)))⟩ -- LEAF 3: round of loop 2
      ·
        have hs' : s = u := by simp at h4; omega
        refine awp_exit ?_
        refine te ?_
        refine te ?_
        refine xbk ?_
        refine tn ?_
        refine awp_ret ?_
        refine tr ?_
        exact xz0 (.inr rfl) (oTd (by rw [hz, hs', List.take_of_length_le (by omega), List.drop_eq_nil_of_le (by omega), ← hfin]; simp)) -- LEAF 4: ret
  ·
    refine awp_skip ?_
    refine tn ?_
    refine sq ?_
    refine sg ?_
    refine mv ?_
    refine mv ?_
    refine bo (hz := by first | exact bop_sub (by omega) (by omega) | exact rfl) ?_
    refine bo (hz := by exact rfl) ?_
    refine rNil ?_
    refine cn (fun h5 => ?_) (fun h5 => ?_)
    ·
      have hY1 : Y.length = 1 := by simp at h5; omega
      obtain ⟨y, rfl⟩ : ∃ y, Y = [y] := List.length_eq_one_iff.1 hY1
      have hgy := hGd y (by simp)
      have hltx : ∀ x ∈ X, x < y := fun x hx => hlt x hx y (by simp)
      rw [show A ++ X ++ [y] ++ B = (A ++ X) ++ y :: B by simp]
      refine sg ?_
      refine mv ?_
      refine as_ ?_
      refine rNil ?_
      refine sg ?_
      refine mv ?_
      refine as_ ?_
      refine rNil ?_
      refine sq ?_
      refine bk ?_
      refine lp (fun m S => ∃ (u v : Nat), m = v - u ∧ u ≤ v ∧ v ≤ X.length ∧ (u = 0 ∨ kx ls (X.getD (u - 1) 0) ≤ kx ls y) ∧ (v = X.length ∨ kx ls y < kx ls (X.getD v 0)) ∧ S = ⟨[(15, .r (I ((A.length + v : Nat) : Int))), (14, .r (I ((A.length + u : Nat) : Int))), (0, .own 3 N0), (2, .r (I ((A.length + X.length : Nat) : Int))), (4, .clo 35 [1])], oT p ls out ((A ++ X) ++ y :: B) (T ++ [.sav K])⟩) X.length ?_ ?_
      · exact wz ⟨0, X.length, rfl, Nat.zero_le _, Nat.le_refl _, .inl rfl, .inl rfl, rfl⟩ rfl
      rintro m S ⟨u, v, hm, huv, hv, hu1, hv1, rfl⟩
      generalize hz : (A ++ X) ++ y :: B = zs
      have hzl : zs.length = N0 := by rw [← hz]; simp at hN ⊢; omega
      refine sq ?_
      refine sg ?_
      refine mv ?_
      refine mv ?_
      refine bo (hz := by exact rfl) ?_
      refine rNil ?_
      refine cn (fun h6 => ?_) (fun h6 => ?_)
      ·
        have huv' : u < v := by simp at h6; omega
        obtain ⟨w, hw⟩ : ∃ w : Nat, w = (A.length + u + (A.length + v)) / 2 - A.length := ⟨_, rfl⟩
        have hw2 : (((A.length + u : Nat) : Int) + ((A.length + v : Nat) : Int)) / 2 = ((A.length + w : Nat) : Int) := by omega
        have hwb : u ≤ w ∧ w < v := by omega
        have hwy : X.getD w 0 ∈ X := by rw [List.getD_eq_getElem?_getD, List.getElem?_eq_getElem (by omega)]; exact List.getElem_mem _
        have hgx := hGd (X.getD w 0) (List.mem_append_left _ hwy)
        have g1 : zs.getD (((A.length + w : Nat) : Int).toNat * 1) 0 = X.getD w 0 := by
          rw [← hz, show ((A.length + w : Nat) : Int).toNat * 1 = A.length + w by omega, List.getD_eq_getElem?_getD, List.getElem?_append_left (by rw [List.length_append]; omega), List.getElem?_append_right (by omega), Nat.add_sub_cancel_left, List.getD_eq_getElem?_getD]
        have g2 : zs.getD (((A.length + X.length : Nat) : Int).toNat * 1) 0 = y := by rw [← hz]; exact getD_mid (by rw [List.length_append]; omega)
        refine awp_skip ?_
        refine tn ?_
        refine bk ?_
        refine sg ?_
        refine mv ?_
        refine mv ?_
        refine bo (hz := by first | exact bop_add (by omega) (by omega) | exact rfl) ?_
        refine cv ?_
        refine sh (hz := shr1 (by omega)) ?_
        refine cv (n := ((A.length + w : Nat) : Int)) (hz := by rw [hw2]; exact wrap64_in (by omega) (by omega)) ?_
        refine as_ ?_
        refine rNil ?_
        refine sd mixO ?_
        refine mv ?_
        refine mv ?_
        refine mv ?_
        first | refine xs_ ?_ | refine xo ?_ | refine xw ?_ | refine xsl ?_
        first | refine l1f ?_ | refine l1b ?_ | refine l1o ?_ | refine ldI ?_
        refine mv ?_
        refine mv ?_
        first | refine xs_ ?_ | refine xo ?_ | refine xw ?_ | refine xsl ?_
        first | refine l1f ?_ | refine l1b ?_ | refine l1o ?_ | refine ldI ?_
        rw [g1, g2]
        refine ccR [1] (ss := [.r (I y), .r (I (X.getD w 0))]) (fss := [[.sl (ls.map Enc.c)]]) (c35 ls _ _ hgy hgx) ?_
        refine bo (hz := by exact rfl) ?_
        refine nt ?_
        refine rNil ⟨rfl, ?_⟩
        refine cn (fun h7 => ?_) (fun h7 => ?_)
        ·
          refine rg ?_
          refine mv ?_
          refine bo (hz := by first | exact bop_add (by omega) (by omega) | exact rfl) ?_
          refine as_ ?_
          refine rNil ?_
          refine bn_ ?_
          refine tn ?_
          have h7' : ¬ (kx ls y - kx ls (X.getD w 0) < 0) := by simpa only [Bool.not_eq_true', decide_eq_false_iff_not] using h7
          exact ⟨v - (w + 1), by omega, wz ⟨w + 1, v, rfl, by omega, hv, .inr (by rw [Nat.add_sub_cancel]; omega), hv1, rfl⟩ rfl⟩ -- LEAF 5: round of loop 3
        ·
          refine rg ?_
          refine mv ?_
          refine as_ ?_
          refine rNil ?_
          refine bn_ ?_
          refine tn ?_
          have h7' : kx ls y - kx ls (X.getD w 0) < 0 := by simpa only [Bool.not_eq_false', decide_eq_true_eq] using h7
          exact ⟨w - u, by omega, wz ⟨u, w, rfl, by omega, by omega, hu1, .inr (by omega), rfl⟩ rfl⟩ -- LEAF 6: round of loop 3
      ·
        have huv' : u = v := by simp at h6; omega
        subst huv'
        subst hz
        have hXs : X.take u ++ X.drop u = X := List.take_append_drop u X
        have hfin : A ++ (X.take u ++ y :: X.drop u) ++ B = A ++ lexs ls (X ++ [y]) ++ B := by
          rw [one_right (X1 := X.take u) (X2 := X.drop u) (by rw [hXs]; exact hX) (by rw [hXs]; exact hltx), hXs]
          · rcases hu1 with h | h
            · left; rw [h]; rfl
            · by_cases h0 : u = 0
              · left; rw [h0]; rfl
              · right
                have e := take_snoc (l := X) (k := u - 1) (x := X.getD (u - 1) 0) (by rw [List.getD_eq_getElem?_getD, List.getElem?_eq_getElem (by omega)]; rfl)
                rw [show u - 1 + 1 = u by omega] at e
                exact ⟨_, _, e, h⟩
          · rcases hv1 with h | h
            · left; rw [h, List.drop_length]
            · by_cases h0 : u = X.length
              · left; rw [h0, List.drop_length]
              · right
                exact ⟨_, _, drop_at (x := X.getD u 0) (by rw [List.getD_eq_getElem?_getD, List.getElem?_eq_getElem (by omega)]; rfl), h⟩
        refine awp_exit ?_
        refine te ?_
        refine te ?_
        refine xbk ?_
        refine tn ?_
        refine sq ?_
        refine sg ?_
        refine mv ?_
        refine as_ ?_
        refine rNil ?_
        refine bk ?_
        have hul : (X.take u).length = u := by rw [List.length_take]; omega
        have hdl : (X.drop u).length = X.length - u := List.length_drop
        refine lp (fun m S => ∃ (s : Nat) (zs : List Int), m = s ∧ s ≤ X.length - u ∧ zs = (A ++ X.take u ++ (X.drop u).take s) ++ y :: ((X.drop u).drop s ++ B) ∧ S = ⟨[(17, .r (I ((A.length + u + s : Nat) : Int))), (14, .r (I ((A.length + u : Nat) : Int))), (0, .own 3 N0)], oT p ls out zs (T ++ [.sav K])⟩) (X.length - u) ?_ ?_
        · exact wz ⟨X.length - u, _, rfl, Nat.le_refl _, rfl, by rw [show ((A.length + u + (X.length - u) : Nat) : Int) = ((A.length + X.length : Nat) : Int) by omega]⟩ (oTd (by rw [List.take_of_length_le (show (X.drop u).length ≤ X.length - u by omega), List.drop_eq_nil_of_le (show (X.drop u).length ≤ X.length - u by omega), List.append_assoc A (X.take u), hXs]; rfl))
        rintro m2 S ⟨s, zs, hm2, hs, hz, rfl⟩
        have hzl : zs.length = N0 := by rw [hz]; simp at hN ⊢; omega
        refine sq ?_
        refine sg ?_
        refine mv ?_
        refine mv ?_
        refine bo (hz := by exact rfl) ?_
        refine rNil ?_
        refine cn (fun h8 => ?_) (fun h8 => ?_)
        ·
          have hs' : 0 < s := by simp at h8; omega
          obtain ⟨x, hx⟩ : ∃ x, (X.drop u)[s - 1]? = some x := ⟨(X.drop u)[s - 1]'(by omega), List.getElem?_eq_getElem _⟩
          have hts := take_snoc hx
          rw [show s - 1 + 1 = s by omega] at hts
          have hdr2 := drop_at hx
          rw [show s - 1 + 1 = s by omega] at hdr2
          have hz2 : zs = (A ++ X.take u ++ (X.drop u).take (s - 1)) ++ x :: ([] ++ y :: ((X.drop u).drop s ++ B)) := by rw [hz, hts]; simp
          have hl1 : ((X.drop u).take (s - 1)).length = s - 1 := by rw [List.length_take]; omega
          refine awp_skip ?_
          refine tn ?_
          refine sq ?_
          refine bk ?_
          refine rd mixO ?_
          refine mv ?_
          refine mv ?_
          refine mv ?_
          refine mv ?_
          refine bo (hz := by first | exact bop_sub (by omega) (by omega) | exact rfl) ?_
          refine mv ?_
          refine mv ?_
          refine bo (hz := by first | exact bop_sub (by omega) (by omega) | exact rfl) ?_
          first | refine xs_ ?_ | refine xo ?_ | refine xw ?_ | refine xsl ?_
          first | refine l1f ?_ | refine l1b ?_ | refine l1o ?_ | refine ldI ?_
          refine mv ?_
          refine mv ?_
          first | refine xs_ ?_ | refine xo ?_ | refine xw ?_ | refine xsl ?_
          first | refine l1f ?_ | refine l1b ?_ | refine l1o ?_ | refine ldI ?_
          first | refine xs_ ?_ | refine xo ?_ | refine xw ?_ | refine xsl ?_
          first | refine s1 ?_ | refine s1w ?_ | refine soI ?_
          first | refine xs_ ?_ | refine xo ?_ | refine xw ?_ | refine xsl ?_
          first | refine s1 ?_ | refine s1w ?_ | refine soI ?_
          refine rNil ⟨rfl, ?_⟩
          refine bn_ ?_
          refine tn ?_
          refine rg ?_
          refine mv ?_
          refine bo (hz := by first | exact bop_sub (by omega) (by omega) | exact rfl) ?_
          refine as_ ?_
          refine rNil ?_
          refine tn ?_
          exact ⟨s - 1, by omega, wz ⟨s - 1, (A ++ X.take u ++ (X.drop u).take (s - 1)) ++ y :: ((X.drop u).drop (s - 1) ++ B), rfl, by omega, rfl, rfl⟩ (oTd ((swap_eq' hz2 (by simp only [List.length_append]; omega) (by simp only [List.length_append, List.length_nil]; omega)).trans (by rw [hdr2]; simp)))⟩ -- LEAF 7: round of loop 4
        ·
          have hs' : s = 0 := by simp at h8; omega
          refine awp_exit ?_
          refine te ?_
          refine te ?_
          refine xbk ?_
          refine tn ?_
          refine awp_ret ?_
          refine tr ?_
          exact xz0 (.inr rfl) (oTd (by rw [hz, hs', List.take_zero, List.drop_zero, ← hfin]; simp)) -- LEAF 8: ret
    ·
      have hX2 : 2 ≤ X.length := by simp at h1; omega
      have hY2 : 2 ≤ Y.length := by simp at h5; omega
      obtain ⟨mid, hmid⟩ : ∃ mid : Nat, mid = (A.length + (A.length + X.length + Y.length)) / 2 := ⟨_, rfl⟩
      have hmid2 : ((A.length : Int) + ((A.length + X.length + Y.length : Nat) : Int)) / 2 = (mid : Int) := by omega
      generalize hz : A ++ X ++ Y ++ B = zs
      have hzl : zs.length = N0 := by rw [← hz]; simp at hN ⊢; omega
      refine awp_skip ?_
      refine tn ?_
      refine sg ?_
      refine mv ?_
      refine mv ?_
      refine bo (hz := by first | exact bop_add (by omega) (by omega) | exact rfl) ?_
      refine cv ?_
      refine sh (hz := shr1 (by omega)) ?_
      refine cv (n := (mid : Int)) (hz := by rw [hmid2]; exact wrap64_in (by omega) (by omega)) ?_
      refine as_ ?_
      refine rNil ?_
      refine sg ?_
      refine mv ?_
      refine mv ?_
      refine bo (hz := by first | exact bop_add (by omega) (by omega) | exact rfl) ?_
      refine as_ ?_
      refine rNil ?_
      refine sg ?_
      refine as_ ?_
      refine as_ ?_
      refine rNil ?_
      refine jn (fun S => ∃ (s0 r0 : Nat), A.length ≤ s0 ∧ s0 ≤ r0 ∧ r0 ≤ A.length + X.length ∧ r0 ≤ mid ∧ mid ≤ s0 + Y.length ∧ (s0 = A.length ∨ mid = s0 + Y.length) ∧ (r0 = A.length + X.length ∨ r0 = mid) ∧ S = ⟨[(21, .r (I r0)), (20, .r (I s0)), (19, .r (I ((mid : Int) + ((A.length + X.length : Nat) : Int)))), (18, .r (I mid)), (0, .own 3 N0), (1, .r (I A.length)), (2, .r (I ((A.length + X.length : Nat) : Int))), (3, .r (I ((A.length + X.length + Y.length : Nat) : Int))), (4, .clo 35 [1])], oT p ls out zs (T ++ [.sav K])⟩) ?_ ?_
      ·
        refine sg ?_
        refine mv ?_
        refine mv ?_
        refine bo (hz := by exact rfl) ?_
        refine rNil ?_
        refine cn (fun h9 => ?_) (fun h9 => ?_)
        ·
          have hgt : mid < A.length + X.length := by simp at h9; omega
          refine sg ?_
          refine mv ?_
          refine mv ?_
          refine bo (hz := by first | exact bop_sub (by omega) (by omega) | exact rfl) ?_
          refine as_ ?_
          refine rNil ?_
          refine rg ?_
          refine mv ?_
          refine as_ ?_
          refine rNil ?_
          refine tn ?_
          exact wz ⟨mid - Y.length, mid, by omega, by omega, by omega, Nat.le_refl _, by omega, by omega, .inr rfl, by rw [show ((mid - Y.length : Nat) : Int) = (mid : Int) + ((A.length + X.length : Nat) : Int) - ((A.length + X.length + Y.length : Nat) : Int) by omega]; rfl⟩ rfl -- LEAF 9: join
        ·
          have hgt : A.length + X.length ≤ mid := by simp at h9; omega
          refine sg ?_
          refine mv ?_
          refine as_ ?_
          refine rNil ?_
          refine rg ?_
          refine mv ?_
          refine as_ ?_
          refine rNil ?_
          refine tn ?_
          exact wz ⟨A.length, A.length + X.length, Nat.le_refl _, by omega, Nat.le_refl _, by omega, by omega, .inl rfl, .inl rfl, rfl⟩ rfl -- LEAF 10: join
      ·
        rintro S ⟨s0, r0, hs0, hsr, hr0, hr1, hsY, hsc, hrc, rfl⟩
        have hzm : ∀ c : Nat, A.length ≤ c → c < A.length + X.length + Y.length → zs.getD c 0 ∈ X ++ Y := fun c h1 h2 => by
          rw [← hz, List.append_assoc A, List.getD_eq_getElem?_getD, List.getElem?_append_left (by simp; omega), List.getElem?_append_right (by omega), List.getElem?_eq_getElem (by simp; omega)]
          exact List.getElem_mem _
        refine sg ?_
        refine mv ?_
        refine bo (hz := by first | exact bop_sub (by omega) (by omega) | exact rfl) ?_
        refine as_ ?_
        refine rNil ?_
        refine sq ?_
        refine bk ?_
        refine lp (fun m S => ∃ (s r : Nat), m = r - s ∧ s0 ≤ s ∧ s ≤ r ∧ r ≤ r0 ∧ (s = s0 ∨ kx ls (zs.getD (s - 1) 0) ≤ kx ls (zs.getD (mid + (A.length + X.length) - s) 0)) ∧ (r = r0 ∨ kx ls (zs.getD (mid + (A.length + X.length) - 1 - r) 0) < kx ls (zs.getD r 0)) ∧ S = ⟨[(22, .r (I ((mid : Int) + ((A.length + X.length : Nat) : Int) - 1))), (21, .r (I r)), (20, .r (I s)), (19, .r (I ((mid : Int) + ((A.length + X.length : Nat) : Int)))), (18, .r (I mid)), (0, .own 3 N0), (1, .r (I A.length)), (2, .r (I ((A.length + X.length : Nat) : Int))), (3, .r (I ((A.length + X.length + Y.length : Nat) : Int))), (4, .clo 35 [1])], oT p ls out zs (T ++ [.sav K])⟩) (r0 - s0) ?_ ?_
        · exact wz ⟨s0, r0, rfl, Nat.le_refl _, hsr, Nat.le_refl _, .inl rfl, .inl rfl, rfl⟩ rfl
        rintro m5 S ⟨s, r, hm5, hss, hsr2, hrr, hs1, hr2, rfl⟩
        refine sq ?_
        refine sg ?_
        refine mv ?_
        refine mv ?_
        refine bo (hz := by exact rfl) ?_
        refine rNil ?_
        refine cn (fun h10 => ?_) (fun h10 => ?_)
        ·
          have hlt' : s < r := by simpa using h10
          obtain ⟨c, hc⟩ : ∃ c : Nat, c = (s + r) / 2 := ⟨_, rfl⟩
          have hc2 : ((s : Int) + (r : Int)) / 2 = (c : Int) := by omega
          have g1 : zs.getD (((mid : Int) + ((A.length + X.length : Nat) : Int) - 1 - (c : Int)).toNat * 1) 0 = zs.getD (mid + (A.length + X.length) - 1 - c) 0 := by congr 1; omega
          have g2 : zs.getD ((c : Int).toNat * 1) 0 = zs.getD c 0 := by congr 1; omega
          have hg1 := hGd _ (hzm (mid + (A.length + X.length) - 1 - c) (by omega) (by omega))
          have hg2 := hGd _ (hzm c (by omega) (by omega))
          refine awp_skip ?_
          refine tn ?_
          refine bk ?_
          refine sg ?_
          refine mv ?_
          refine mv ?_
          refine bo (hz := by first | exact bop_add (by omega) (by omega) | exact rfl) ?_
          refine cv ?_
          refine sh (hz := shr1 (by omega)) ?_
          refine cv (n := (c : Int)) (hz := by rw [hc2]; exact wrap64_in (by omega) (by omega)) ?_
          refine as_ ?_
          refine rNil ?_
          refine sd mixO ?_
          refine mv ?_
          refine mv ?_
          refine mv ?_
          refine mv ?_
          refine bo (hz := by first | exact bop_sub (by omega) (by omega) | exact rfl) ?_
          first | refine xs_ ?_ | refine xo ?_ | refine xw ?_ | refine xsl ?_
          first | refine l1f ?_ | refine l1b ?_ | refine l1o ?_ | refine ldI ?_
          refine mv ?_
          refine mv ?_
          first | refine xs_ ?_ | refine xo ?_ | refine xw ?_ | refine xsl ?_
          first | refine l1f ?_ | refine l1b ?_ | refine l1o ?_ | refine ldI ?_
          rw [g1, g2]
          refine ccR [1] (ss := [.r (I _), .r (I _)]) (fss := [[.sl (ls.map Enc.c)]]) (c35 ls _ _ hg1 hg2) ?_
          refine bo (hz := by exact rfl) ?_
          refine nt ?_
          refine rNil ⟨rfl, ?_⟩
          refine cn (fun h11 => ?_) (fun h11 => ?_)
          ·
            refine rg ?_
            refine mv ?_
            refine bo (hz := by first | exact bop_add (by omega) (by omega) | exact rfl) ?_
            refine as_ ?_
            refine rNil ?_
            refine bn_ ?_
            refine tn ?_
            have h11' : ¬ (kx ls (zs.getD (mid + (A.length + X.length) - 1 - c) 0) - kx ls (zs.getD c 0) < 0) := by simpa only [Bool.not_eq_true', decide_eq_false_iff_not] using h11
            exact ⟨r - (c + 1), by omega, wz ⟨c + 1, r, rfl, by omega, by omega, hrr, .inr (by rw [Nat.add_sub_cancel, show mid + (A.length + X.length) - (c + 1) = mid + (A.length + X.length) - 1 - c by omega]; omega), hr2, rfl⟩ rfl⟩ -- LEAF 11: round of loop 5
          ·
            refine rg ?_
            refine mv ?_
            refine as_ ?_
            refine rNil ?_
            refine bn_ ?_
            refine tn ?_
            have h11' : kx ls (zs.getD (mid + (A.length + X.length) - 1 - c) 0) - kx ls (zs.getD c 0) < 0 := by simpa only [Bool.not_eq_false', decide_eq_true_eq] using h11
            exact ⟨c - s, by omega, wz ⟨s, c, rfl, by omega, by omega, by omega, hs1, .inr (by omega), rfl⟩ rfl⟩ -- LEAF 12: round of loop 5
        ·
          have hsr3 : s = r := by simp at h10; omega
          subst hsr3
          obtain ⟨X1, X2, hXe, hX1l⟩ : ∃ X1 X2, X = X1 ++ X2 ∧ X1.length = s - A.length := ⟨X.take (s - A.length), X.drop (s - A.length), (List.take_append_drop _ _).symm, by rw [List.length_take]; omega⟩
          obtain ⟨Y1, Y2, hYe, hY1l⟩ : ∃ Y1 Y2, Y = Y1 ++ Y2 ∧ Y1.length = mid - s := ⟨Y.take (mid - s), Y.drop (mid - s), (List.take_append_drop _ _).symm, by rw [List.length_take]; omega⟩
          have hXl : X1.length + X2.length = X.length := by rw [hXe, List.length_append]
          have hYl : Y1.length + Y2.length = Y.length := by rw [hYe, List.length_append]
          have hz3 : zs = A ++ X1 ++ X2 ++ Y1 ++ (Y2 ++ B) := by rw [← hz, hXe, hYe]; simp
          have hA : X1 = [] ∨ Y2 = [] ∨ ∃ X x Y y, X1 = X ++ [x] ∧ Y2 = y :: Y ∧ kx ls x ≤ kx ls y := by
            rcases Nat.eq_zero_or_pos X1.length with h | h
            · exact .inl (List.length_eq_zero_iff.1 h)
            rcases Nat.eq_zero_or_pos Y2.length with h2 | h2
            · exact .inr (.inl (List.length_eq_zero_iff.1 h2))
            obtain ⟨P, x, hP⟩ := ex_snoc h
            obtain ⟨y, Q, hQ⟩ := ex_cons h2
            refine .inr (.inr ⟨P, x, Q, y, hP, hQ, ?_⟩)
            rcases hs1 with h3 | h3
            · rw [h3] at hX1l hY1l; omega
            · have hPl : P.length + 1 = X1.length := by rw [hP]; simp
              have e1 : zs.getD (s - 1) 0 = x := by
                have : zs = (A ++ P) ++ x :: (X2 ++ Y1 ++ (Y2 ++ B)) := by rw [hz3, hP]; simp
                rw [this]; exact getD_mid (by rw [List.length_append]; omega)
              have e2 : zs.getD (mid + (A.length + X.length) - s) 0 = y := by
                have : zs = (A ++ X1 ++ X2 ++ Y1) ++ y :: (Q ++ B) := by rw [hz3, hQ]; simp
                rw [this]; exact getD_mid (by simp only [List.length_append]; omega)
              rw [e1, e2] at h3
              exact h3
          have hB : X2 = [] ∨ Y1 = [] ∨ ∃ X x Y y, X2 = x :: X ∧ Y1 = Y ++ [y] ∧ kx ls y < kx ls x := by
            rcases Nat.eq_zero_or_pos X2.length with h | h
            · exact .inl (List.length_eq_zero_iff.1 h)
            rcases Nat.eq_zero_or_pos Y1.length with h2 | h2
            · exact .inr (.inl (List.length_eq_zero_iff.1 h2))
            obtain ⟨P, y, hP⟩ := ex_snoc h2
            obtain ⟨x, Q, hQ⟩ := ex_cons h
            refine .inr (.inr ⟨Q, x, P, y, hQ, hP, ?_⟩)
            rcases hr2 with h3 | h3
            · rw [h3] at hX1l hY1l; omega
            · have hPl : P.length + 1 = Y1.length := by rw [hP]; simp
              have e1 : zs.getD s 0 = x := by
                have : zs = (A ++ X1) ++ x :: (Q ++ Y1 ++ (Y2 ++ B)) := by rw [hz3, hQ]; simp
                rw [this]; exact getD_mid (by rw [List.length_append]; omega)
              have e2 : zs.getD (mid + (A.length + X.length) - 1 - s) 0 = y := by
                have : zs = (A ++ X1 ++ X2 ++ P) ++ y :: (Y2 ++ B) := by rw [hz3, hP]; simp
                rw [this]; exact getD_mid (by simp only [List.length_append]; omega)
              rw [e1, e2] at h3
              exact h3
          have hmo := merge_ok (by rw [← hXe]; exact hX) (by rw [← hYe]; exact hY) (by rw [← hXe, ← hYe]; exact hlt) hA hB
          rw [← hXe, ← hYe] at hmo
          have hXs := LX.app.1 (by rw [← hXe]; exact hX)
          have hYs := LX.app.1 (by rw [← hYe]; exact hY)
          have hm1 : ∀ x ∈ X1, x ∈ X := fun x hx => by rw [hXe]; exact List.mem_append_left _ hx
          have hm2 : ∀ x ∈ X2, x ∈ X := fun x hx => by rw [hXe]; exact List.mem_append_right _ hx
          have hm3 : ∀ x ∈ Y1, x ∈ Y := fun x hx => by rw [hYe]; exact List.mem_append_left _ hx
          have hm4 : ∀ x ∈ Y2, x ∈ Y := fun x hx => by rw [hYe]; exact List.mem_append_right _ hx
          obtain ⟨en, hen⟩ : ∃ en : Nat, en = mid + (A.length + X.length) - s := ⟨_, rfl⟩
          refine awp_exit ?_
          refine te ?_
          refine te ?_
          refine xbk ?_
          refine tn ?_
          refine sg ?_
          refine mv ?_
          refine mv ?_
          refine bo (z := .i .i64 (en : Int)) (hz := by rw [show (en : Int) = (mid : Int) + ((A.length + X.length : Nat) : Int) - s by omega]; exact bop_sub (by omega) (by omega)) ?_
          refine as_ ?_
          refine rNil ?_
          refine jn (fun S => S = ⟨[(24, .r (I en)), (20, .r (I s)), (18, .r (I mid)), (0, .own 3 N0), (1, .r (I A.length)), (3, .r (I ((A.length + X.length + Y.length : Nat) : Int))), (4, .clo 35 [1])], oT p ls out (A ++ X1 ++ Y1 ++ X2 ++ (Y2 ++ B)) (T ++ [.sav K])⟩) ?_ ?_
          ·
            refine sg ?_
            refine mv ?_
            refine mv ?_
            refine bo (hz := by exact rfl) ?_
            refine mv ?_
            refine gd (fun h12 => ?_) (fun h12 => ?_)
            ·
              refine mv ?_
              refine mv ?_
              refine bo (hz := by exact rfl) ?_
              refine pkT ?_
              refine rNil ?_
              refine cn (fun h13 => ?_) (fun h13 => ?_)
              ·
                refine rgX 5 ?_
                refine mv ?_
                refine mv ?_
                refine mv ?_
                refine mv ?_
                refine mv ?_
                refine rNil ?_
                refine cxT (c61' (N0 := N0) (a := s) (m := ((A.length + X.length : Nat) : Int)) (b := en) (ts := A ++ X1 ++ Y1 ++ X2 ++ (Y2 ++ B)) (A ++ X1) X2 Y1 (Y2 ++ B) hUK (by rw [hz3]) rfl (by omega) (by rw [List.length_append]; omega) (by rw [List.length_append]; omega) (by rw [List.length_append]; omega) (by simp at h12; omega) (by simp at h13; omega) (by omega)) hUK ?_
                refine rNil ?_
                refine tn ?_
                exact wz rfl rfl -- LEAF 13: join
              ·
                refine awp_skip ?_
                refine tn ?_
                have h0 : Y1 = [] := List.length_eq_zero_iff.1 (by simp at h12 h13; omega)
                exact wz rfl (oTd (by rw [hz3, h0]; simp)) -- LEAF 14: join
            ·
              refine no ?_
              refine no ?_
              refine no ?_
              refine pkF ?_
              refine rNil ?_
              refine cn (fun h14 => ?_) (fun h14 => ?_)
              ·
                first | exact absurd h14 (by decide) | (exfalso; simp_all; done)
              ·
                refine awp_skip ?_
                refine tn ?_
                have h0 : X2 = [] := List.length_eq_zero_iff.1 (by simp at h12; omega)
                exact wz rfl (oTd (by rw [hz3, h0]; simp)) -- LEAF 15: join
          ·
            rintro S rfl
            have hzl2 : (A ++ X1 ++ Y1 ++ X2 ++ (Y2 ++ B)).length = N0 := by simp only [List.length_append]; omega
            refine jn (fun S => S = ⟨[(24, .r (I en)), (18, .r (I mid)), (0, .own 3 N0), (3, .r (I ((A.length + X.length + Y.length : Nat) : Int))), (4, .clo 35 [1])], oT p ls out (A ++ lexs ls (X1 ++ Y1) ++ (X2 ++ (Y2 ++ B))) (T ++ [.sav K])⟩) ?_ ?_
            ·
              refine sg ?_
              refine mv ?_
              refine mv ?_
              refine bo (hz := by exact rfl) ?_
              refine mv ?_
              refine gd (fun h15 => ?_) (fun h15 => ?_)
              ·
                refine mv ?_
                refine mv ?_
                refine bo (hz := by exact rfl) ?_
                refine pkT ?_
                refine rNil ?_
                refine cn (fun h16 => ?_) (fun h16 => ?_)
                ·
                  refine rgX 5 ?_
                  refine mv ?_
                  refine mv ?_
                  refine mv ?_
                  refine mv ?_
                  refine mv ?_
                  refine rNil ?_
                  refine cxT (mOK' (N0 := N0) (a := A.length) (m := s) (b := mid) (ts := A ++ lexs ls (X1 ++ Y1) ++ (X2 ++ (Y2 ++ B))) ih A X1 Y1 (X2 ++ (Y2 ++ B)) hUK (by simp) rfl hzl2.symm rfl (by omega) (by omega) (by simp at h15; omega) (by simp at h16; omega) (by omega) hXs.1 hYs.1 (fun x hx y hy => hlt x (hm1 x hx) y (hm3 y hy)) (fun z hz => hGd z (by rcases List.mem_append.1 hz with h | h; exact List.mem_append_left _ (hm1 z h); exact List.mem_append_right _ (hm3 z h))) (by omega)) hUK ?_
                  refine rNil ?_
                  refine tn ?_
                  exact wz rfl rfl -- LEAF 16: join
                ·
                  refine awp_skip ?_
                  refine tn ?_
                  have h0 : Y1 = [] := List.length_eq_zero_iff.1 (by simp at h15 h16; omega)
                  exact wz rfl (oTd (by rw [h0]; simp only [List.append_nil]; rw [lexs_self hXs.1]; simp)) -- LEAF 17: join
              ·
                refine no ?_
                refine no ?_
                refine no ?_
                refine pkF ?_
                refine rNil ?_
                refine cn (fun h17 => ?_) (fun h17 => ?_)
                ·
                  first | exact absurd h17 (by decide) | (exfalso; simp_all; done)
                ·
                  refine awp_skip ?_
                  refine tn ?_
                  have h0 : X1 = [] := List.length_eq_zero_iff.1 (by simp at h15; omega)
                  exact wz rfl (oTd (by rw [h0]; simp only [List.nil_append]; rw [lexs_self hYs.1]; simp)) -- LEAF 18: join
            ·
              rintro S rfl
              have hll := lexs_len ls (X1 ++ Y1)
              rw [List.length_append] at hll
              have hzl3 : (A ++ lexs ls (X1 ++ Y1) ++ (X2 ++ (Y2 ++ B))).length = N0 := by simp only [List.length_append]; omega
              refine sg ?_
              refine mv ?_
              refine mv ?_
              refine bo (hz := by exact rfl) ?_
              refine mv ?_
              refine gd (fun h18 => ?_) (fun h18 => ?_)
              ·
                refine mv ?_
                refine mv ?_
                refine bo (hz := by exact rfl) ?_
                refine pkT ?_
                refine rNil ?_
                refine cn (fun h19 => ?_) (fun h19 => ?_)
                ·
                  refine rgX 5 ?_
                  refine mv ?_
                  refine mv ?_
                  refine mv ?_
                  refine mv ?_
                  refine mv ?_
                  refine rNil ?_
                  refine cxT (mOK' (N0 := N0) (a := mid) (m := en) (b := ((A.length + X.length + Y.length : Nat) : Int)) (ts := A ++ lexs ls (X1 ++ Y1) ++ lexs ls (X2 ++ Y2) ++ B) ih (A ++ lexs ls (X1 ++ Y1)) X2 Y2 B hUK (by simp) rfl hzl3.symm (by rw [List.length_append]; omega) (by rw [List.length_append]; omega) (by rw [List.length_append]; omega) (by simp at h18; omega) (by simp at h19; omega) (by omega) hXs.2.1 hYs.2.1 (fun x hx y hy => hlt x (hm2 x hx) y (hm4 y hy)) (fun z hz => hGd z (by rcases List.mem_append.1 hz with h | h; exact List.mem_append_left _ (hm2 z h); exact List.mem_append_right _ (hm4 z h))) (by omega)) hUK ?_
                  refine rNil ?_
                  exact xz0 (.inl rfl) (oTd (by rw [← hmo]; simp)) -- LEAF 19: normal
                ·
                  refine awp_skip ?_
                  have h0 : Y2 = [] := List.length_eq_zero_iff.1 (by simp at h18 h19; omega)
                  exact xz0 (.inl rfl) (oTd (by rw [← hmo, h0]; simp only [List.append_nil]; rw [lexs_self hXs.2.1]; simp)) -- LEAF 20: normal
              ·
                refine no ?_
                refine no ?_
                refine no ?_
                refine pkF ?_
                refine rNil ?_
                refine cn (fun h20 => ?_) (fun h20 => ?_)
                ·
                  first | exact absurd h20 (by decide) | (exfalso; simp_all; done)
                ·
                  refine awp_skip ?_
                  have h0 : X2 = [] := List.length_eq_zero_iff.1 (by simp at h18; omega)
                  exact xz0 (.inl rfl) (oTd (by rw [← hmo, h0]; simp only [List.nil_append]; rw [lexs_self hYs.2.1]; simp)) -- LEAF 21: normal

end Go.Proofs.Ytnhljpbpfaablaa.VS
