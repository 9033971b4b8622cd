/- The walks of functions: what each computes, by itself. Conditions: none. -/
import Derived.Test.YtnhljpbpfaablaaF14
set_option linter.unusedVariables false
set_option linter.unusedSimpArgs false
namespace Go.Proofs.Ytnhljpbpfaablaa.VS
open Go
theorem c60 (p : Prg) (ls : List Pr) (out : List Int) : ∀ L : Nat, MergeOK p ls out L
  | 0 => fun A X Y B T _ hL _ _ _ _ _ _ _ => absurd hL (Nat.not_lt_zero _)
  | L + 1 => fun A X Y B T hUT hL hX0 hY0 hX hY hlt hGd hlen => by
    rcases Nat.lt_or_ge (X.length + Y.length) L with h | h
    · exact c60 p ls out L A X Y B T hUT h hX0 hY0 hX hY hlt hGd hlen
    · exact c60s p ls out L (c60 p ls out L) A X Y B T hUT (by omega) hX0 hY0 hX hY hlt hGd hlen
theorem c59' {p : Prg} {ls : List Pr} {out zs ts : List Int} {T : List Ent} {N0 : Nat} {a b : Int} (A S B : List Int) (hInc : Inc S) (hGd : GdL ls S) (hz : zs = A ++ S ++ B) (ht : ts = A ++ lexs ls S ++ B) (hN : N0 = zs.length) (ha : a = A.length) (hb : b = A.length + S.length) (hlen : N0 ≤ 8192) :
    FnX Try.prog 59 [] [.own 3 N0, .r (I a), .r (I b), .clo 35 [1]] .none (oT p ls out zs T) (oT p ls out ts T) := by
  subst hz ht ha hN
  rw [show b = ((A.length + S.length : Nat) : Int) by omega]
  exact c59 p ls out A S B T hInc hGd hlen
/-- Sorted by pieces of this length. -/
def chs (ls : List Pr) (bs : Nat) (S : List Int) : List Int := if h : bs = 0 ∨ S.length ≤ bs then lexs ls S else lexs ls (S.take bs) ++ chs ls bs (S.drop bs)
termination_by S.length
decreasing_by rw [List.length_drop]; omega
theorem chs_small {ls : List Pr} {bs : Nat} {S : List Int} (h : S.length ≤ bs) : chs ls bs S = lexs ls S := by rw [chs, dif_pos (.inr h)]
theorem chs_app {ls : List Pr} {bs : Nat} {U V : List Int} (h0 : 0 < bs) (h : U.length = bs) : chs ls bs (U ++ V) = lexs ls U ++ chs ls bs V := by
  by_cases hV : V = []
  · subst hV
    rw [List.append_nil, chs_small (S := U) (by omega), chs_small (S := []) (Nat.zero_le _), lexs_one (l := []) (by simp), List.append_nil]
  · have : 0 < V.length := List.length_pos_iff.2 hV
    rw [chs, dif_neg (by rw [List.length_append]; omega), ← h, List.take_left, List.drop_left]
theorem chs_len (ls : List Pr) (bs : Nat) : ∀ (n : Nat) (S : List Int), S.length ≤ n → (chs ls bs S).length = S.length
  | 0, S, h => by
    have : S = [] := List.length_eq_zero_iff.1 (by omega)
    subst this
    rw [chs_small (by simp), lexs_len]
  | n + 1, S, h => by
    rw [chs]
    split
    · exact lexs_len _ _
    · rename_i hb
      rw [List.length_append, lexs_len, chs_len ls bs n _ (by rw [List.length_drop]; omega), List.length_take, List.length_drop]
      omega
theorem inc_app {P Q : List Int} (h : Inc (P ++ Q)) : Inc P ∧ Inc Q ∧ ∀ x ∈ P, ∀ y ∈ Q, x < y := List.pairwise_append.1 h
theorem lexs_lexs {ls : List Pr} (U V : List Int) : lexs ls (lexs ls U ++ lexs ls V) = lexs ls (U ++ V) :=
  lexs_uniq (lexs_sorted _ _) ((lexs_perm _ _).trans ((lexs_perm _ _).append (lexs_perm _ _)))
theorem split_at {l : List Int} {k : Nat} (h : k ≤ l.length) : ∃ U V, l = U ++ V ∧ U.length = k := ⟨l.take k, l.drop k, (List.take_append_drop _ _).symm, by rw [List.length_take]; omega⟩
set_option maxHeartbeats 4000000 in
/-- slices.stableCmpFunc[int] -/
theorem c50 (p : Prg) (ls : List Pr) (out S : List Int) (T : List Ent) (hUT : UT T) (hInc : Inc S) (hGd : GdL ls S) (hlen : S.length ≤ 8192) : FnX Try.prog 50 [] [.own 3 S.length, .r (I S.length), .clo 35 [1]] .none (oT p ls out S T) (oT p ls out (lexs ls S) T) := by
  refine fnX_of Try.func50 Try.ntmps50 (fun K hK hKf => ?_)
  have hUK := ut_snoc hUT hK
  generalize hN : S.length = N0 at *
  refine sg ?_
  refine as_ ?_
  refine rNil ?_
  refine sg ?_
  refine mv ?_
  refine as_ ?_
  refine as_ ?_
  refine rNil ?_
  refine sq ?_
  refine bk ?_
  refine lp (fun m S_ => ∃ (P V : List Int), m = V.length ∧ chs ls 20 S = P ++ chs ls 20 V ∧ P.length + V.length = N0 ∧ Inc V ∧ GdL ls V ∧ S_ = ⟨[(8, .r (I ((P.length + 20 : Nat) : Int))), (7, .r (I P.length)), (6, .r (I 20)), (0, .own 3 N0), (1, .r (I N0)), (2, .clo 35 [1])], oT p ls out (P ++ V) (T ++ [.sav K])⟩) N0 ?_ ?_
  · exact wz ⟨[], S, hN.symm, rfl, by simp [hN], hInc, hGd, rfl⟩ rfl
  rintro m S_ ⟨P, V, hm, hch, hPV, hVi, hVg, rfl⟩
  refine sq ?_
  refine sg ?_
  refine mv ?_
  refine mv ?_
  refine bo (hz := by exact rfl) ?_
  refine rNil ?_
  refine cn (fun h1 => ?_) (fun h1 => ?_)
  ·
    have hb1 : P.length + 20 ≤ N0 := by simp at h1; omega
    obtain ⟨U, Z, rfl, hU⟩ := split_at (l := V) (k := 20) (by omega)
    rw [List.length_append] at hPV
    have hUl := lexs_len ls U
    obtain ⟨hUi, hWi, _⟩ := inc_app hVi
    have hUg : GdL ls U := fun z hz => hVg z (List.mem_append_left _ hz)
    have hWg : GdL ls Z := fun z hz => hVg z (List.mem_append_right _ hz)
    refine awp_skip ?_
    refine tn ?_
    refine bk ?_
    refine sgX 4 ?_
    refine mv ?_
    refine mv ?_
    refine mv ?_
    refine mv ?_
    refine rNil ?_
    refine cxT (c59' (N0 := N0) (a := P.length) (b := ((P.length + 20 : Nat) : Int)) (ts := P ++ lexs ls U ++ Z) P U Z hUi hUg (by simp) rfl (by simp; omega) rfl (by omega) hlen) hUK ?_
    refine rNil ?_
    refine sg ?_
    refine mv ?_
    refine as_ ?_
    refine rNil ?_
    refine rg ?_
    refine mv ?_
    refine mv ?_
    refine bo (hz := by first | exact bop_add (by omega) (by omega) | exact rfl) ?_
    refine as_ ?_
    refine rNil ?_
    refine bn_ ?_
    refine tn ?_
    exact ⟨Z.length, by rw [hm, List.length_append]; omega, wz ⟨P ++ lexs ls U, Z, rfl, by rw [hch, chs_app (by decide) hU]; simp, by simp; omega, hWi, hWg, by rw [show (((P ++ lexs ls U).length : Nat) : Int) = ((P.length + 20 : Nat) : Int) by simp; omega, show (((P ++ lexs ls U).length + 20 : Nat) : Int) = ((P.length + 20 : Nat) : Int) + 20 by simp; omega]⟩ rfl⟩ -- LEAF 1: round of loop 1
  ·
    have hb1 : V.length < 20 := by simp at h1; omega
    refine awp_exit ?_
    refine te ?_
    refine te ?_
    refine xbk ?_
    refine tn ?_
    refine sgX 4 ?_
    refine mv ?_
    refine mv ?_
    refine mv ?_
    refine mv ?_
    refine rNil ?_
    refine cxT (c59' (N0 := N0) (a := P.length) (b := (N0 : Int)) (ts := chs ls 20 S) P V [] hVi hVg (by simp) (by rw [hch, chs_small (by omega)]; simp) (by simp; omega) rfl (by omega) hlen) hUK ?_
    refine rNil ?_
    refine bk ?_
    refine lp (fun m S_ => ∃ (bs : Nat), m = N0 - bs ∧ 0 < bs ∧ bs ≤ 16384 ∧ S_ = ⟨[(6, .r (I bs)), (0, .own 3 N0), (1, .r (I N0)), (2, .clo 35 [1])], oT p ls out (chs ls bs S) (T ++ [.sav K])⟩) (N0 - 20) ?_ ?_
    · exact wz ⟨20, rfl, by decide, by decide, rfl⟩ rfl
    rintro m2 S_ ⟨bs, hm2, hb0, hb2, rfl⟩
    refine sq ?_
    refine sg ?_
    refine mv ?_
    refine mv ?_
    refine bo (hz := by exact rfl) ?_
    refine rNil ?_
    refine cn (fun h2 => ?_) (fun h2 => ?_)
    ·
      have hbn : bs < N0 := by simpa using h2
      refine awp_skip ?_
      refine tn ?_
      refine bk ?_
      refine sg ?_
      refine mv ?_
      refine bo (z := .i .i64 ((2 * bs : Nat) : Int)) (hz := by rw [show ((2 * bs : Nat) : Int) = 2 * (bs : Int) by omega]; exact bop_mul (by omega) (by omega)) ?_
      refine as_ ?_
      refine as_ ?_
      refine rNil ?_
      refine sq ?_
      refine bk ?_
      refine lp (fun m S_ => ∃ (P V : List Int), m = V.length ∧ chs ls (2 * bs) S = P ++ chs ls (2 * bs) V ∧ P.length + V.length = N0 ∧ Inc V ∧ GdL ls V ∧ S_ = ⟨[(8, .r (I ((P.length + 2 * bs : Nat) : Int))), (7, .r (I P.length)), (6, .r (I bs)), (0, .own 3 N0), (1, .r (I N0)), (2, .clo 35 [1])], oT p ls out (P ++ chs ls bs V) (T ++ [.sav K])⟩) N0 ?_ ?_
      · exact wz ⟨[], S, hN.symm, rfl, by simp [hN], hInc, hGd, by rw [show (([] : List Int).length + 2 * bs) = 2 * bs by simp]; rfl⟩ rfl
      rintro m3 S_ ⟨P, V, hm3, hch2, hPV2, hVi2, hVg2, rfl⟩
      refine sq ?_
      refine sg ?_
      refine mv ?_
      refine mv ?_
      refine bo (hz := by exact rfl) ?_
      refine rNil ?_
      refine cn (fun h3 => ?_) (fun h3 => ?_)
      ·
        have hb3 : P.length + 2 * bs ≤ N0 := by simp at h3; omega
        obtain ⟨U1, V1, rfl, hU1⟩ := split_at (l := V) (k := bs) (by omega)
        rw [List.length_append] at hPV2
        obtain ⟨U2, Z, rfl, hU2⟩ := split_at (l := V1) (k := bs) (by omega)
        rw [List.length_append] at hPV2
        obtain ⟨hi1, hi23, hl1⟩ := inc_app hVi2
        obtain ⟨hi2, hi3, hl2⟩ := inc_app hi23
        have hl1' := lexs_len ls U1
        have hl2' := lexs_len ls U2
        have hl3' := chs_len ls bs _ Z (Nat.le_refl _)
        have hcb : chs ls bs (U1 ++ (U2 ++ Z)) = lexs ls U1 ++ (lexs ls U2 ++ chs ls bs Z) := by rw [chs_app hb0 hU1, chs_app hb0 hU2]
        have hc2 : chs ls (2 * bs) (U1 ++ (U2 ++ Z)) = lexs ls (U1 ++ U2) ++ chs ls (2 * bs) Z := by rw [← List.append_assoc, chs_app (by omega) (by rw [List.length_append]; omega)]
        rw [hcb]
        have hll := lexs_len ls (U1 ++ U2)
        rw [List.length_append] at hll
        refine awp_skip ?_
        refine tn ?_
        refine bk ?_
        refine sgX 7 ?_
        refine mv ?_
        refine mv ?_
        refine mv ?_
        refine mv ?_
        refine bo (z := .i .i64 ((P.length + bs : Nat) : Int)) (hz := by rw [show ((P.length + bs : Nat) : Int) = (P.length : Int) + bs by omega]; exact bop_add (by omega) (by omega)) ?_
        refine mv ?_
        refine mv ?_
        refine rNil ?_
        refine cxT (mOK' (L := N0 + 1) (N0 := N0) (a := P.length) (m := ((P.length + bs : Nat) : Int)) (b := ((P.length + 2 * bs : Nat) : Int)) (ts := P ++ lexs ls (U1 ++ U2) ++ chs ls bs Z) (c60 p ls out _) P (lexs ls U1) (lexs ls U2) (chs ls bs Z) hUK (by simp) (by rw [lexs_lexs]) (by simp only [List.length_append]; omega) rfl (by omega) (by omega) (by omega) (by omega) (by omega) (lexs_sorted _ _) (lexs_sorted _ _) (fun x hx y hy => hl1 x (lexs_mem.1 hx) y (List.mem_append_left _ (lexs_mem.1 hy))) (fun z hz => hVg2 z (by rcases List.mem_append.1 hz with h | h; exact List.mem_append_left _ (lexs_mem.1 h); exact List.mem_append_right _ (List.mem_append_left _ (lexs_mem.1 h)))) hlen) hUK ?_
        refine rNil ?_
        refine sg ?_
        refine mv ?_
        refine as_ ?_
        refine rNil ?_
        refine rg ?_
        refine mv ?_
        refine mv ?_
        refine bo (hz := by first | exact bop_mul (by omega) (by omega) | exact rfl) ?_
        refine bo (hz := by first | exact bop_add (by omega) (by omega) | exact rfl) ?_
        refine as_ ?_
        refine rNil ?_
        refine bn_ ?_
        refine tn ?_
        exact ⟨Z.length, by rw [hm3]; simp only [List.length_append]; omega, wz ⟨P ++ lexs ls (U1 ++ U2), Z, rfl, by rw [hch2, hc2]; simp, by simp only [List.length_append]; omega, hi3, fun z hz => hVg2 z (List.mem_append_right _ (List.mem_append_right _ hz)), by rw [show (((P ++ lexs ls (U1 ++ U2)).length : Nat) : Int) = ((P.length + 2 * bs : Nat) : Int) by simp only [List.length_append]; omega, show (((P ++ lexs ls (U1 ++ U2)).length + 2 * bs : Nat) : Int) = ((P.length + 2 * bs : Nat) : Int) + 2 * (bs : Int) by simp only [List.length_append]; omega]⟩ rfl⟩ -- LEAF 2: round of loop 3
      ·
        have hb3 : V.length < 2 * bs := by simp at h3; omega
        have hcv : chs ls (2 * bs) V = lexs ls V := chs_small (by omega)
        have hlv := chs_len ls bs _ V (Nat.le_refl _)
        refine awp_exit ?_
        refine te ?_
        refine te ?_
        refine xbk ?_
        refine tn ?_
        refine jn (fun S_ => S_ = ⟨[(6, .r (I bs)), (0, .own 3 N0), (1, .r (I N0)), (2, .clo 35 [1])], oT p ls out (chs ls (2 * bs) S) (T ++ [.sav K])⟩) ?_ ?_
        ·
          refine sg ?_
          refine mv ?_
          refine mv ?_
          refine bo (z := .i .i64 ((P.length + bs : Nat) : Int)) (hz := by rw [show ((P.length + bs : Nat) : Int) = (P.length : Int) + bs by omega]; exact bop_add (by omega) (by omega)) ?_
          refine as_ ?_
          refine rNil ?_
          refine sg ?_
          refine mv ?_
          refine mv ?_
          refine bo (hz := by exact rfl) ?_
          refine rNil ?_
          refine cn (fun h4 => ?_) (fun h4 => ?_)
          ·
            have hb4 : P.length + bs < N0 := by simp at h4; omega
            obtain ⟨U1, U2, rfl, hU1⟩ := split_at (l := V) (k := bs) (by omega)
            rw [List.length_append] at hPV2 hb3
            obtain ⟨hi1, hi2, hl1⟩ := inc_app hVi2
            have hl1' := lexs_len ls U1
            have hl2' := lexs_len ls U2
            have hcb : chs ls bs (U1 ++ U2) = lexs ls U1 ++ lexs ls U2 := by rw [chs_app hb0 hU1, chs_small (S := U2) (by omega)]
            rw [hcb]
            refine rgX 5 ?_
            refine mv ?_
            refine mv ?_
            refine mv ?_
            refine mv ?_
            refine mv ?_
            refine rNil ?_
            refine cxT (mOK' (L := N0 + 1) (N0 := N0) (a := P.length) (m := ((P.length + bs : Nat) : Int)) (b := (N0 : Int)) (ts := chs ls (2 * bs) S) (c60 p ls out _) P (lexs ls U1) (lexs ls U2) [] hUK (by simp) (by rw [lexs_lexs, hch2, hcv]; simp) (by simp only [List.length_append]; omega) rfl (by omega) (by omega) (by omega) (by omega) (by omega) (lexs_sorted _ _) (lexs_sorted _ _) (fun x hx y hy => hl1 x (lexs_mem.1 hx) y (lexs_mem.1 hy)) (fun z hz => hVg2 z (by rcases List.mem_append.1 hz with h | h; exact List.mem_append_left _ (lexs_mem.1 h); exact List.mem_append_right _ (lexs_mem.1 h))) hlen) hUK ?_
            refine rNil ?_
            refine tn ?_
            exact wz rfl rfl -- LEAF 3: join
          ·
            have hb4 : V.length ≤ bs := by simp at h4; omega
            refine awp_skip ?_
            refine tn ?_
            exact wz rfl (oTd (by rw [hch2, hcv, chs_small hb4])) -- LEAF 4: join
        ·
          rintro S_ rfl
          refine rg ?_
          refine mv ?_
          refine bo (hz := by first | exact bop_mul (by omega) (by omega) | exact rfl) ?_
          refine as_ ?_
          refine rNil ?_
          refine bn_ ?_
          refine tn ?_
          exact ⟨N0 - 2 * bs, by omega, wz ⟨2 * bs, rfl, by omega, by omega, by rw [show ((2 * bs : Nat) : Int) = (bs : Int) * 2 by omega]⟩ rfl⟩ -- LEAF 5: round of loop 2
    ·
      have hbn : N0 ≤ bs := by simp at h2; omega
      refine awp_exit ?_
      refine te ?_
      refine te ?_
      refine xbk ?_
      exact xz0 (.inl rfl) (oTd (chs_small (by omega))) -- LEAF 6: normal

/-- slices.SortStableFunc[[]int,int] -/
theorem c34 (p : Prg) (ls : List Pr) (out S : List Int) (T : List Ent) (hUT : UT T) (hInc : Inc S) (hGd : GdL ls S) (hlen : S.length ≤ 8192) : FnX Try.prog 34 [] [.own 3 S.length, .clo 35 [1]] .none (oT p ls out S T) (oT p ls out (lexs ls S) T) := by
  refine fnX_of Try.func34 Try.ntmps34 (fun K hK hKf => ?_)
  have hUK := ut_snoc hUT hK
  refine rgX 4 ?_
  refine mv ?_
  refine mv ?_
  first | refine lnM ?_ | refine ln ?_ | refine lnO ?_ | refine lnN ?_ | refine lnW ?_ | refine lnS ?_
  refine mv ?_
  refine rNil ?_
  refine cxT (c50 p ls out S (T ++ [.sav K]) hUK hInc hGd hlen) hUK ?_
  refine rNil ?_
  exact xz0 (.inl rfl) rfl -- LEAF 1: normal

end Go.Proofs.Ytnhljpbpfaablaa.VS
