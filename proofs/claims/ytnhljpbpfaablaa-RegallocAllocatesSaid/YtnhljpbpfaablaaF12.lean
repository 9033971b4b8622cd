/- The walks of functions: what each computes, by itself. Conditions: none. -/
import Derived.Test.YtnhljpbpfaablaaF11
import Derived.Test.YtnhljpbpfaablaaV30
set_option linter.unusedVariables false
set_option linter.unusedSimpArgs false
namespace Go.Proofs.Ytnhljpbpfaablaa.VS
open Go
def kx (ls : List Pr) (r : Int) : Int := (ls.getD r.toNat ⟨0, 0⟩).x
def Gd (ls : List Pr) (r : Int) : Prop := 0 ≤ r ∧ r < ls.length ∧ -1 ≤ kx ls r ∧ kx ls r ≤ 16384
theorem gd_at {ls : List Pr} {r : Int} (h : Gd ls r) : ∃ q, ls[r.toNat]? = some q ∧ q.x = kx ls r := by
  obtain ⟨h1, h2, _⟩ := h
  have h3 : ls[r.toNat]? = some (ls[r.toNat]'(by omega)) := List.getElem?_eq_getElem (by omega)
  refine ⟨ls[r.toNat]'(by omega), h3, ?_⟩
  unfold kx
  rw [List.getD_eq_getElem?_getD, h3]
  rfl
abbrev oT (p : Prg) (ls : List Pr) (out zs : List Int) (T : List Ent) : List Ent := bxP p :: .box 28 [.r (L ls)] :: .row 3 1 (out.map Enc.c) :: .row 3 1 (zs.map Enc.c) :: T
def UT (T : List Ent) : Prop := T.all (Ent.under (T.length + 4)) = true
theorem Ent.under_mono {e : Ent} {n m : Nat} (h : e.under n = true) (hm : n ≤ m) : e.under m = true := by
  cases e with
  | box ty cs => exact List.all_eq_true.2 fun s hs => Slot.under_mono (List.all_eq_true.1 h s hs) hm
  | sav K => exact savU h hm
  | _ => rfl
theorem ut_snoc {p : Prg} {ls : List Pr} {out zs : List Int} {T : List Ent} {K : List (Slot × Value)} (hT : UT T) (hK : (K.all fun x => x.1.under (oT p ls out zs T).length) = true) : UT (T ++ [.sav K]) := by
  unfold UT
  rw [List.all_append, Bool.and_eq_true, List.length_append]
  refine ⟨List.all_eq_true.2 fun e he => Ent.under_mono (List.all_eq_true.1 hT e he) (by omega), ?_⟩
  rw [List.all_cons, List.all_nil, Bool.and_true]
  exact savU hK (by simp)
theorem oTd {p : Prg} {ls : List Pr} {out zs ts : List Int} {T : List Ent} (h : zs = ts) : oT p ls out zs T = oT p ls out ts T := by rw [h]
theorem wz {N : Nat} {E E' : List (Nat × Slot)} {O O' : List Ent} {M : St → Prop} (h : M ⟨E', O'⟩) (hO : O = O') (hk : Kept E E' := by ((repeat refine Kept.cons (by first | ((repeat apply Look.there rfl); exact Look.here) | (apply look_cast; ((repeat apply Look.there rfl); exact Look.here); first | exact own_cast (by first | (simp; done) | omega | (simp; omega)) | exact i_cast (by first | omega | (simp; done) | (simp; omega)))) ?_); exact Kept.nil)) : Wk N ⟨E, O⟩ M := by
  subst hO; exact ⟨_, weak_keep (S := ⟨E, O⟩) hk, h⟩
theorem xz0 {N : Nat} {E : List (Nat × Slot)} {O O' : List Ent} {K : List (Slot × Value)} {rs : Array ResultVar} {e : Exit} (he : e = .normal ∨ e = .ret) (hO : O = O' ++ [.sav K]) (hr : rs = #[] := by exact rfl) : (e = .normal ∨ e = .ret) ∧ Wk N ⟨E, O⟩ (fun S0 => S0.ents = O' ++ [.sav K] ∧ OutX rs S0.env .none) :=
  ⟨he, ⟨⟨[], O⟩, weak_keep (S := ⟨E, O⟩) .nil, hO, .none hr⟩⟩
theorem cxT {ops : Array Oper} {N : Nat} {M : St → Prop} {E : List (Nat × Slot)} {p : Prg} {ls : List Pr} {out zs ts : List Int} {T : List Ent} {d : Nat} {c : Operand} {args : Array Operand} {at_ : Array TypeId} {ty : TypeId} {pos : String} {after : Array Edge} {f : FuncId} [IsFn Try.prog f] {ss : List Slot} (hF : FnX Try.prog f [] ss .none (oT p ls out zs T) (oT p ls out ts T)) (hT : UT T) (hm : M ⟨(d, Out.none.slot) :: E, oT p ls out ts T⟩)
    (hc : Opd E c (.r (.v (.fn f))) := by first | exact Opd.fn _ | (apply Opd.tmp; ((repeat apply Look.there rfl); exact Look.here))) (ha : ArgX E args.toList ss := by ((repeat (apply ArgX.s (by first | exact Opd.int _ _ | (apply Opd.tmp; ((repeat apply Look.there rfl); exact Look.here))))); exact ArgX.nil)) (hE : (E.all fun x => x.2.under 4) = true := by exact rfl) (hEf : (E.all fun x => x.2.free []) = true := by exact rfl) (hd : d < N := by decide) :
    CloCall Try.prog ops N ⟨some d, .call { callee := .value c, args := args, argTypes := at_ }, ty, pos, after, none⟩ ⟨E, oT p ls out zs T⟩ M :=
  callX hF hm hc ha rfl (List.all_eq_true.2 fun x hx => Slot.under_mono (List.all_eq_true.1 hE x hx) (by simp)) hEf (by
    have hT : T.all (Ent.under (T.length + 4)) = true := hT
    have e : (oT p ls out zs T).length = T.length + 4 := rfl
    rw [e, List.all_cons, List.all_cons, List.all_cons, List.all_cons, hT]
    rfl) hd
/-- frustum/regalloc.Assign$1 -/
theorem c35 (ls : List Pr) (a b : Int) (ha : Gd ls a) (hb : Gd ls b) : FnR Try.prog 35 [.r (I a), .r (I b), .fp [.sl (ls.map Enc.c)]] (.one (I (kx ls a - kx ls b))) := by
  refine fnR_of Try.func35 Try.ntmps35 ?_
  obtain ⟨qa, hqa, ea⟩ := gd_at ha
  obtain ⟨qb, hqb, eb⟩ := gd_at hb
  obtain ⟨ha1, ha2, ha3, ha4⟩ := ha
  obtain ⟨hb1, hb2, hb3, hb4⟩ := hb
  refine sg ?_
  refine as_ ?_
  refine rNil ?_
  refine sd mixO ?_
  first | refine l1f ?_ | refine l1b ?_ | refine l1o ?_
  refine mv ?_
  first | refine xs_ ?_ | refine xo ?_ | refine xw ?_ | refine xsl ?_
  first | refine xf ?_ | refine xb ?_ | refine xoa ?_
  first | refine l1f ?_ | refine l1b ?_ | refine l1o ?_
  first | refine l1f ?_ | refine l1b ?_ | refine l1o ?_
  refine mv ?_
  first | refine xs_ ?_ | refine xo ?_ | refine xw ?_ | refine xsl ?_
  first | refine xf ?_ | refine xb ?_ | refine xoa ?_
  first | refine l1f ?_ | refine l1b ?_ | refine l1o ?_
  refine bo (hz := by first | exact bop_sub (by omega) (by omega) | exact rfl) ?_
  refine as_ ?_
  refine rNil ⟨rfl, ?_⟩
  refine awp_ret ?_
  exact ⟨.inr rfl, _, (.cons (by first | exact .v (by ((repeat apply Look.there rfl); exact Look.here)) (.f (.v _)) | exact .v (by ((repeat apply Look.there rfl); exact Look.here)) (.row rfl (by first | exact rfl | (simp; done) | (simp; omega))) | exact .v (by ((repeat apply Look.there rfl); exact Look.here)) (.f .nil) | exact .a (by ((repeat apply Look.there rfl); exact Look.here)) | skip) .nil), oneI (by rw [ea, eb])⟩ -- LEAF 1: ret

/-- slices.swapRangeCmpFunc[int] -/
theorem c62 (p : Prg) (ls : List Pr) (out A X M Y B : List Int) (T : List Ent) (hX : X.length = Y.length) (hlen : (A ++ X ++ M ++ Y ++ B).length ≤ 8192) : FnX Try.prog 62 [] [.own 3 (A ++ X ++ M ++ Y ++ B).length, .r (I A.length), .r (I ((A.length + X.length + M.length : Nat) : Int)), .r (I X.length), .clo 35 [1]] .none (oT p ls out (A ++ X ++ M ++ Y ++ B) T) (oT p ls out (A ++ Y ++ M ++ X ++ B) T) := by
  refine fnX_of Try.func62 Try.ntmps62 (fun K hK hKf => ?_)
  generalize hN : (A ++ X ++ M ++ Y ++ B).length = N0 at *
  simp only [List.length_append] at hN
  refine sg ?_
  refine as_ ?_
  refine rNil ?_
  refine bk ?_
  refine lp (fun m S => ∃ (i : Nat) (zs : List Int), m = X.length - i ∧ i ≤ X.length ∧ zs = A ++ (Y.take i ++ X.drop i) ++ M ++ (X.take i ++ Y.drop i) ++ B ∧ zs.length = N0 ∧ S = ⟨[(10, .r (I i)), (0, .own 3 N0), (1, .r (I A.length)), (2, .r (I ((A.length + X.length + M.length : Nat) : Int))), (3, .r (I X.length))], oT p ls out zs (T ++ [.sav K])⟩) X.length ?_ ?_
  · exact wz ⟨0, _, rfl, Nat.zero_le _, rfl, by simp; omega, rfl⟩ (oTd (by simp))
  rintro m S ⟨i, zs, hm, hi, hz, hzl, rfl⟩
  refine sq ?_
  refine sg ?_
  refine mv ?_
  refine mv ?_
  refine bo (hz := by exact rfl) ?_
  refine rNil ?_
  refine cn (fun h1 => ?_) (fun h1 => ?_)
  ·
    have hi' : i < X.length := by simpa using h1
    obtain ⟨x, hx⟩ : ∃ x, X[i]? = some x := ⟨X[i], by simp⟩
    obtain ⟨y, hy⟩ : ∃ y, Y[i]? = some y := ⟨Y[i]'(by omega), by simp⟩
    have hz2 : zs = (A ++ Y.take i) ++ x :: ((X.drop (i + 1) ++ M ++ X.take i) ++ y :: (Y.drop (i + 1) ++ B)) := by rw [hz, drop_at hx, drop_at hy]; simp
    have l1 : (Y.take i).length = i := by rw [List.length_take]; omega
    have l2 : (X.take i).length = i := by rw [List.length_take]; omega
    have l3 : (X.drop (i + 1)).length = X.length - (i + 1) := List.length_drop
    refine awp_skip ?_
    refine tn ?_
    refine sq ?_
    refine bk ?_
    refine rd mixO ?_
    refine mv ?_
    refine mv ?_
    refine mv ?_
    refine bo (hz := by first | exact bop_add (by omega) (by omega) | exact rfl) ?_
    refine mv ?_
    refine mv ?_
    refine mv ?_
    refine bo (hz := by first | exact bop_add (by omega) (by omega) | exact rfl) ?_
    refine mv ?_
    refine mv ?_
    refine mv ?_
    refine bo (hz := by first | exact bop_add (by omega) (by omega) | exact rfl) ?_
    first | refine xs_ ?_ | refine xo ?_ | refine xw ?_ | refine xsl ?_
    first | refine l1f ?_ | refine l1b ?_ | refine l1o ?_ | refine ldI ?_
    refine mv ?_
    refine mv ?_
    refine mv ?_
    refine bo (hz := by first | exact bop_add (by omega) (by omega) | exact rfl) ?_
    first | refine xs_ ?_ | refine xo ?_ | refine xw ?_ | refine xsl ?_
    first | refine l1f ?_ | refine l1b ?_ | refine l1o ?_ | refine ldI ?_
    first | refine xs_ ?_ | refine xo ?_ | refine xw ?_ | refine xsl ?_
    first | refine s1 ?_ | refine s1w ?_ | refine soI ?_
    first | refine xs_ ?_ | refine xo ?_ | refine xw ?_ | refine xsl ?_
    first | refine s1 ?_ | refine s1w ?_ | refine soI ?_
    refine rNil ⟨rfl, ?_⟩
    refine bn_ ?_
    refine tn ?_
    refine rg ?_
    refine mv ?_
    refine bo (hz := by first | exact bop_add (by omega) (by omega) | exact rfl) ?_
    refine as_ ?_
    refine rNil ?_
    refine tn ?_
    exact ⟨X.length - (i + 1), by omega, wz ⟨i + 1, A ++ (Y.take (i + 1) ++ X.drop (i + 1)) ++ M ++ (X.take (i + 1) ++ Y.drop (i + 1)) ++ B, rfl, by omega, rfl, by simp only [List.length_append, List.length_take, List.length_drop]; omega, rfl⟩ (oTd ((swap_eq hz2 (by simp only [List.length_append]; omega) (by simp only [List.length_append]; omega)).trans (by rw [take_snoc hx, take_snoc hy]; simp)))⟩ -- LEAF 1: round of loop 1
  ·
    have hi' : i = X.length := by simp at h1; omega
    refine awp_exit ?_
    refine te ?_
    refine te ?_
    refine xbk ?_
    exact xz0 (.inl rfl) (oTd (by rw [hz, hi', List.take_length, List.drop_length, List.take_of_length_le (by omega), List.drop_eq_nil_of_le (by omega)]; simp)) -- LEAF 2: normal

theorem c62' {p : Prg} {ls : List Pr} {out zs ts : List Int} {T : List Ent} {N0 : Nat} {a b n : Int} (A X M Y B : List Int) (hz : zs = A ++ X ++ M ++ Y ++ B) (ht : ts = A ++ Y ++ M ++ X ++ B) (hN : N0 = zs.length) (ha : a = A.length) (hb : b = A.length + X.length + M.length) (hn : n = X.length) (hX : X.length = Y.length) (hlen : N0 ≤ 8192) :
    FnX Try.prog 62 [] [.own 3 N0, .r (I a), .r (I b), .r (I n), .clo 35 [1]] .none (oT p ls out zs T) (oT p ls out ts T) := by
  subst hz ht ha hn hN
  rw [show b = ((A.length + X.length + M.length : Nat) : Int) by omega]
  exact c62 p ls out A X M Y B T hX hlen
/-- slices.rotateCmpFunc[int] -/
theorem c61 (p : Prg) (ls : List Pr) (out A X Y B : List Int) (T : List Ent) (hUT : UT T) (hX : 0 < X.length) (hY : 0 < Y.length) (hlen : (A ++ X ++ Y ++ B).length ≤ 8192) : FnX Try.prog 61 [] [.own 3 (A ++ X ++ Y ++ B).length, .r (I A.length), .r (I ((A.length + X.length : Nat) : Int)), .r (I ((A.length + X.length + Y.length : Nat) : Int)), .clo 35 [1]] .none (oT p ls out (A ++ X ++ Y ++ B) T) (oT p ls out (A ++ Y ++ X ++ B) T) := by
  refine fnX_of Try.func61 Try.ntmps61 (fun K hK hKf => ?_)
  have hUK := ut_snoc hUT hK
  generalize hN : (A ++ X ++ Y ++ B).length = N0 at *
  simp only [List.length_append] at hN
  refine sg ?_
  refine mv ?_
  refine mv ?_
  refine bo (hz := by first | exact bop_sub (by omega) (by omega) | exact rfl) ?_
  refine as_ ?_
  refine rNil ?_
  refine sg ?_
  refine mv ?_
  refine mv ?_
  refine bo (hz := by first | exact bop_sub (by omega) (by omega) | exact rfl) ?_
  refine as_ ?_
  refine rNil ?_
  refine sq ?_
  refine bk ?_
  refine lp (fun m S => ∃ (A' X' Y' B' : List Int), m = X'.length + Y'.length ∧ 0 < X'.length ∧ 0 < Y'.length ∧ A ++ Y ++ X ++ B = A' ++ Y' ++ X' ++ B' ∧ A'.length + X'.length = A.length + X.length ∧ A'.length + X'.length + Y'.length + B'.length = N0 ∧ S = ⟨[(10, .r (I X'.length)), (11, .r (I Y'.length)), (0, .own 3 N0), (2, .r (I ((A.length + X.length : Nat) : Int))), (4, .clo 35 [1])], oT p ls out (A' ++ X' ++ Y' ++ B') (T ++ [.sav K])⟩) (X.length + Y.length) ?_ ?_
  · exact wz ⟨A, X, Y, B, rfl, hX, hY, rfl, rfl, by omega, rfl⟩ rfl
  rintro m S ⟨A', X', Y', B', hm, hx0, hy0, hT, hAX, hzl, rfl⟩
  refine sq ?_
  refine sg ?_
  refine mv ?_
  refine mv ?_
  refine bo (hz := by exact rfl) ?_
  refine rNil ?_
  refine cn (fun h1 => ?_) (fun h1 => ?_)
  ·
    have hne : X'.length ≠ Y'.length := by simp at h1; omega
    refine awp_skip ?_
    refine tn ?_
    refine bk ?_
    refine sg ?_
    refine mv ?_
    refine mv ?_
    refine bo (hz := by exact rfl) ?_
    refine rNil ?_
    refine cn (fun h2 => ?_) (fun h2 => ?_)
    ·
      have hgt : Y'.length < X'.length := by simpa using h2
      refine sgX 7 ?_
      refine mv ?_
      refine mv ?_
      refine mv ?_
      refine bo (hz := by first | exact bop_sub (by omega) (by omega) | exact rfl) ?_
      refine mv ?_
      refine mv ?_
      refine mv ?_
      refine rNil ?_
      refine cxT (c62' (N0 := N0) (a := ((A.length + X.length : Nat) : Int) - X'.length) (b := ((A.length + X.length : Nat) : Int)) (n := Y'.length) (ts := A' ++ Y' ++ X'.drop Y'.length ++ X'.take Y'.length ++ B') A' (X'.take Y'.length) (X'.drop Y'.length) Y' B' (by simp) rfl (by simp; omega) (by omega) (by rw [List.length_take, List.length_drop]; omega) (by rw [List.length_take]; omega) (by rw [List.length_take]; omega) (by omega)) hUK ?_
      refine rNil ?_
      refine rg ?_
      refine mv ?_
      refine mv ?_
      refine bo (hz := by first | exact bop_sub (by omega) (by omega) | exact rfl) ?_
      refine as_ ?_
      refine rNil ?_
      refine bn_ ?_
      refine tn ?_
      exact ⟨X'.length, by omega, wz ⟨A' ++ Y', X'.drop Y'.length, X'.take Y'.length, B', by first | (simp; done) | (simp; omega), by first | (simp; done) | (simp; omega), by first | (simp; done) | (simp; omega), by rw [hT]; simp, by first | (simp; done) | (simp; omega), by first | (simp; done) | (simp; omega), rfl⟩ (oTd (by simp))⟩ -- LEAF 1: round of loop 1
    ·
      have hgt : X'.length < Y'.length := by simp at h2; omega
      refine sgX 11 ?_
      refine mv ?_
      refine mv ?_
      refine mv ?_
      refine bo (hz := by first | exact bop_sub (by omega) (by omega) | exact rfl) ?_
      refine mv ?_
      refine mv ?_
      refine bo (hz := by first | exact bop_add (by omega) (by omega) | exact rfl) ?_
      refine mv ?_
      refine bo (hz := by first | exact bop_sub (by omega) (by omega) | exact rfl) ?_
      refine mv ?_
      refine mv ?_
      refine rNil ?_
      refine cxT (c62' (N0 := N0) (a := ((A.length + X.length : Nat) : Int) - X'.length) (b := ((A.length + X.length : Nat) : Int) + Y'.length - X'.length) (n := X'.length) (ts := A' ++ Y'.drop (Y'.length - X'.length) ++ Y'.take (Y'.length - X'.length) ++ X' ++ B') A' X' (Y'.take (Y'.length - X'.length)) (Y'.drop (Y'.length - X'.length)) B' (by simp) rfl (by simp; omega) (by omega) (by rw [List.length_take]; omega) rfl (by rw [List.length_drop]; omega) (by omega)) hUK ?_
      refine rNil ?_
      refine rg ?_
      refine mv ?_
      refine mv ?_
      refine bo (hz := by first | exact bop_sub (by omega) (by omega) | exact rfl) ?_
      refine as_ ?_
      refine rNil ?_
      refine bn_ ?_
      refine tn ?_
      exact ⟨Y'.length, by omega, wz ⟨A', Y'.drop (Y'.length - X'.length), Y'.take (Y'.length - X'.length), X' ++ B', by first | (simp; done) | (simp; omega), by first | (simp; done) | (simp; omega), by first | (simp; done) | (simp; omega), by rw [hT]; simp, by first | (simp; done) | (simp; omega), by first | (simp; done) | (simp; omega), rfl⟩ (oTd (by simp))⟩ -- LEAF 2: round of loop 1
  ·
    have hne : X'.length = Y'.length := by simp at h1; omega
    refine awp_exit ?_
    refine te ?_
    refine te ?_
    refine xbk ?_
    refine tn ?_
    refine rgX 7 ?_
    refine mv ?_
    refine mv ?_
    refine mv ?_
    refine bo (hz := by first | exact bop_sub (by omega) (by omega) | exact rfl) ?_
    refine mv ?_
    refine mv ?_
    refine mv ?_
    refine rNil ?_
    refine cxT (c62' (N0 := N0) (a := ((A.length + X.length : Nat) : Int) - X'.length) (b := ((A.length + X.length : Nat) : Int)) (n := X'.length) (ts := A' ++ Y' ++ X' ++ B') A' X' [] Y' B' (by simp) (by simp) (by first | (simp; done) | (simp; omega)) (by omega) (by first | (simp; done) | (simp; omega)) rfl (by omega) (by omega)) hUK ?_
    refine rNil ?_
    exact xz0 (.inl rfl) (oTd hT.symm) -- LEAF 3: normal

end Go.Proofs.Ytnhljpbpfaablaa.VS
