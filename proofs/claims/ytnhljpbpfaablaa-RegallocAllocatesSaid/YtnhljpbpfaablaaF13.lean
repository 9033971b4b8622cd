/- The walks of functions: what each computes, by itself. Conditions: none. -/
import Derived.Test.YtnhljpbpfaablaaF12
set_option linter.unusedVariables false
set_option linter.unusedSimpArgs false
namespace Go.Proofs.Ytnhljpbpfaablaa.VS
open Go
def lxb (ls : List Pr) (u v : Int) : Bool := decide (kx ls u < kx ls v ∨ (kx ls u = kx ls v ∧ u ≤ v))
theorem lxb_iff {ls : List Pr} {u v : Int} : lxb ls u v = true ↔ (kx ls u < kx ls v ∨ (kx ls u = kx ls v ∧ u ≤ v)) := by simp [lxb]
def LX (ls : List Pr) (l : List Int) : Prop := l.Pairwise fun u v => lxb ls u v = true
def lexs (ls : List Pr) (l : List Int) : List Int := l.mergeSort (lxb ls)
theorem lexs_sorted (ls : List Pr) (l : List Int) : LX ls (lexs ls l) := List.pairwise_mergeSort (fun a b c h1 h2 => by rw [lxb_iff] at *; omega) (fun a b => by rw [Bool.or_eq_true, lxb_iff, lxb_iff]; omega) l
theorem lexs_perm (ls : List Pr) (l : List Int) : (lexs ls l).Perm l := List.mergeSort_perm l _
theorem lexs_len (ls : List Pr) (l : List Int) : (lexs ls l).length = l.length := (lexs_perm ls l).length_eq
theorem lexs_uniq {ls : List Pr} {P S : List Int} (h : LX ls P) (hp : P.Perm S) : P = lexs ls S :=
  List.Perm.eq_of_pairwise (le := fun u v => lxb ls u v = true) (fun a b _ _ h1 h2 => by rw [lxb_iff] at h1 h2; omega) h (lexs_sorted ls S) (hp.trans (lexs_perm ls S).symm)
theorem lexs_mem {ls : List Pr} {l : List Int} {x : Int} : x ∈ lexs ls l ↔ x ∈ l := (lexs_perm ls l).mem_iff
/-- Increasing. -/
def Inc (l : List Int) : Prop := l.Pairwise (· < ·)
theorem LX.app {ls : List Pr} {P Q : List Int} : LX ls (P ++ Q) ↔ LX ls P ∧ LX ls Q ∧ ∀ a ∈ P, ∀ b ∈ Q, lxb ls a b = true := List.pairwise_append
theorem lx_mid {ls : List Pr} {P Q : List Int} {x : Int} (h : LX ls (P ++ Q)) (h1 : ∀ a ∈ P, lxb ls a x = true) (h2 : ∀ b ∈ Q, lxb ls x b = true) : LX ls (P ++ x :: Q) := by
  obtain ⟨h3, h4, h5⟩ := LX.app.1 h
  refine LX.app.2 ⟨h3, List.pairwise_cons.2 ⟨h2, h4⟩, fun a ha b hb => ?_⟩
  rcases List.mem_cons.1 hb with h | h
  · rw [h]; exact h1 a ha
  · exact h5 a ha b h
def GdL (ls : List Pr) (l : List Int) : Prop := ∀ z ∈ l, Gd ls z
theorem lexs_one {ls : List Pr} {l : List Int} (h : l.length ≤ 1) : lexs ls l = l := by
  refine (lexs_uniq ?_ (List.Perm.refl l)).symm
  match l, h with
  | [], _ => exact List.Pairwise.nil
  | [x], _ => exact List.pairwise_singleton _ _
theorem inc_take {l : List Int} {i : Nat} {x : Int} (h : Inc l) (hx : l[i]? = some x) : ∀ a ∈ l.take i, a < x := by
  have e : l = l.take i ++ x :: l.drop (i + 1) := by rw [← drop_at hx, List.take_append_drop]
  rw [Inc, e] at h
  exact fun a ha => (List.pairwise_append.1 h).2.2 a ha x (.head _)
/-- One more element is put into its place. -/
theorem ins_ok {ls : List Pr} {S P1 P2 : List Int} {i : Nat} {x : Int} (hS : Inc S) (hx : S[i]? = some x) (hP : P1 ++ P2 = lexs ls (S.take i)) (h1 : ∀ a ∈ P1, kx ls a ≤ kx ls x) (h2 : ∀ b ∈ P2, kx ls x < kx ls b) : P1 ++ x :: P2 = lexs ls (S.take (i + 1)) := by
  refine lexs_uniq (lx_mid (by rw [hP]; exact lexs_sorted _ _) (fun a ha => lxb_iff.2 ?_) (fun b hb => lxb_iff.2 (.inl (h2 b hb)))) ?_
  · have h3 := inc_take hS hx a (lexs_mem.1 (by rw [← hP]; exact List.mem_append_left _ ha))
    have := h1 a ha
    omega
  · refine List.perm_middle.trans ?_
    rw [hP, take_snoc hx]
    exact ((lexs_perm ls _).cons x).trans (List.perm_append_singleton x _).symm
theorem last_max {ls : List Pr} {P Q : List Int} {y : Int} (h : LX ls ((P ++ [y]) ++ Q)) : ∀ a ∈ P ++ [y], kx ls a ≤ kx ls y := by
  intro a ha
  rcases List.mem_append.1 ha with h1 | h1
  · have := (LX.app.1 (LX.app.1 h).1).2.2 a h1 y (.head _)
    rw [lxb_iff] at this; omega
  · rw [List.mem_singleton.1 h1]; exact Int.le_refl _
/-- slices.insertionSortCmpFunc[int] -/
theorem c59 (p : Prg) (ls : List Pr) (out A S B : List Int) (T : List Ent) (hInc : Inc S) (hGd : GdL ls S) (hlen : (A ++ S ++ B).length ≤ 8192) : FnX Try.prog 59 [] [.own 3 (A ++ S ++ B).length, .r (I A.length), .r (I ((A.length + S.length : Nat) : Int)), .clo 35 [1]] .none (oT p ls out (A ++ S ++ B) T) (oT p ls out (A ++ lexs ls S ++ B) T) := by
  refine fnX_of Try.func59 Try.ntmps59 (fun K hK hKf => ?_)
  generalize hN : (A ++ S ++ B).length = N0 at *
  simp only [List.length_append] at hN
  refine sg ?_
  refine mv ?_
  refine bo (hz := by first | exact bop_add (by omega) (by omega) | exact rfl) ?_
  refine as_ ?_
  refine rNil ?_
  refine bk ?_
  refine lp (fun m S_ => ∃ (i : Nat) (j : Int), m = S.length - i ∧ j = A.length + i ∧ ((i = 1 ∧ S.length = 0) ∨ i ≤ S.length) ∧ S_ = ⟨[(8, .r (I j)), (0, .own 3 N0), (1, .r (I A.length)), (2, .r (I ((A.length + S.length : Nat) : Int))), (3, .clo 35 [1])], oT p ls out (A ++ (lexs ls (S.take i) ++ S.drop i) ++ B) (T ++ [.sav K])⟩) (S.length - 1) ?_ ?_
  · exact wz ⟨1, _, by omega, rfl, by omega, rfl⟩ (oTd (by rw [lexs_one (by rw [List.length_take]; omega), List.take_append_drop]))
  rintro m S_ ⟨i, j, hm, hj, hi, rfl⟩
  refine sq ?_
  refine sg ?_
  refine mv ?_
  refine mv ?_
  refine bo (hz := by exact rfl) ?_
  refine rNil ?_
  refine cn (fun h1 => ?_) (fun h1 => ?_)
  ·
    have hi1 : i < S.length := by simp at h1; omega
    obtain ⟨x, hx⟩ : ∃ x, S[i]? = some x := ⟨S[i], by simp⟩
    have hgx := hGd x (List.mem_of_getElem? hx)
    have htl := lexs_len ls (S.take i)
    rw [List.length_take] at htl
    rw [drop_at hx]
    refine awp_skip ?_
    refine tn ?_
    refine sq ?_
    refine bk ?_
    refine sg ?_
    refine mv ?_
    refine as_ ?_
    refine rNil ?_
    refine bk ?_
    refine lp (fun m S_ => ∃ (P1 P2 zs : List Int), m = P1.length ∧ P1 ++ P2 = lexs ls (S.take i) ∧ (∀ b ∈ P2, kx ls x < kx ls b) ∧ zs = (A ++ P1) ++ x :: (P2 ++ (S.drop (i + 1) ++ B)) ∧ S_ = ⟨[(9, .r (I ((A.length + P1.length : Nat) : Int))), (8, .r (I j)), (0, .own 3 N0), (1, .r (I A.length)), (2, .r (I ((A.length + S.length : Nat) : Int))), (3, .clo 35 [1])], oT p ls out zs (T ++ [.sav K])⟩) (lexs ls (S.take i)).length ?_ ?_
    · exact wz ⟨lexs ls (S.take i), [], _, rfl, by simp, fun b hb => (by cases hb), rfl, by rw [show ((A.length + (lexs ls (S.take i)).length : Nat) : Int) = j by rw [htl]; omega]⟩ (oTd (by simp))
    rintro m2 S_ ⟨P1, P2, zs, hm2, hP, hP2, hz, rfl⟩
    have hPl : P1.length + P2.length = i := by have := congrArg List.length hP; rw [List.length_append, htl] at this; omega
    have hzl : zs.length = N0 := by rw [hz]; simp; omega
    refine sq ?_
    refine sd mixO ?_
    refine mv ?_
    refine mv ?_
    refine bo (hz := by exact rfl) ?_
    refine mv ?_
    refine gd (fun h2 => ?_) (fun h2 => ?_)
    ·
      have hp1 : 0 < P1.length := by simp at h2; omega
      obtain ⟨P, y, rfl⟩ : ∃ P y, P1 = P ++ [y] := ⟨P1.dropLast, P1.getLast (by intro e; rw [e] at hp1; cases hp1), (List.dropLast_concat_getLast _).symm⟩
      have hz2 : zs = (A ++ P) ++ y :: ([] ++ x :: (P2 ++ (S.drop (i + 1) ++ B))) := by rw [hz]; simp
      have hgy : Gd ls y := hGd y (List.mem_of_mem_take (lexs_mem.1 (by rw [← hP]; simp)))
      have e1 : ((A.length + (P ++ [y]).length : Nat) : Int).toNat * 1 = (A ++ P).length + 1 + ([] : List Int).length := by simp; omega
      have e2 : (((A.length + (P ++ [y]).length : Nat) : Int) - 1).toNat * 1 = (A ++ P).length := by simp; omega
      have g1 : zs.getD (((A.length + (P ++ [y]).length : Nat) : Int).toNat * 1) 0 = x := by rw [hz2]; exact getD_mid2 e1
      have g2 : zs.getD ((((A.length + (P ++ [y]).length : Nat) : Int) - 1).toNat * 1) 0 = y := by rw [hz2]; exact getD_mid e2
      have hpl : (P ++ [y]).length = P.length + 1 := by simp
      refine mv ?_
      refine mv ?_
      refine mv ?_
      first | refine xs_ ?_ | refine xo ?_ | refine xw ?_ | refine xsl ?_
      first | refine l1f ?_ | refine l1b ?_ | refine l1o ?_ | refine ldI ?_
      refine mv ?_
      refine mv ?_
      refine bo (hz := by first | exact bop_sub (by omega) (by omega) | exact rfl) ?_
      first | refine xs_ ?_ | refine xo ?_ | refine xw ?_ | refine xsl ?_
      first | refine l1f ?_ | refine l1b ?_ | refine l1o ?_ | refine ldI ?_
      rw [g1, g2]
      refine ccR [1] (ss := [.r (I x), .r (I y)]) (fss := [[.sl (ls.map Enc.c)]]) (c35 ls x y hgx hgy) ?_
      refine bo (hz := by exact rfl) ?_
      refine pkT ?_
      refine rNil ⟨rfl, ?_⟩
      refine cn (fun h3 => ?_) (fun h3 => ?_)
      ·
        have hlt : kx ls x < kx ls y := by simp at h3; omega
        refine awp_skip ?_
        refine tn ?_
        refine sq ?_
        refine bk ?_
        refine rd mixO ?_
        refine mv ?_
        refine mv ?_
        refine mv ?_
        refine mv ?_
        refine bo (hz := by first | exact bop_sub (by omega) (by omega) | exact rfl) ?_
        refine mv ?_
        refine mv ?_
        refine bo (hz := by first | exact bop_sub (by omega) (by omega) | exact rfl) ?_
        first | refine xs_ ?_ | refine xo ?_ | refine xw ?_ | refine xsl ?_
        first | refine l1f ?_ | refine l1b ?_ | refine l1o ?_ | refine ldI ?_
        refine mv ?_
        refine mv ?_
        first | refine xs_ ?_ | refine xo ?_ | refine xw ?_ | refine xsl ?_
        first | refine l1f ?_ | refine l1b ?_ | refine l1o ?_ | refine ldI ?_
        first | refine xs_ ?_ | refine xo ?_ | refine xw ?_ | refine xsl ?_
        first | refine s1 ?_ | refine s1w ?_ | refine soI ?_
        first | refine xs_ ?_ | refine xo ?_ | refine xw ?_ | refine xsl ?_
        first | refine s1 ?_ | refine s1w ?_ | refine soI ?_
        refine rNil ⟨rfl, ?_⟩
        refine bn_ ?_
        refine tn ?_
        refine rg ?_
        refine mv ?_
        refine bo (hz := by first | exact bop_sub (by omega) (by omega) | exact rfl) ?_
        refine as_ ?_
        refine rNil ?_
        refine tn ?_
        exact ⟨P.length, by omega, wz ⟨P, y :: P2, (A ++ P) ++ x :: ((y :: P2) ++ (S.drop (i + 1) ++ B)), rfl, by rw [← hP]; simp, fun b hb => by rcases List.mem_cons.1 hb with h | h; exact h ▸ hlt; exact hP2 b h, rfl, rfl⟩ (oTd ((swap_eq' hz2 e2 e1).trans (by simp)))⟩ -- LEAF 1: round of loop 2
      ·
        have hge : kx ls y ≤ kx ls x := by simp at h3; omega
        have hall := last_max (ls := ls) (P := P) (Q := P2) (y := y) (by rw [hP]; exact lexs_sorted _ _)
        have hins := ins_ok hInc hx hP (fun a ha => Int.le_trans (hall a ha) hge) hP2
        refine awp_exit ?_
        refine te ?_
        refine te ?_
        refine xbk ?_
        refine bn_ ?_
        refine tn ?_
        refine rg ?_
        refine mv ?_
        refine bo (hz := by first | exact bop_add (by omega) (by omega) | exact rfl) ?_
        refine as_ ?_
        refine rNil ?_
        refine tn ?_
        exact ⟨S.length - (i + 1), by omega, wz ⟨i + 1, j + 1, rfl, by omega, by omega, rfl⟩ (oTd (by rw [← hins, hz]; simp))⟩ -- LEAF 2: round of loop 1
    ·
      have hp1 : P1 = [] := List.length_eq_zero_iff.1 (by simp at h2; first | omega | simp [h2])
      have hins := ins_ok hInc hx hP (fun a ha => by rw [hp1] at ha; cases ha) hP2
      refine no ?_
      refine no ?_
      refine no ?_
      refine no ?_
      refine no ?_
      refine no ?_
      refine no ?_
      refine no ?_
      refine no ?_
      refine no ?_
      refine no ?_
      refine no ?_
      refine pkF ?_
      refine rNil ⟨rfl, ?_⟩
      refine cn (fun h4 => ?_) (fun h4 => ?_)
      ·
        first | exact absurd h4 (by decide) | (exfalso; simp_all; done)
      ·
        refine awp_exit ?_
        refine te ?_
        refine te ?_
        refine xbk ?_
        refine bn_ ?_
        refine tn ?_
        refine rg ?_
        refine mv ?_
        refine bo (hz := by first | exact bop_add (by omega) (by omega) | exact rfl) ?_
        refine as_ ?_
        refine rNil ?_
        refine tn ?_
        exact ⟨S.length - (i + 1), by omega, wz ⟨i + 1, j + 1, rfl, by omega, by omega, rfl⟩ (oTd (by rw [← hins, hz]; simp))⟩ -- LEAF 3: round of loop 1
  ·
    have hi1 : S.length ≤ i := by simp at h1; omega
    refine awp_exit ?_
    refine te ?_
    refine te ?_
    refine xbk ?_
    exact xz0 (.inl rfl) (oTd (by rw [List.take_of_length_le hi1, List.drop_eq_nil_of_le hi1]; simp)) -- LEAF 4: normal

end Go.Proofs.Ytnhljpbpfaablaa.VS
