/- The walks of functions: what each computes, by itself. Conditions: none. -/
import Derived.Test.YtlaaigljlhkdpaaF9
set_option linter.unusedVariables false
set_option linter.unusedSimpArgs false
namespace Go.Proofs.Ytlaaigljlhkdpaa.VS
open Go
structure Frag where
  x : Int
  y : Int
  mask : Int
  prim : Int
  front : Bool
  deps : List Int
  inps : List Int
instance : Enc Frag := ⟨fun f => [.i .i64 f.x, .i .i64 f.y, .i .i64 f.mask, .i .i64 f.prim, .b f.front, .sl (f.deps.map Enc.c), .sl (f.inps.map Enc.c)]⟩
def shrN (m : Int) (k : Nat) : Int := m.fdiv (2 ^ min (k : Int).toNat IntKind.i64.bits)
def mbit (m : Int) (k : Nat) : Int := shrN m k % 2
theorem shr_n (m : Int) (k : Nat) : shop .shr .i64 m (k : Int) = some (.i .i64 (shrN m k)) := by
  simp only [shop]; rw [if_neg (by omega)]; rfl
def dep1 (t : Tri) (s : Nat) (p : T3 Int) (i : Nat) : Int := if (mbit p.c i == 1) = true then depF t (spF p.a p.b s i).1 (spF p.a p.b s i).2 else 0
def deps (t : Tri) (s : Nat) (p : T3 Int) : List Int := (List.range s).map (dep1 t s p)
@[simp] theorem deps_len (t : Tri) (s : Nat) (p : T3 Int) : (deps t s p).length = s := by simp [deps]
theorem deps_get (t : Tri) (p : T3 Int) {s k : Nat} (h : k < s) : (deps t s p)[k]? = some (dep1 t s p k) := by simp [deps, h]
def frag (t : Tri) (s : Nat) (p : T3 Int) : Frag := ⟨p.a, p.b, p.c, t.prim, t.front, deps t s p, inpF t p.a p.b⟩
theorem pixl_mem {t : Tri} {n x y : Int} {p : T3 Int} (h : p ∈ pixl t n x y) : p = ⟨x, y, maskF t x y n⟩ ∧ maskF t x y n ≠ 0 := by
  unfold pixl at h
  split at h
  · cases h
  · rename_i hm; exact ⟨List.mem_singleton.1 h, hm⟩
theorem pixP_mem {t : Tri} {x0 y0 w h n : Int} {p : T3 Int} (hp : p ∈ pixP t x0 y0 w h n) : p.c = maskF t p.a p.b n ∧ p.c ≠ 0 := by
  simp only [pixP, gridL, rowL, List.mem_flatMap] at hp
  obtain ⟨_, _, _, _, hp⟩ := hp
  obtain ⟨rfl, h⟩ := pixl_mem hp
  exact ⟨rfl, h⟩
theorem mask_sam {t : Tri} {x y n : Int} (h : maskF t x y n ≠ 0) : ∃ s : Nat, n = s ∧ 1 ≤ s ∧ s ≤ 8 ∧ (pos n).length = s := by
  have hp : 0 < (pos n).length := by
    rcases Nat.eq_zero_or_pos (pos n).length with e | e
    · exact absurd (by rw [maskF, e]; rfl) h
    · exact e
  have h1 := pos_one hp
  have h2 := pos_len n
  exact ⟨(pos n).length, h1.symm, hp, h2, rfl⟩
def genF (t : Tri) (x0 y0 w h n : Int) : List Frag := (pixP t x0 y0 w h n).map (frag t n.toNat)
theorem pixP_len {t : Tri} {x0 y0 w h n : Int} (hx : -300 ≤ x0 ∧ x0 ≤ 300) (hy : -300 ≤ y0 ∧ y0 ≤ 300) : (pixP t x0 y0 w h n).length ≤ 4096 := by
  have h1 := gridL_len t n (limF x0 w).1 (limF y0 h).1 (span (limF x0 w)) (span (limF y0 h))
  have h2 := limF_bd (s := w) hx
  have h3 := limF_bd (s := h) hy
  have h4 : span (limF y0 h) * (span (limF x0 w) * 1) ≤ 64 * 64 := Nat.mul_le_mul (by unfold span; omega) (by unfold span; omega)
  unfold pixP; omega
theorem fill0 {l : List Int} {k : Nat} (h : l[k]? = some 0) : fillv l (k + 1) = fillv l k := by
  have hk := (List.getElem?_eq_some_iff.1 h).1
  rw [← fillv_set h]
  apply List.ext_getElem?
  intro i
  rw [List.getElem?_set]
  split
  · rename_i e
    subst e
    rw [fillv_get hk, if_pos (by rw [fillv_len]; exact hk)]
  · rfl
/-- frustum/fragments.Generate -/
theorem c10 (t : Tri) (x0 y0 w h n : Int) (hl : t.v.a.vs.length ≤ 100) (hx : -300 ≤ x0 ∧ x0 ≤ 300) (hy : -300 ≤ y0 ∧ y0 ≤ 300) (hw : w ≤ 300) (hh : h ≤ 300) : Fn Try.prog 10 [A t, I x0, I y0, I w, I h, I n] (.one (L (genF t x0 y0 w h n))) := by
  refine fnI Try.func10 Try.ntmps10 fun hb => ?_
  refine sg ?_
  refine bx _ ?_
  refine as_ ?_
  refine rNil ?_
  refine sg ?_
  refine as_ ?_
  refine rNil ?_
  refine sq ?_
  refine sg ?_
  first | refine lAf ?_ | refine lAb ?_ | refine lAo ?_
  refine mv ?_
  refine mv ?_
  refine mv ?_
  refine mv ?_
  refine mv ?_
  refine cl (c18 t x0 y0 w h n hx hy hw hh) ?_
  first | refine lnM ?_ | refine ln ?_ | refine lnO ?_ | refine lnN ?_ | refine lnW ?_
  refine mv ?_
  refine rNil ?_
  refine bk ?_
  have hpl := pixP_len (t := t) (w := w) (h := h) (n := n) hx hy
  have hmem : ∀ p ∈ pixP t x0 y0 w h n, p.c = maskF t p.a p.b n ∧ p.c ≠ 0 := fun p hp => pixP_mem hp
  unfold genF
  generalize pixP t x0 y0 w h n = ps at *
  refine adN 1 13 36 7 ?_
  refine lp (fun m S => ∃ (k o : Nat), m = ps.length - k ∧ k ≤ ps.length ∧ o = k ∧ S = ⟨[(28, .r (I k)), (27, .r (I ps.length)), (26, .r (L ps)), (13, .own 1 o), (5, .r (I n)), (6, .box 0 0)], [.box 27 (triC t), .row 36 7 (((ps.map (frag t n.toNat)).take k).map Enc.c)]⟩) ps.length ?_ ?_
  · exact wx 2 ⟨0, 0, by omega, by omega, rfl, rfl⟩
  rintro m S ⟨k, o, hm, hk, ho, rfl⟩
  have hkl : (((ps.map (frag t n.toNat)).take k).map Enc.c).length = k := by simp; omega
  have hrow : o = (((ps.map (frag t n.toNat)).take k).map Enc.c).length := by rw [hkl, ho]
  refine sg ?_
  refine bo ?_
  refine rNil ?_
  refine sq ?_
  refine cn (fun h1 => ?_) (fun h1 => ?_)
  ·
    have hk1 : k < ps.length := by simpa using h1
    obtain ⟨p, hp⟩ := ex_get hk1
    obtain ⟨hpc, hp0⟩ := hmem p (List.mem_of_getElem? hp)
    obtain ⟨s, rfl, hs1, hs8, _⟩ := mask_sam (by rw [← hpc]; exact hp0)
    rw [Int.toNat_natCast] at hkl hrow ⊢
    have hfg : (ps.map (frag t s))[k]? = some (frag t s p) := by rw [List.getElem?_map, hp]; rfl
    have hsn := take_snoc hfg
    generalize (ps.map (frag t s)).take k = done at *
    have hdl : done.length ≤ 4096 := by rw [List.length_map] at hkl; omega
    have hod : o = done.length := by rw [List.length_map] at hrow; exact hrow
    refine awp_skip ?_
    refine tn ?_
    refine sq ?_
    refine bk ?_
    refine sg ?_
    first | refine xs_ ?_ | refine xo ?_ | refine xw ?_
    first | refine lAf ?_ | refine lAb ?_ | refine lAo ?_
    refine al _ ?_
    refine sA ?_
    refine rNil ?_
    refine sg ?_
    first | refine xf ?_ | refine xb ?_ | refine xoa ?_
    first | refine l1f ?_ | refine l1b ?_ | refine l1o ?_
    first | refine xf ?_ | refine xb ?_ | refine xoa ?_
    first | refine l1f ?_ | refine l1b ?_ | refine l1o ?_
    first | refine xf ?_ | refine xb ?_ | refine xoa ?_
    first | refine l1f ?_ | refine l1b ?_ | refine l1o ?_
    first | refine ff ?_ | refine fb ?_ | refine fo ?_
    first | refine l1f ?_ | refine l1b ?_ | refine l1o ?_
    first | refine ff ?_ | refine fb ?_ | refine fo ?_
    first | refine l1f ?_ | refine l1b ?_ | refine l1o ?_
    refine buS ?_
    refine al _ ?_
    refine sA ?_
    refine rNil ?_
    refine sg ?_
    refine mv ?_
    refine (mk _) ?_
    first | refine ff ?_ | refine fb ?_ | refine fo ?_
    first | refine s1 ?_ | refine s1w ?_
    refine rNil ?_
    refine sq ?_
    refine sg ?_
    first | refine ff ?_ | refine fb ?_ | refine fo ?_
    first | refine l1f ?_ | refine l1b ?_ | refine l1o ?_
    first | refine lnM ?_ | refine ln ?_ | refine lnO ?_ | refine lnN ?_ | refine lnW ?_
    refine mv ?_
    refine rNil ?_
    refine bk ?_
    refine lp (fun m S => ∃ i : Nat, m = s - i ∧ i ≤ s ∧ S = ⟨[(49, .r (I i)), (48, .r (I s)), (16, .box 3 0), (28, .r (I k)), (27, .r (I ps.length)), (26, .r (L ps)), (13, .own 1 o), (5, .r (I s)), (6, .box 0 0)], [.box 27 (triC t), .row 36 7 (done.map Enc.c), .box 49 [.r (I p.a), .r (I p.b), .r (I p.c)], .box 36 [.r (I p.a), .r (I p.b), .r (I p.c), .r (I t.prim), .r (B t.front), .own 4 s, .r (.v (.sl []))], .row 3 1 ((fillv (deps t s p) i).map Enc.c)]⟩) s ?_ ?_
    · exact wy 5 ⟨0, by omega, by omega, rfl⟩ (by have e := fillv_mk (deps t s p); rw [deps_len] at e; rw [← e]; rfl)
    rintro m S ⟨i, hm, hi, rfl⟩
    have hdrow : s = ((fillv (deps t s p) i).map Enc.c).length := by simp
    refine sg ?_
    refine bo ?_
    refine rNil ?_
    refine sq ?_
    refine cn (fun h2 => ?_) (fun h2 => ?_)
    ·
      have hi1 : i < s := by simpa using h2
      have hz := fillv_get' (l := deps t s p) (k := i) (by rw [deps_len]; exact hi1)
      refine awp_skip ?_
      refine tn ?_
      refine sq ?_
      refine bk ?_
      refine sg ?_
      refine mv ?_
      refine as_ ?_
      refine rNil ?_
      refine sg ?_
      first | refine ff ?_ | refine fb ?_ | refine fo ?_
      first | refine l1f ?_ | refine l1b ?_ | refine l1o ?_
      refine mv ?_
      refine sh (hz := shr_n _ _) ?_
      refine bo ?_
      refine bo ?_
      refine rNil ?_
      refine cn (fun h3 => ?_) (fun h3 => ?_)
      ·
        have hdv : dep1 t s p i = depF t (spF p.a p.b s i).1 (spF p.a p.b s i).2 := if_pos h3
        have hput := fillv_put (deps_get t p hi1)
        rw [hdv] at hput
        refine sg ?_
        first | refine ff ?_ | refine fb ?_ | refine fo ?_
        first | refine l1f ?_ | refine l1b ?_ | refine l1o ?_
        first | refine ff ?_ | refine fb ?_ | refine fo ?_
        first | refine l1f ?_ | refine l1b ?_ | refine l1o ?_
        refine mv ?_
        refine mv ?_
        refine cl (c19 _ _ _ _) ?_
        refine mv ?_
        refine ex ?_
        refine ex ?_
        refine as_ ?_
        refine as_ ?_
        refine rNil ?_
        refine rd mixO ?_
        first | refine ff ?_ | refine fb ?_ | refine fo ?_
        first | refine l1f ?_ | refine l1b ?_ | refine l1o ?_
        refine mv ?_
        first | refine lAf ?_ | refine lAb ?_ | refine lAo ?_
        refine mv ?_
        refine mv ?_
        refine cl (c20 t _ _) ?_
        first | refine xs_ ?_ | refine xo ?_ | refine xw ?_
        refine so i 0 ?_
        refine rNil ⟨rfl, ?_⟩
        refine bn_ ?_
        refine tn ?_
        refine rg ?_
        refine bo ?_
        refine mv ?_
        refine rNil ?_
        refine tn ?_
        exact ⟨s - (i + 1), by omega, wy 5 ⟨i + 1, rfl, by omega, rfl⟩ (by rw [← hput]; rfl)⟩ -- LEAF 1: round of loop 2
      ·
        refine awp_skip ?_
        refine bn_ ?_
        refine tn ?_
        refine rg ?_
        refine bo ?_
        refine mv ?_
        refine rNil ?_
        refine tn ?_
        have hdv : dep1 t s p i = 0 := if_neg (by show ¬ (shrN p.c i % 2 == 1) = true; rw [h3]; decide)
        have hf0 := fill0 (by rw [deps_get t p hi1, hdv])
        exact ⟨s - (i + 1), by omega, wy 5 ⟨i + 1, rfl, by omega, rfl⟩ (by rw [hf0]; rfl)⟩ -- LEAF 2: round of loop 2
    ·
      refine awp_exit ?_
      refine te ?_
      refine te ?_
      refine xbk ?_
      refine tn ?_
      have hii : i = s := by simp at h2; omega
      subst hii
      have hfa : fillv (deps t i p) i = deps t i p := by have := fillv_all (deps t i p); rwa [deps_len] at this
      rw [hfa] at hdrow ⊢
      refine sg ?_
      first | refine lAf ?_ | refine lAb ?_ | refine lAo ?_
      first | refine ff ?_ | refine fb ?_ | refine fo ?_
      first | refine l1f ?_ | refine l1b ?_ | refine l1o ?_
      first | refine ff ?_ | refine fb ?_ | refine fo ?_
      first | refine l1f ?_ | refine l1b ?_ | refine l1o ?_
      refine cl (c21 t _ _ hl) ?_
      first | refine ff ?_ | refine fb ?_ | refine fo ?_
      first | refine s1 ?_ | refine s1w ?_
      refine rNil ?_
      refine fz 4 ?_
      refine rg ?_
      refine mv ?_
      refine lAbF 3 [4] ?_
      refine bs ?_
      first | refine ap ?_ | refine (apN _) ?_
      refine as_ ?_
      refine rNil ?_
      refine bn_ ?_
      refine tn ?_
      refine rg ?_
      refine bo ?_
      refine mv ?_
      refine rNil ?_
      refine tn ?_
      exact ⟨ps.length - (k + 1), by omega, wy 2 ⟨k + 1, o + 1, rfl, by omega, by omega, rfl⟩ (by rw [hsn, List.map_append]; rfl)⟩ -- LEAF 3: round of loop 1
  ·
    refine awp_exit ?_
    refine te ?_
    refine te ?_
    refine xbk ?_
    refine tn ?_
    refine sg ?_
    refine mv ?_
    refine as_ ?_
    refine rNil ?_
    refine awp_ret ?_
    have hkk : k = ps.length := by simp at h1; omega
    subst hkk
    rw [List.take_of_length_le (show (ps.map (frag t n.toNat)).length ≤ ps.length by simp)] at hrow ⊢
    exact ⟨.inr rfl, _, .cons (.v (by ((repeat apply Look.there rfl); exact Look.here)) (.row rfl hrow)) .nil, rfl⟩ -- LEAF 4: ret

def genR (t : Tri) (x0 y0 w h n : Int) : List Frag := (pixR t x0 y0 w h n 64).map (frag t n.toNat)
theorem pixR_mem {t : Tri} {x0 y0 w h n : Int} {p : T3 Int} (hp : p ∈ pixR t x0 y0 w h n 64) : p.c = maskF t p.a p.b n ∧ p.c ≠ 0 := by
  simp only [pixR, pixQ, List.mem_flatMap] at hp
  obtain ⟨_, _, _, _, hp⟩ := hp
  split at hp
  · obtain ⟨rfl, h⟩ := pixl_mem hp
    exact ⟨rfl, h⟩
  · cases hp
/-- frustum/frustumref45.Generate -/
theorem c11 (t : Tri) (x0 y0 w h n : Int) (hl : t.v.a.vs.length ≤ 100) (hx : -300 ≤ x0 ∧ x0 ≤ 300) (hy : -300 ≤ y0 ∧ y0 ≤ 300) (hw : w ≤ 300) (hh : h ≤ 300) : Fn Try.prog 11 [A t, I x0, I y0, I w, I h, I n] (.one (L (genR t x0 y0 w h n))) := by
  refine fnI Try.func11 Try.ntmps11 fun hb => ?_
  refine sg ?_
  refine bx _ ?_
  refine as_ ?_
  refine rNil ?_
  refine sg ?_
  refine (bsO _) ?_
  refine as_ ?_
  refine rNil ?_
  refine sg ?_
  first | refine lAf ?_ | refine lAb ?_ | refine lAo ?_
  refine mv ?_
  refine mv ?_
  refine mv ?_
  refine mv ?_
  refine mv ?_
  refine cl (c22 t x0 y0 w h n hx hy hw hh) ?_
  refine as_ ?_
  refine rNil ?_
  refine sq ?_
  refine sg ?_
  refine as_ ?_
  refine rNil ?_
  refine bk ?_
  have hpl := pixR_len t x0 y0 w h n 64
  have hmem : ∀ p ∈ pixR t x0 y0 w h n 64, p.c = maskF t p.a p.b n ∧ p.c ≠ 0 := fun p hp => pixR_mem hp
  unfold genR
  generalize pixR t x0 y0 w h n 64 = ps at *
  refine lp (fun m S => ∃ (k o : Nat), m = ps.length - k ∧ k ≤ ps.length ∧ o = k ∧ S = ⟨[(15, .r (I k)), (14, .r (L ps)), (13, .own 1 o), (5, .r (I n)), (6, .box 0 0)], [.box 27 (triC t), .row 36 7 (((ps.map (frag t n.toNat)).take k).map Enc.c)]⟩) ps.length ?_ ?_
  · exact wx 2 ⟨0, 0, by omega, by omega, rfl, rfl⟩
  rintro m S ⟨k, o, hm, hk, ho, rfl⟩
  have hkl : (((ps.map (frag t n.toNat)).take k).map Enc.c).length = k := by simp; omega
  have hrow : o = (((ps.map (frag t n.toNat)).take k).map Enc.c).length := by rw [hkl, ho]
  refine sq ?_
  refine sg ?_
  refine mv ?_
  refine mv ?_
  first | refine lnM ?_ | refine ln ?_ | refine lnO ?_ | refine lnN ?_ | refine lnW ?_
  refine bo ?_
  refine rNil ?_
  refine cn (fun h1 => ?_) (fun h1 => ?_)
  ·
    have hk1 : k < ps.length := by simpa using h1
    obtain ⟨p, hp⟩ := ex_get hk1
    obtain ⟨hpc, hp0⟩ := hmem p (List.mem_of_getElem? hp)
    obtain ⟨s, rfl, hs1, hs8, _⟩ := mask_sam (by rw [← hpc]; exact hp0)
    rw [Int.toNat_natCast] at hkl hrow ⊢
    have hfg : (ps.map (frag t s))[k]? = some (frag t s p) := by rw [List.getElem?_map, hp]; rfl
    have hsn := take_snoc hfg
    generalize (ps.map (frag t s)).take k = done at *
    have hdl : done.length ≤ 4096 := by rw [List.length_map] at hkl; omega
    have hod : o = done.length := by rw [List.length_map] at hrow; exact hrow
    refine awp_skip ?_
    refine tn ?_
    refine sq ?_
    refine bk ?_
    refine sd mixO ?_
    refine mv ?_
    refine mv ?_
    first | refine xs_ ?_ | refine xo ?_ | refine xw ?_
    first | refine xf ?_ | refine xb ?_ | refine xoa ?_
    first | refine l1f ?_ | refine l1b ?_ | refine l1o ?_
    refine mv ?_
    refine mv ?_
    first | refine xs_ ?_ | refine xo ?_ | refine xw ?_
    first | refine xf ?_ | refine xb ?_ | refine xoa ?_
    first | refine l1f ?_ | refine l1b ?_ | refine l1o ?_
    refine mv ?_
    refine mv ?_
    first | refine xs_ ?_ | refine xo ?_ | refine xw ?_
    first | refine xf ?_ | refine xb ?_ | refine xoa ?_
    first | refine l1f ?_ | refine l1b ?_ | refine l1o ?_
    refine as_ ?_
    refine as_ ?_
    refine as_ ?_
    refine rNil ⟨rfl, ?_⟩
    refine sd mixO ?_
    refine mv ?_
    refine mv ?_
    refine mv ?_
    first | refine ff ?_ | refine fb ?_ | refine fo ?_
    first | refine l1f ?_ | refine l1b ?_ | refine l1o ?_
    first | refine ff ?_ | refine fb ?_ | refine fo ?_
    first | refine l1f ?_ | refine l1b ?_ | refine l1o ?_
    first | refine lAf ?_ | refine lAb ?_ | refine lAo ?_
    refine mv ?_
    refine mv ?_
    refine cl (c23 t _ _ hl) ?_
    refine buSz ?_
    refine al _ ?_
    refine sA ?_
    refine rNil ⟨rfl, ?_⟩
    refine sq ?_
    refine sg ?_
    refine as_ ?_
    refine rNil ?_
    refine bk ?_
    refine adB 3 2 3 1 5 36 ?_
    refine lp (fun m S => ∃ (i q : Nat), m = s - i ∧ i ≤ s ∧ q = i ∧ S = ⟨[(20, .r (I i)), (19, .box 2 0), (16, .r (I p.a)), (17, .r (I p.b)), (18, .r (I p.c)), (15, .r (I k)), (14, .r (L ps)), (13, .own 1 o), (5, .r (I s)), (6, .box 0 0)], [.box 27 (triC t), .row 36 7 (done.map Enc.c), .box 36 [.r (I p.a), .r (I p.b), .r (I p.c), .r (I t.prim), .r (B t.front), .own 3 q, .r (.v (.sl ((inpF t p.a p.b).map Enc.c)))], .row 3 1 (((deps t s p).take i).map Enc.c)]⟩) s ?_ ?_
    · exact wx 4 ⟨0, 0, by omega, by omega, rfl, rfl⟩
    rintro m S ⟨i, q, hm, hi, hq, rfl⟩
    have hdk : ((deps t s p).take i).length = i := by simp; omega
    have hdrow : q = (((deps t s p).take i).map Enc.c).length := by rw [List.length_map, hdk, hq]
    refine sq ?_
    refine sg ?_
    refine mv ?_
    refine mv ?_
    refine bo ?_
    refine rNil ?_
    refine cn (fun h2 => ?_) (fun h2 => ?_)
    ·
      have hi1 : i < s := by simpa using h2
      have hsd := take_snoc (deps_get t p hi1)
      refine awp_skip ?_
      refine tn ?_
      refine sq ?_
      refine bk ?_
      refine sg ?_
      refine as_ ?_
      refine rNil ?_
      refine sq ?_
      refine sg ?_
      refine mv ?_
      refine mv ?_
      refine sh (hz := shr_n _ _) ?_
      refine bo ?_
      refine bo ?_
      refine rNil ?_
      refine cn (fun h3 => ?_) (fun h3 => ?_)
      ·
        have hdv : dep1 t s p i = depF t (spF p.a p.b s i).1 (spF p.a p.b s i).2 := if_pos h3
        rw [hdv] at hsd
        refine sg ?_
        refine mv ?_
        refine mv ?_
        refine mv ?_
        refine mv ?_
        refine cl (c24 _ _ _ _) ?_
        refine mv ?_
        refine ex ?_
        refine ex ?_
        refine as_ ?_
        refine as_ ?_
        refine rNil ?_
        refine rg ?_
        first | refine lAf ?_ | refine lAb ?_ | refine lAo ?_
        refine mv ?_
        refine mv ?_
        refine cl (c25 t _ _) ?_
        refine as_ ?_
        refine rNil ?_
        refine tn ?_
        refine rg ?_
        first | refine ff ?_ | refine fb ?_ | refine fo ?_
        first | refine l1f ?_ | refine l1b ?_ | refine l1o ?_
        refine mv ?_
        refine bs ?_
        first | refine ap ?_ | refine (apN _) ?_
        first | refine ff ?_ | refine fb ?_ | refine fo ?_
        first | refine s1 ?_ | refine s1w ?_
        refine rNil ?_
        refine bn_ ?_
        refine tn ?_
        refine rg ?_
        refine mv ?_
        refine bo ?_
        refine as_ ?_
        refine rNil ?_
        refine tn ?_
        exact ⟨s - (i + 1), by omega, wy 4 ⟨i + 1, q + 1, rfl, by omega, by omega, rfl⟩ (by simp [hsd, RV.flat, Enc.c]; omega)⟩ -- LEAF 1: round of loop 2
      ·
        have hdv : dep1 t s p i = 0 := if_neg (by show ¬ (shrN p.c i % 2 == 1) = true; rw [h3]; decide)
        rw [hdv] at hsd
        refine awp_skip ?_
        refine tn ?_
        refine rg ?_
        first | refine ff ?_ | refine fb ?_ | refine fo ?_
        first | refine l1f ?_ | refine l1b ?_ | refine l1o ?_
        refine mv ?_
        refine bs ?_
        first | refine ap ?_ | refine (apN _) ?_
        first | refine ff ?_ | refine fb ?_ | refine fo ?_
        first | refine s1 ?_ | refine s1w ?_
        refine rNil ?_
        refine bn_ ?_
        refine tn ?_
        refine rg ?_
        refine mv ?_
        refine bo ?_
        refine as_ ?_
        refine rNil ?_
        refine tn ?_
        exact ⟨s - (i + 1), by omega, wy 4 ⟨i + 1, q + 1, rfl, by omega, by omega, rfl⟩ (by simp [hsd, RV.flat, Enc.c]; omega)⟩ -- LEAF 2: round of loop 2
    ·
      refine awp_exit ?_
      refine te ?_
      refine te ?_
      refine xbk ?_
      refine tn ?_
      have hii : i = s := by simp at h2; omega
      obtain rfl : q = i := hq
      subst hii
      have hfa : (deps t q p).take q = deps t q p := by have := List.take_length (l := deps t q p); rwa [deps_len] at this
      rw [hfa] at hdrow ⊢
      refine fz 3 ?_
      refine rg ?_
      refine mv ?_
      refine lAbF 2 [3] ?_
      refine bs ?_
      first | refine ap ?_ | refine (apN _) ?_
      refine as_ ?_
      refine rNil ?_
      refine bn_ ?_
      refine tn ?_
      refine rg ?_
      refine mv ?_
      refine bo ?_
      refine as_ ?_
      refine rNil ?_
      refine tn ?_
      exact ⟨ps.length - (k + 1), by omega, wy 2 ⟨k + 1, o + 1, rfl, by omega, by omega, rfl⟩ (by rw [hsn, List.map_append]; rfl)⟩ -- LEAF 3: round of loop 1
  ·
    refine awp_exit ?_
    refine te ?_
    refine te ?_
    refine xbk ?_
    refine tn ?_
    refine sg ?_
    refine mv ?_
    refine as_ ?_
    refine rNil ?_
    refine awp_ret ?_
    have hkk : k = ps.length := by simp at h1; omega
    subst hkk
    rw [List.take_of_length_le (show (ps.map (frag t n.toNat)).length ≤ ps.length by simp)] at hrow ⊢
    exact ⟨.inr rfl, _, .cons (.v (by ((repeat apply Look.there rfl); exact Look.here)) (.row rfl hrow)) .nil, rfl⟩ -- LEAF 4: ret

end Go.Proofs.Ytlaaigljlhkdpaa.VS
