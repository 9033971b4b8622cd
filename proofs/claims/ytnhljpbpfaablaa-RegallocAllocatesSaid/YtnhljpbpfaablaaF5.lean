/- The walks of functions: what each computes, by itself. Conditions: none. -/
import Derived.Test.YtnhljpbpfaablaaF4
import Derived.Test.YtnhljpbpfaablaaD1
set_option linter.unusedVariables false
set_option linter.unusedSimpArgs false
namespace Go.Proofs.Ytnhljpbpfaablaa.VS
open Go
def lastF (l : List Int) : Int := l.getLast?.getD 0
theorem last_at {l : List Int} (h : 0 < l.length) : l[((l.length : Int) - 1).toNat]? = some (lastF l) := by
  unfold lastF
  rw [show ((l.length : Int) - 1).toNat = l.length - 1 by omega, List.getLast?_eq_getElem?, List.getElem?_eq_getElem (by omega)]
  rfl
/-- (*frustum/isa.nesting).inner -/
theorem c55 (l : List Int) (n : Int) (hl : l.length ≤ 16384) : FnR Try.prog 55 [.fp [.sl (l.map Enc.c), .i .i64 n]] (.one (I (lastF l))) := by
  refine fnR_of Try.func55 Try.ntmps55 ?_
  refine sg ?_
  refine as_ ?_
  refine rNil ?_
  refine sq ?_
  refine sg ?_
  refine mv ?_
  first | refine nc ?_ | refine ncF ?_
  first | refine ff ?_ | refine fb ?_ | refine fo ?_
  first | refine l1f ?_ | refine l1b ?_ | refine l1o ?_
  first | refine lnM ?_ | refine ln ?_ | refine lnO ?_ | refine lnN ?_ | refine lnW ?_ | refine lnS ?_
  refine bo (hz := by exact rfl) ?_
  refine rNil ?_
  refine cn (fun h1 => ?_) (fun h1 => ?_)
  ·
    have h0 : l = [] := by simpa using h1
    refine sg ?_
    refine as_ ?_
    refine rNil ?_
    refine awp_ret ?_
    refine tr ?_
    exact ⟨.inr rfl, _, (.cons (by first | exact .v (by ((repeat apply Look.there rfl); exact Look.here)) (.f (.v _)) | exact .v (by ((repeat apply Look.there rfl); exact Look.here)) (.row rfl (by first | exact rfl | (simp; done) | (simp; omega))) | exact .v (by ((repeat apply Look.there rfl); exact Look.here)) (.f .nil) | exact .a (by ((repeat apply Look.there rfl); exact Look.here)) | skip) .nil), oneI (by rw [h0]; rfl)⟩ -- LEAF 1: ret
  ·
    have h0 : 0 < l.length := by
      simp at h1
      rcases Nat.eq_zero_or_pos l.length with h | h
      · exact absurd (List.length_eq_zero_iff.1 h) h1
      · exact h
    have hx := last_at h0
    refine awp_skip ?_
    refine tn ?_
    refine sd mixO ?_
    refine mv ?_
    first | refine nc ?_ | refine ncF ?_
    first | refine ff ?_ | refine fb ?_ | refine fo ?_
    first | refine l1f ?_ | refine l1b ?_ | refine l1o ?_
    refine mv ?_
    first | refine nc ?_ | refine ncF ?_
    first | refine ff ?_ | refine fb ?_ | refine fo ?_
    first | refine l1f ?_ | refine l1b ?_ | refine l1o ?_
    first | refine lnM ?_ | refine ln ?_ | refine lnO ?_ | refine lnN ?_ | refine lnW ?_ | refine lnS ?_
    refine bo (hz := by first | exact bop_sub (by omega) (by omega) | exact rfl) ?_
    first | refine xs_ ?_ | refine xo ?_ | refine xw ?_ | refine xsl ?_
    first | refine l1f ?_ | refine l1b ?_ | refine l1o ?_
    refine as_ ?_
    refine rNil ⟨rfl, ?_⟩
    refine awp_ret ?_
    exact ⟨.inr rfl, _, (.cons (by first | exact .v (by ((repeat apply Look.there rfl); exact Look.here)) (.f (.v _)) | exact .v (by ((repeat apply Look.there rfl); exact Look.here)) (.row rfl (by first | exact rfl | (simp; done) | (simp; omega))) | exact .v (by ((repeat apply Look.there rfl); exact Look.here)) (.f .nil) | exact .a (by ((repeat apply Look.there rfl); exact Look.here)) | skip) .nil), rfl⟩ -- LEAF 2: ret

def cd (c : Int) : Int := if c = 1 then 43 else if c = 2 then 44 else 46
abbrev cds (st : List Int) : List Int := st.map cd
def n3 (st : List Int) : Int := (st.count 3 : Nat)
def nx (sg op : Int) (st : List Int) : Option (List Int) :=
  if op = 43 then some (st ++ [1]) else if op = 44 then (if lastF st = 1 then some (st.dropLast ++ [2]) else none) else if op = 45 then (if lastF st = 1 ∨ lastF st = 2 then some st.dropLast else none)
  else if op = 46 then (if n3 st < 3 then some (st ++ [3]) else none) else if op = 49 then (if lastF st = 3 then some st.dropLast else none) else if op = 47 ∨ op = 48 then (if 0 < n3 st then some st else none)
  else if op = 50 then (if sg = 3 then some st else none) else if op = 51 ∨ op = 52 then (if sg = 2 then some st else none) else some st
def Okst (st : List Int) : Prop := ∀ c ∈ st, c = 1 ∨ c = 2 ∨ c = 3
abbrev oN (p : Prg) (x : Ins) (st : List Int) : List Ent := [bxP p, .box 63 [.own 2 st.length, .r (I (n3 st))], .row 49 1 ((cds st).map Enc.c), bxI x]
theorem last_cds {st : List Int} : (st = [] ∧ lastF (cds st) = 0 ∧ lastF st = 0) ∨ (0 < st.length ∧ lastF (cds st) = cd (lastF st)) := by
  cases h : st.getLast? with
  | none =>
    have h' : st = [] := by simpa using h
    subst h'
    exact .inl ⟨rfl, rfl, rfl⟩
  | some c =>
    right
    refine ⟨by cases st with | nil => cases h | cons => simp, ?_⟩
    unfold lastF cds
    rw [List.getLast?_map, h]; rfl
theorem last_mem {st : List Int} (h : 0 < st.length) : lastF st ∈ st := by
  have := last_at h
  exact List.mem_of_getElem? this
theorem last_eq {st : List Int} (hs : Okst st) {c : Int} (hc : c = 1 ∨ c = 2 ∨ c = 3) : (lastF (cds st) = cd c) ↔ lastF st = c := by
  rcases last_cds (st := st) with ⟨_, h1, h2⟩ | ⟨h1, h2⟩
  · rw [h1, h2]; rcases hc with rfl | rfl | rfl <;> decide
  · rw [h2]
    have := hs _ (last_mem h1)
    rcases hc with rfl | rfl | rfl <;> rcases this with h | h | h <;> rw [h] <;> decide
theorem n3_push {st : List Int} {c : Int} : n3 (st ++ [c]) = n3 st + (if c = 3 then 1 else 0) := by
  unfold n3
  rw [List.count_append]
  by_cases h : c = 3
  · subst h; simp
  · rw [if_neg h]; simp [h]
theorem n3_pop {st : List Int} {c : Int} (h : lastF st = c) (h0 : c ≠ 0) : n3 st = n3 st.dropLast + (if c = 3 then 1 else 0) := by
  have h1 : 0 < st.length := by
    cases st with
    | nil => exact absurd h.symm h0
    | cons => simp
  obtain ⟨l, d, rfl⟩ : ∃ l d, st = l ++ [d] := ⟨st.dropLast, st.getLast (by intro e; subst e; cases h1), (List.dropLast_concat_getLast _).symm⟩
  have h2 : d = c := by rw [← h]; unfold lastF; simp
  subst h2
  rw [n3_push, List.dropLast_concat]
theorem last_pos {st : List Int} {c : Int} (h : lastF st = c) (h0 : c ≠ 0) : 0 < st.length := by
  cases st with
  | nil => exact absurd h.symm h0
  | cons => simp
theorem pop_row {st : List Int} {m : Nat} (h : m + 1 = st.length) : ((cds st).map Enc.c).take m = (cds st.dropLast).map Enc.c := by
  rw [List.dropLast_eq_take, show st.length - 1 = m by omega, cds, cds, List.map_take, List.map_take]
theorem set_last {st : List Int} {m : Nat} (h : m + 1 = st.length) : ((cds st).map Enc.c).set m [.i .i64 44] = (cds (st.dropLast ++ [2])).map Enc.c := by
  obtain ⟨l, d, rfl⟩ : ∃ l d, st = l ++ [d] := ⟨st.dropLast, st.getLast (by intro e; subst e; simp at h), (List.dropLast_concat_getLast _).symm⟩
  have hm : m = l.length := by simp at h; omega
  subst hm
  rw [List.dropLast_concat]
  simp only [cds, List.map_append, List.map_cons, List.map_nil]
  rw [List.set_append, if_neg (by simp)]
  simp; rfl
theorem oEq {p : Prg} {x : Ins} {n : Nat} {k : Int} {rows : List (List FV)} {l st : List Int} {K : List (Slot × Value)} {O : List Ent} (h1 : n = l.length) (h2 : k = n3 l) (h3 : rows = (cds l).map Enc.c) : (bxP p :: .box 63 [.own 2 n, .r (I k)] :: .row 49 1 rows :: bxI x :: .sav K :: O).take 5 = oN p x ((some l).getD st) ++ [.sav K] := by subst h1 h2 h3; rfl
set_option maxHeartbeats 4000000 in
/-- (*frustum/isa.nesting).step -/
theorem c39' (p : Prg) (x : Ins) (st : List Int) (op : Int) (n : Nat) (hn : n = st.length) (hs : Okst st) (hl : st.length ≤ 16384) : FnX Try.prog 39 [2] [.box 1 0, .r (A p), .r (I op)] (.one (B (nx p.st op st).isSome)) [bxP p, .box 63 [.own 2 n, .r (I (n3 st))], .row 49 1 ((cds st).map Enc.c), bxI x] (oN p x ((nx p.st op st).getD st)) := by
  refine fnX_of Try.func39 Try.ntmps39 (fun K hK hKf => ?_)
  have hK5 : (Ent.sav K).under 5 = true := savU (n := 4) hK (by decide)
  have hK6 : (Ent.sav K).under 6 = true := savU (n := 4) hK (by decide)
  have hn3 : 0 ≤ n3 st ∧ n3 st ≤ 16384 := ⟨by unfold n3; omega, by unfold n3; have := List.count_le_length (a := (3 : Int)) (l := st); omega⟩
  have t1 := last_eq hs (c := 1) (by decide)
  have t2 := last_eq hs (c := 2) (by decide)
  have t3 := last_eq hs (c := 3) (by decide)
  simp only [cd] at t1 t2 t3
  refine sg ?_
  refine bx _ ?_
  refine as_ ?_
  refine rNil ?_
  refine sq ?_
  refine sg ?_
  refine mv ?_
  refine rNil ?_
  refine bk ?_
  refine sg ?_
  refine bo (hz := by exact rfl) ?_
  refine as_ ?_
  refine rNil ?_
  refine cn (fun h1 => ?_) (fun h1 => ?_)
  ·
    have e1 : op = 43 := by simpa using h1
    subst e1
    refine rg ?_
    refine mv ?_
    refine mv ?_
    first | refine nc ?_ | refine ncF ?_
    first | refine ff ?_ | refine fb ?_ | refine fo ?_
    first | refine l1f ?_ | refine l1b ?_ | refine l1o ?_
    refine bs ?_
    first | refine ap ?_ | refine (apN _) ?_
    first | refine nc ?_ | refine ncF ?_
    first | refine ff ?_ | refine fb ?_ | refine fo ?_
    first | refine s1 ?_ | refine s1w ?_
    refine rNil ?_
    refine bn_ ?_
    refine tn ?_
    refine sg ?_
    refine as_ ?_
    refine rNil ?_
    refine awp_ret ?_
    have hx : nx p.st 43 st = some (st ++ [1]) := by simp [nx]
    exact xl1 5 (.inr rfl) rfl (by ((repeat apply Look.there rfl); exact Look.here)) (by rw [hx]; rfl) (by rw [hx]; exact oEq (by simp [hn]) (by rw [n3_push]; simp) (by simp [cd]; rfl)) (un5 hK5) -- LEAF 1: ret
  ·
    refine sg ?_
    refine bo (hz := by exact rfl) ?_
    refine as_ ?_
    refine rNil ?_
    refine cn (fun h2 => ?_) (fun h2 => ?_)
    ·
      have e1 : op = 44 := by simpa using h2
      subst e1
      refine sq ?_
      refine sg ?_
      refine mv ?_
      refine clR [1, 2] (c55 (cds st) (n3 st) (by simpa using hl)) ?_
      refine bo (hz := by exact rfl) ?_
      refine rNil ?_
      refine cn (fun h3 => ?_) (fun h3 => ?_)
      ·
        have e2 : lastF st ≠ 1 := fun e => by simp [t1.2 e] at h3
        refine sg ?_
        refine as_ ?_
        refine rNil ?_
        refine awp_ret ?_
        refine tr ?_
        refine br ?_
        refine tr ?_
        have hx : nx p.st 44 st = none := by simp [nx, e2]
        exact xl1 5 (.inr rfl) rfl (by ((repeat apply Look.there rfl); exact Look.here)) (by rw [hx]; rfl) (by rw [hx]; simp [hn]) (un5 hK5) -- LEAF 2: ret
      ·
        have e2 : lastF st = 1 := t1.1 (by simpa using h3)
        obtain ⟨m, rfl⟩ : ∃ m, n = m + 1 := ⟨n - 1, by have := last_pos e2 (by decide); omega⟩
        refine awp_skip ?_
        refine tn ?_
        refine rd mixO ?_
        refine mv ?_
        first | refine nc ?_ | refine ncF ?_
        first | refine ff ?_ | refine fb ?_ | refine fo ?_
        first | refine l1f ?_ | refine l1b ?_ | refine l1o ?_
        refine mv ?_
        first | refine nc ?_ | refine ncF ?_
        first | refine ff ?_ | refine fb ?_ | refine fo ?_
        first | refine l1f ?_ | refine l1b ?_ | refine l1o ?_
        first | refine lnM ?_ | refine ln ?_ | refine lnO ?_ | refine lnN ?_ | refine lnW ?_ | refine lnS ?_
        refine bo (hz := by first | exact bop_sub (by omega) (by omega) | exact rfl) ?_
        first | refine xs_ ?_ | refine xo ?_ | refine xw ?_ | refine xsl ?_
        refine so m 0 (cs := [.i .i64 (cd (lastF st))]) ?_ (ho := by omega) (hi := by rw [List.getElem?_map, List.getElem?_map, show m = ((st.length : Int) - 1).toNat by omega, last_at (last_pos e2 (by decide))]; rfl)
        refine rNil ⟨rfl, ?_⟩
        refine bn_ ?_
        refine tn ?_
        refine sg ?_
        refine as_ ?_
        refine rNil ?_
        refine awp_ret ?_
        have hx : nx p.st 44 st = some (st.dropLast ++ [2]) := by simp [nx, e2]
        exact xl1 5 (.inr rfl) rfl (by ((repeat apply Look.there rfl); exact Look.here)) (by rw [hx]; rfl) (by rw [hx]; exact oEq (by simp; omega) (by rw [n3_push, n3_pop e2 (by decide)]; simp) (set_last hn)) (un5 hK5) -- LEAF 3: ret
    ·
      refine sg ?_
      refine bo (hz := by exact rfl) ?_
      refine as_ ?_
      refine rNil ?_
      refine cn (fun h4 => ?_) (fun h4 => ?_)
      ·
        have e1 : op = 45 := by simpa using h4
        subst e1
        refine sq ?_
        refine sg ?_
        refine mv ?_
        refine clR [1, 2] (c55 (cds st) (n3 st) (by simpa using hl)) ?_
        refine bo (hz := by exact rfl) ?_
        refine mv ?_
        refine gd (fun h5 => ?_) (fun h5 => ?_)
        ·
          have e2 : lastF st ≠ 1 := fun e => by simp [t1.2 e] at h5
          refine mv ?_
          refine clR [1, 2] (c55 (cds st) (n3 st) (by simpa using hl)) ?_
          refine bo (hz := by exact rfl) ?_
          refine pkT ?_
          refine rNil ?_
          refine cn (fun h6 => ?_) (fun h6 => ?_)
          ·
            have e3 : lastF st ≠ 2 := fun e => by simp [t2.2 e] at h6
            refine sg ?_
            refine as_ ?_
            refine rNil ?_
            refine awp_ret ?_
            refine tr ?_
            refine br ?_
            refine tr ?_
            have hx : nx p.st 45 st = none := by simp [nx, e2, e3]
            exact xl1 5 (.inr rfl) rfl (by ((repeat apply Look.there rfl); exact Look.here)) (by rw [hx]; rfl) (by rw [hx]; simp [hn]) (un5 hK5) -- LEAF 4: ret
          ·
            have e3 : lastF st = 2 := t2.1 (by simpa using h6)
            obtain ⟨m, rfl⟩ : ∃ m, n = m + 1 := ⟨n - 1, by have := last_pos e3 (by decide); omega⟩
            refine awp_skip ?_
            refine tn ?_
            refine rgX 1 ?_
            refine mv ?_
            refine rNil ?_
            refine cx (hF := c56 1 2 m rfl rfl (by simp; omega) rfl (fun r hr1 hr2 => by rcases r with _ | _ | _ | _ | _ | _ | r <;> first | rfl | exact hKf | exact absurd rfl hr1 | exact absurd rfl hr2) (by simp) (by simp)) (hO := un6 hK6) ?_
            refine rNil ?_
            refine bn_ ?_
            refine tn ?_
            refine sg ?_
            refine as_ ?_
            refine rNil ?_
            refine awp_ret ?_
            have hx : nx p.st 45 st = some st.dropLast := by simp [nx, e3]
            exact xl1 5 (.inr rfl) rfl (by ((repeat apply Look.there rfl); exact Look.here)) (by rw [hx]; rfl) (by rw [hx]; exact oEq (by simp; omega) (by rw [n3_pop e3 (by decide)]; simp) (pop_row hn)) (un5 hK5) -- LEAF 5: ret
        ·
          have e2 : lastF st = 1 := t1.1 (by simpa using h5)
          obtain ⟨m, rfl⟩ : ∃ m, n = m + 1 := ⟨n - 1, by have := last_pos e2 (by decide); omega⟩
          refine no ?_
          refine no ?_
          refine no ?_
          refine pkF ?_
          refine rNil ?_
          refine cn (fun h7 => ?_) (fun h7 => ?_)
          ·
            first | exact absurd h7 (by decide) | (exfalso; simp_all; done)
          ·
            refine awp_skip ?_
            refine tn ?_
            refine rgX 1 ?_
            refine mv ?_
            refine rNil ?_
            refine cx (hF := c56 1 2 m rfl rfl (by simp; omega) rfl (fun r hr1 hr2 => by rcases r with _ | _ | _ | _ | _ | _ | r <;> first | rfl | exact hKf | exact absurd rfl hr1 | exact absurd rfl hr2) (by simp) (by simp)) (hO := un6 hK6) ?_
            refine rNil ?_
            refine bn_ ?_
            refine tn ?_
            refine sg ?_
            refine as_ ?_
            refine rNil ?_
            refine awp_ret ?_
            have hx : nx p.st 45 st = some st.dropLast := by simp [nx, e2]
            exact xl1 5 (.inr rfl) rfl (by ((repeat apply Look.there rfl); exact Look.here)) (by rw [hx]; rfl) (by rw [hx]; exact oEq (by simp; omega) (by rw [n3_pop e2 (by decide)]; simp) (pop_row hn)) (un5 hK5) -- LEAF 6: ret
      ·
        refine sg ?_
        refine bo (hz := by exact rfl) ?_
        refine as_ ?_
        refine rNil ?_
        refine cn (fun h8 => ?_) (fun h8 => ?_)
        ·
          have e1 : op = 46 := by simpa using h8
          subst e1
          refine sq ?_
          refine sg ?_
          refine mv ?_
          first | refine nc ?_ | refine ncF ?_
          first | refine ff ?_ | refine fb ?_ | refine fo ?_
          first | refine l1f ?_ | refine l1b ?_ | refine l1o ?_
          refine bo (hz := by exact rfl) ?_
          refine rNil ?_
          refine cn (fun h9 => ?_) (fun h9 => ?_)
          ·
            have e2 : ¬ n3 st < 3 := by simpa using h9
            refine sg ?_
            refine as_ ?_
            refine rNil ?_
            refine awp_ret ?_
            refine tr ?_
            refine br ?_
            refine tr ?_
            have hx : nx p.st 46 st = none := by simp [nx, e2]
            exact xl1 5 (.inr rfl) rfl (by ((repeat apply Look.there rfl); exact Look.here)) (by rw [hx]; rfl) (by rw [hx]; simp [hn]) (un5 hK5) -- LEAF 7: ret
          ·
            have e2 : n3 st < 3 := by simpa using h9
            refine awp_skip ?_
            refine tn ?_
            refine sg ?_
            refine mv ?_
            first | refine nc ?_ | refine ncF ?_
            first | refine ff ?_ | refine fb ?_ | refine fo ?_
            first | refine l1f ?_ | refine l1b ?_ | refine l1o ?_
            refine bo (hz := by first | exact bop_add (by omega) (by omega) | exact rfl) ?_
            first | refine nc ?_ | refine ncF ?_
            first | refine ff ?_ | refine fb ?_ | refine fo ?_
            first | refine s1 ?_ | refine s1w ?_
            refine rNil ?_
            refine rg ?_
            refine mv ?_
            refine mv ?_
            first | refine nc ?_ | refine ncF ?_
            first | refine ff ?_ | refine fb ?_ | refine fo ?_
            first | refine l1f ?_ | refine l1b ?_ | refine l1o ?_
            refine bs ?_
            first | refine ap ?_ | refine (apN _) ?_
            first | refine nc ?_ | refine ncF ?_
            first | refine ff ?_ | refine fb ?_ | refine fo ?_
            first | refine s1 ?_ | refine s1w ?_
            refine rNil ?_
            refine bn_ ?_
            refine tn ?_
            refine sg ?_
            refine as_ ?_
            refine rNil ?_
            refine awp_ret ?_
            have hx : nx p.st 46 st = some (st ++ [3]) := by simp [nx, e2]
            exact xl1 5 (.inr rfl) rfl (by ((repeat apply Look.there rfl); exact Look.here)) (by rw [hx]; rfl) (by rw [hx]; exact oEq (by simp [hn]) (by rw [n3_push]; simp) (by simp [cd]; rfl)) (un5 hK5) -- LEAF 8: ret
        ·
          refine sg ?_
          refine bo (hz := by exact rfl) ?_
          refine as_ ?_
          refine rNil ?_
          refine cn (fun h10 => ?_) (fun h10 => ?_)
          ·
            have e1 : op = 49 := by simpa using h10
            subst e1
            refine sq ?_
            refine sg ?_
            refine mv ?_
            refine clR [1, 2] (c55 (cds st) (n3 st) (by simpa using hl)) ?_
            refine bo (hz := by exact rfl) ?_
            refine rNil ?_
            refine cn (fun h11 => ?_) (fun h11 => ?_)
            ·
              have e2 : lastF st ≠ 3 := fun e => by simp [t3.2 e] at h11
              refine sg ?_
              refine as_ ?_
              refine rNil ?_
              refine awp_ret ?_
              refine tr ?_
              refine br ?_
              refine tr ?_
              have hx : nx p.st 49 st = none := by simp [nx, e2]
              exact xl1 5 (.inr rfl) rfl (by ((repeat apply Look.there rfl); exact Look.here)) (by rw [hx]; rfl) (by rw [hx]; simp [hn]) (un5 hK5) -- LEAF 9: ret
            ·
              have e2 : lastF st = 3 := t3.1 (by simpa using h11)
              obtain ⟨m, rfl⟩ : ∃ m, n = m + 1 := ⟨n - 1, by have := last_pos e2 (by decide); omega⟩
              refine awp_skip ?_
              refine tn ?_
              refine sg ?_
              refine mv ?_
              first | refine nc ?_ | refine ncF ?_
              first | refine ff ?_ | refine fb ?_ | refine fo ?_
              first | refine l1f ?_ | refine l1b ?_ | refine l1o ?_
              refine bo (hz := by first | exact bop_sub (by omega) (by omega) | exact rfl) ?_
              first | refine nc ?_ | refine ncF ?_
              first | refine ff ?_ | refine fb ?_ | refine fo ?_
              first | refine s1 ?_ | refine s1w ?_
              refine rNil ?_
              refine rgX 1 ?_
              refine mv ?_
              refine rNil ?_
              refine cx (hF := c56 1 2 m rfl rfl (by simp; omega) rfl (fun r hr1 hr2 => by rcases r with _ | _ | _ | _ | _ | _ | r <;> first | rfl | exact hKf | exact absurd rfl hr1 | exact absurd rfl hr2) (by simp) (by simp)) (hO := un6 hK6) ?_
              refine rNil ?_
              refine bn_ ?_
              refine tn ?_
              refine sg ?_
              refine as_ ?_
              refine rNil ?_
              refine awp_ret ?_
              have hx : nx p.st 49 st = some st.dropLast := by simp [nx, e2]
              exact xl1 5 (.inr rfl) rfl (by ((repeat apply Look.there rfl); exact Look.here)) (by rw [hx]; rfl) (by rw [hx]; exact oEq (by simp; omega) (by rw [n3_pop e2 (by decide)]; simp) (pop_row hn)) (un5 hK5) -- LEAF 10: ret
          ·
            refine sq ?_
            refine sg ?_
            refine bo (hz := by exact rfl) ?_
            refine as_ ?_
            refine rNil ?_
            refine cn (fun h12 => ?_) (fun h12 => ?_)
            ·
              refine awp_skip ?_
              refine tn ?_
              refine cn (fun h13 => ?_) (fun h13 => ?_)
              ·
                refine sg ?_
                refine mv ?_
                first | refine nc ?_ | refine ncF ?_
                first | refine ff ?_ | refine fb ?_ | refine fo ?_
                first | refine l1f ?_ | refine l1b ?_ | refine l1o ?_
                refine bo (hz := by exact rfl) ?_
                refine as_ ?_
                refine rNil ?_
                refine awp_ret ?_
                refine br ?_
                refine tr ?_
                have e1 : op = 47 := by simpa using h12
                subst e1
                have hx : nx p.st 47 st = if 0 < n3 st then some st else none := by simp [nx]
                exact xl1 5 (.inr rfl) rfl (by ((repeat apply Look.there rfl); exact Look.here)) (by rw [hx]; by_cases hc : 0 < n3 st <;> simp [hc]) (by rw [hx]; by_cases hc : 0 < n3 st <;> simp [hc, hn]) (un5 hK5) -- LEAF 11: ret
              ·
                first | exact absurd h13 (by decide) | (exfalso; simp_all; done)
            ·
              refine rg ?_
              refine bo (hz := by exact rfl) ?_
              refine as_ ?_
              refine rNil ?_
              refine tn ?_
              refine cn (fun h14 => ?_) (fun h14 => ?_)
              ·
                refine sg ?_
                refine mv ?_
                first | refine nc ?_ | refine ncF ?_
                first | refine ff ?_ | refine fb ?_ | refine fo ?_
                first | refine l1f ?_ | refine l1b ?_ | refine l1o ?_
                refine bo (hz := by exact rfl) ?_
                refine as_ ?_
                refine rNil ?_
                refine awp_ret ?_
                refine br ?_
                refine tr ?_
                have e1 : op = 48 := by simpa using h14
                subst e1
                have hx : nx p.st 48 st = if 0 < n3 st then some st else none := by simp [nx]
                exact xl1 5 (.inr rfl) rfl (by ((repeat apply Look.there rfl); exact Look.here)) (by rw [hx]; by_cases hc : 0 < n3 st <;> simp [hc]) (by rw [hx]; by_cases hc : 0 < n3 st <;> simp [hc, hn]) (un5 hK5) -- LEAF 12: ret
              ·
                refine sg ?_
                refine bo (hz := by exact rfl) ?_
                refine as_ ?_
                refine rNil ?_
                refine cn (fun h15 => ?_) (fun h15 => ?_)
                ·
                  refine sg ?_
                  first | refine ff ?_ | refine fb ?_ | refine fo ?_
                  first | refine l1f ?_ | refine l1b ?_ | refine l1o ?_
                  refine bo (hz := by exact rfl) ?_
                  refine as_ ?_
                  refine rNil ?_
                  refine awp_ret ?_
                  refine br ?_
                  refine tr ?_
                  have e1 : op = 50 := by simpa using h15
                  subst e1
                  have hx : nx p.st 50 st = if p.st = 3 then some st else none := by simp [nx]
                  exact xl1 5 (.inr rfl) rfl (by ((repeat apply Look.there rfl); exact Look.here)) (by rw [hx]; by_cases hc : p.st = 3 <;> simp [hc]) (by rw [hx]; by_cases hc : p.st = 3 <;> simp [hc, hn]) (un5 hK5) -- LEAF 13: ret
                ·
                  refine sq ?_
                  refine sg ?_
                  refine bo (hz := by exact rfl) ?_
                  refine as_ ?_
                  refine rNil ?_
                  refine cn (fun h16 => ?_) (fun h16 => ?_)
                  ·
                    refine awp_skip ?_
                    refine tn ?_
                    refine cn (fun h17 => ?_) (fun h17 => ?_)
                    ·
                      refine sg ?_
                      first | refine ff ?_ | refine fb ?_ | refine fo ?_
                      first | refine l1f ?_ | refine l1b ?_ | refine l1o ?_
                      refine bo (hz := by exact rfl) ?_
                      refine as_ ?_
                      refine rNil ?_
                      refine awp_ret ?_
                      refine br ?_
                      refine tr ?_
                      have e1 : op = 51 := by simpa using h16
                      subst e1
                      have hx : nx p.st 51 st = if p.st = 2 then some st else none := by simp [nx]
                      exact xl1 5 (.inr rfl) rfl (by ((repeat apply Look.there rfl); exact Look.here)) (by rw [hx]; by_cases hc : p.st = 2 <;> simp [hc]) (by rw [hx]; by_cases hc : p.st = 2 <;> simp [hc, hn]) (un5 hK5) -- LEAF 14: ret
                    ·
                      first | exact absurd h17 (by decide) | (exfalso; simp_all; done)
                  ·
                    refine rg ?_
                    refine bo (hz := by exact rfl) ?_
                    refine as_ ?_
                    refine rNil ?_
                    refine tn ?_
                    refine cn (fun h18 => ?_) (fun h18 => ?_)
                    ·
                      refine sg ?_
                      first | refine ff ?_ | refine fb ?_ | refine fo ?_
                      first | refine l1f ?_ | refine l1b ?_ | refine l1o ?_
                      refine bo (hz := by exact rfl) ?_
                      refine as_ ?_
                      refine rNil ?_
                      refine awp_ret ?_
                      refine br ?_
                      refine tr ?_
                      have e1 : op = 52 := by simpa using h18
                      subst e1
                      have hx : nx p.st 52 st = if p.st = 2 then some st else none := by simp [nx]
                      exact xl1 5 (.inr rfl) rfl (by ((repeat apply Look.there rfl); exact Look.here)) (by rw [hx]; by_cases hc : p.st = 2 <;> simp [hc]) (by rw [hx]; by_cases hc : p.st = 2 <;> simp [hc, hn]) (un5 hK5) -- LEAF 15: ret
                    ·
                      refine awp_skip ?_
                      refine bn_ ?_
                      refine tn ?_
                      refine sg ?_
                      refine as_ ?_
                      refine rNil ?_
                      refine awp_ret ?_
                      have hx : nx p.st op st = some st := by simp_all [nx]
                      exact xl1 5 (.inr rfl) rfl (by ((repeat apply Look.there rfl); exact Look.here)) (by rw [hx]; rfl) (by rw [hx]; simp [hn]) (un5 hK5) -- LEAF 16: ret

end Go.Proofs.Ytnhljpbpfaablaa.VS
