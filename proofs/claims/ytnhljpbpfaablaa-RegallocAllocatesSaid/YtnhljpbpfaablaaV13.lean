/- Value semantics, part 13: slices cut; closures that share the caller's variables. Conditions: none. -/
import Derived.Test.YtnhljpbpfaablaaV12
set_option linter.unusedSimpArgs false
set_option linter.unusedVariables false
namespace Go.Proofs.Ytnhljpbpfaablaa.VS
open Go Go.RowKit

/-! ### 1. x[l:h] -/
theorem cut_rep {w : World} {ok : Nat → Prop} {xs : List (List FV)} {A : Option Addr} {n c sz l h : Nat} (hr : FRep w ok (.sl xs) (.slice A n c)) (hs : ∀ x ∈ xs, x.length = sz) (hl : l ≤ h) (hh : h ≤ xs.length) :
    FRep w ok (.sl ((xs.drop l).take (h - l))) (.slice (if c = l then A else A.map (·.add (l * sz))) (h - l) (c - l)) := by
  cases hr with
  | sl _ _ _ _ sz' vs hn hc hm hsz hA hv hz =>
    have hlen : ((xs.drop l).take (h - l)).length = h - l := by rw [List.length_take, List.length_drop]; omega
    have hget : ∀ (j : Nat) (x : List FV), ((xs.drop l).take (h - l))[j]? = some x → xs[l + j]? = some x := by
      intro j x hj
      rw [List.getElem?_take] at hj
      split at hj
      · rwa [List.getElem?_drop] at hj
      · cases hj
    have hmem : ∀ x ∈ (xs.drop l).take (h - l), x ∈ xs := fun x hx => List.mem_of_mem_drop (List.mem_of_mem_take hx)
    refine .sl _ _ _ _ sz (fun j i => vs (l + j) i) hlen.symm (by omega) (by omega) (fun x hx => hs x (hmem x hx)) (fun hp => ?_) (fun j i x y hj hi => hv (l + j) i x y (hget j x hj) hi) (fun hnone => ?_)
    · obtain ⟨ad, rfl, hcell⟩ := hA (by omega)
      rw [if_neg (by omega)]
      refine ⟨ad.add (l * sz), rfl, fun j i hj hi => ?_⟩
      obtain ⟨x, hx⟩ : ∃ x, xs[l + j]? = some x := ⟨xs[l + j]'(by omega), by simp⟩
      have e1 : sz' = sz := by
        rw [← hsz x (List.mem_of_getElem? hx), hs x (List.mem_of_getElem? hx)]
      subst e1
      obtain ⟨h1, h2⟩ := hcell (l + j) i (by omega) hi
      rw [add_block, add_add]
      refine ⟨h1, ?_⟩
      rw [← h2]
      congr 2
      rw [Nat.add_mul]; omega
    · cases A with
      | none => have := hz rfl; omega
      | some ad =>
        split at hnone
        · cases hnone
        · cases hnone
/-- A bound of a cut, or none. -/
inductive Bnd (E : List (Nat × Slot)) (d : Nat) : Option Operand → Nat → Prop
  | none : Bnd E d .none d
  | some {o : Operand} {k : IntKind} {n : Nat} (h : Opd E o (.r (.v (.i k (n : Int))))) : Bnd E d (.some o) n
theorem run_bound {P : Program} {w : World} {k : IntKind} {n m : Nat} {code : BoundsCode} (h : n ≤ m) : (Instr.sliceBound (.int k (n : Int)) m code).run P w = .ok n w := by
  have h0 : (0 : Int) ≤ n := by omega
  have h1 : (n : Int) ≤ m := by omega
  simp [Instr.sliceBound, asIntOf, h0, h1, go_sem]
theorem run_cutb {P : Program} {w : World} {lo hi : Option Value} {a z n c : Nat} (h1 : (lo = none ∧ a = 0) ∨ ∃ k : IntKind, lo = some (.int k (a : Int))) (h2 : (hi = none ∧ z = n) ∨ ∃ k : IntKind, hi = some (.int k (z : Int))) (haz : a ≤ z) (hz : z ≤ c) : (Instr.sliceBounds true n c lo hi none).run P w = .ok (a, z, c) w := by
  rcases h1 with ⟨rfl, rfl⟩ | ⟨k, rfl⟩ <;> rcases h2 with ⟨rfl, rfl⟩ | ⟨k', rfl⟩ <;> simp [Instr.sliceBounds, run_bound, haz, hz]
section
variable {P : Program} {ops : Array Oper} {N : Nat} {fin : St → List Rec → Prop} {l : List Oper} {E : List (Nat × Slot)} {O : List Ent} {rs : List Rec} {d : Nat} {ty : TypeId} {pos : String} {after : Array Edge} {g : Option (Nat × Bool)}
theorem rCut {x : Operand} {lo hi : Option Operand} {t e sz b a z : Nat} [Sli P t e sz b] {xs : List (List FV)} (hx : Opd E x (.r (.v (.sl xs)))) (hlo : Bnd E 0 lo a) (hhi : Bnd E xs.length hi z) (hs : ∀ x ∈ xs, x.length = sz) (haz : a ≤ z) (hz : z ≤ xs.length) (hd : d < N) (hw : W ops E g)
    (k : Runs P ops N fin l ⟨(d, .r (.v (.sl ((xs.drop a).take (z - a))))) :: E, O⟩ (⟨.r (.v (.sl ((xs.drop a).take (z - a)))), none, []⟩ :: rs)) : Runs P ops N fin (⟨some d, .slice t x lo hi none, ty, pos, after, g⟩ :: l) ⟨E, O⟩ rs :=
  rPure hd hw (fun w ok ρ ents' ac hr _ _ => by
    have h1 := hr x (by simp [Op.operands]); rw [hx.eq] at h1
    have h1 : FRep w ok (.sl xs) (ac.eval x) := h1
    obtain ⟨i, ht, hi', hsz, _⟩ := Sli.spec (P := P) t e sz b
    generalize hv : ac.eval x = v at h1
    have h2 := h1
    cases h2 with
    | sl _ A n c sz' vs hn hc hm hsz' hA hv' hz' =>
      have hrlo : (lo.map ac.eval = none ∧ a = 0) ∨ ∃ kk : IntKind, lo.map ac.eval = some (.int kk (a : Int)) := by
        cases hlo with
        | none => exact .inl ⟨rfl, rfl⟩
        | some ho =>
          rename_i o kk
          have h3 := hr o (by simp [Op.operands]); rw [ho.eq] at h3
          have h3 : FRep w ok (.i kk a) (ac.eval o) := h3
          refine .inr ⟨kk, ?_⟩
          rw [Option.map_some]
          generalize ac.eval o = u at h3
          cases h3; rfl
      have hrhi : (hi.map ac.eval = none ∧ z = n) ∨ ∃ kk : IntKind, hi.map ac.eval = some (.int kk (z : Int)) := by
        cases hhi with
        | none => exact .inl ⟨rfl, hn.symm⟩
        | some ho =>
          rename_i o kk
          have h3 := hr o (by simp [Op.operands]); rw [ho.eq] at h3
          have h3 : FRep w ok (.i kk z) (ac.eval o) := h3
          refine .inr ⟨kk, ?_⟩
          rw [Option.map_some]
          generalize ac.eval o = u at h3
          cases h3; rfl
      have hb := run_cutb (P := P) (w := w) (n := n) (c := c) hrlo hrhi haz (by omega)
      refine ⟨_, ?_, cut_rep h1 hs haz hz⟩
      simp only [execOp, hv, Instr.sliceAt, Sem.run_bind, run_underlying ht, Result.andThen_ok, Option.map_none]
      simp only [Instr.slice, Sem.run_bind, run_underlying ht, Result.andThen_ok, hb, sizeOf, typeInfo, run_program, hi', Sem.run_pure, hsz]) k
/-- The operands of a closure: pointers to variables. -/
inductive Caps (E : List (Nat × Slot)) : List Operand → List Nat → Prop
  | nil : Caps E [] []
  | cons {x : Operand} {p : Nat} {l : List Operand} {ps : List Nat} (h : Opd E x (.box p 0)) (k : Caps E l ps) : Caps E (x :: l) (p :: ps)
theorem Caps.rep {E : List (Nat × Slot)} {l : List Operand} {ps : List Nat} (h : Caps E l ps) {w : World} {ok : Nat → Prop} {ents : Nat → Ent} {ρ : Nat → Value} {a : Act} (hr : ∀ x ∈ l, SlotRep w ok ents ρ (ev (look E) x) (a.eval x)) : All2 (BoxRep ents ρ) ps (l.map a.eval) := by
  induction h with
  | nil => exact .nil
  | cons hx _ ih =>
    refine .cons ?_ (ih fun y hy => hr y (.tail _ hy))
    have h1 := hr _ (.head _)
    rw [hx.eq] at h1
    exact h1
theorem rMf {f : FuncId} {cap : Array Operand} {ps : List Nat} (hc : Caps E cap.toList ps) (hd : d < N) (hw : W ops E g) (k : Runs P ops N fin l ⟨(d, .clo f ps) :: E, O⟩ (⟨.clo f ps, none, []⟩ :: rs)) :
    Runs P ops N fin (⟨some d, .makeFunc (.func f) #[] cap, ty, pos, after, g⟩ :: l) ⟨E, O⟩ rs :=
  rPure hd hw (fun w ok ρ ents' a hr _ _ => by
    refine ⟨.func (.func f) #[] (cap.map a.eval), ?_, cap.toList.map a.eval, by rw [← Array.toList_map, Array.toArray_toList], hc.rep fun x hx => hr x (by simp only [Op.operands]; simpa using hx)⟩
    simp [execOp, Instr.makeFunc]) k
theorem mf {f : FuncId} {cap : Array Operand} {ps : List Nat} (k : Runs P ops N fin l ⟨(d, .clo f ps) :: E, O⟩ (⟨.clo f ps, none, []⟩ :: rs)) (hc : Caps E cap.toList ps := by ((repeat apply Caps.cons (by first | exact Opd.int _ _ | exact Opd.bool _ | exact Opd.nil | exact Opd.fn _ | exact Opd.str _ | (apply Opd.tmp; ((repeat apply Look.there rfl); exact Look.here)))); exact Caps.nil)) (hd : d < N := by decide) (hw : W ops E g := by first | exact W.none | (apply wof rfl; ((repeat apply Look.there rfl); exact Look.here); first | assumption | exact rfl)) :
    Runs P ops N fin (⟨some d, .makeFunc (.func f) #[] cap, ty, pos, after, g⟩ :: l) ⟨E, O⟩ rs := rMf hc hd hw k
/-- A cut; the bounds are given. -/
theorem ct (a z : Nat) {x : Operand} {lo hi : Option Operand} {t e sz b : Nat} [Sli P t e sz b] {xs : List (List FV)} (k : Runs P ops N fin l ⟨(d, .r (.v (.sl ((xs.drop a).take (z - a))))) :: E, O⟩ (⟨.r (.v (.sl ((xs.drop a).take (z - a)))), none, []⟩ :: rs))
    (hx : Opd E x (.r (.v (.sl xs))) := by first | exact Opd.int _ _ | exact Opd.bool _ | exact Opd.nil | exact Opd.fn _ | exact Opd.str _ | (apply Opd.tmp; ((repeat apply Look.there rfl); exact Look.here))) (hlo : Bnd E 0 lo a := by first | exact Bnd.none | exact Bnd.some (by first | exact Opd.int _ _ | exact Opd.bool _ | exact Opd.nil | exact Opd.fn _ | exact Opd.str _ | (apply Opd.tmp; ((repeat apply Look.there rfl); exact Look.here)))) (hhi : Bnd E xs.length hi z := by first | exact Bnd.none | exact Bnd.some (by first | exact Opd.int _ _ | exact Opd.bool _ | exact Opd.nil | exact Opd.fn _ | exact Opd.str _ | (apply Opd.tmp; ((repeat apply Look.there rfl); exact Look.here)))) (hs : ∀ x ∈ xs, x.length = sz := by (intro y hy; obtain ⟨a, _, rfl⟩ := List.mem_map.1 hy; rfl)) (haz : a ≤ z := by omega) (hz : z ≤ xs.length := by first | omega | (simp; omega)) (hd : d < N := by decide) (hw : W ops E g := by first | exact W.none | (apply wof rfl; ((repeat apply Look.there rfl); exact Look.here); first | assumption | exact rfl)) :
    Runs P ops N fin (⟨some d, .slice t x lo hi none, ty, pos, after, g⟩ :: l) ⟨E, O⟩ rs := rCut hx hlo hhi hs haz hz hd hw k
end

/-! ### 2. A closure's body, over the caller's variables -/
structure EntsR (w0 : World) (ok0 : Nat → Prop) (ρ : Nat → Value) (ents : Nat → Ent) (w : World) : Prop where
  below : Below w0.heap.size w0 w
  inj : ∀ p q g, (ents p).live → (ents q).live → blk (ρ p) = some g → blk (ρ q) = some g → p = q
  ent : ∀ p, EntRep w (okS w0 ok0 ents ρ) ents ρ w0.heap.size p (ents p)
def entO (O : List Ent) : Nat → Ent := fun p => O.getD p .gone
/-- Called with these data and these variables the closure turns the entries so; what else the caller holds (K) stands. -/
def FnC (P : Program) (f : FuncId) (xs : List RV) (ps : List Nat) (O O' : List Ent) : Prop :=
  ∀ (w0 : World) (ok0 : Nat → Prop) (ρ : Nat → Value) (w : World) (vs us : List Value) (K : List (Slot × Value)), EntsR w0 ok0 ρ (entO (O ++ [.sav K])) w → (K.all fun x => x.1.under O.length) = true →
    All2 (RV.rep w (okS w0 ok0 (entO (O ++ [.sav K])) ρ)) xs vs → All2 (BoxRep (entO (O ++ [.sav K])) ρ) ps us →
    Calls P f (vs ++ us).toArray w fun e w' => e = .returned (.tuple #[]) ∧ ∃ ρ', EntsR w0 ok0 ρ' (entO (O' ++ [.sav K])) w'
def slotEnv : Nat → List Slot → List (Nat × Slot)
  | _, [] => []
  | k, x :: l => (k, x) :: slotEnv (k + 1) l
theorem look_slotEnv : ∀ (l : List Slot) (k t : Nat), look (slotEnv k l) t = if k ≤ t then l.getD (t - k) .undef else .undef
  | [], k, t => by simp [slotEnv, look]
  | x :: l, k, t => by
    simp only [slotEnv, look]
    by_cases h : t = k
    · subst h; simp
    · have hb : Nat.beq k t = false := by rw [← Bool.not_eq_true, Nat.beq_eq]; omega
      rw [hb, cond_false, look_slotEnv l (k + 1) t]
      by_cases hk : k + 1 ≤ t
      · rw [if_pos hk, if_pos (by omega), show t - k = (t - (k + 1)) + 1 by omega]
        rfl
      · rw [if_neg hk, if_neg (by omega)]
def capEnv (xs : List RV) (ps : List Nat) : List (Nat × Slot) := slotEnv 0 (xs.map .r ++ ps.map (.box · 0))
theorem fnC_of {P : Program} {f : FuncId} {fn : Func} {c : Code} {N : Nat} {xs : List RV} {ps : List Nat} {O O' : List Ent} (hf : P.funcs[f]? = some fn) (hN : fn.ntmps = N) (h : ∀ K : List (Slot × Value), (K.all fun x => x.1.under O.length) = true → (∀ x ∈ xs, ∀ y ∈ x.flat, Bd y) →
      AWP P N c (fun e S => (e = .normal ∨ e = .ret) ∧ Wk N S (fun S0 => S0.ents = O' ++ [.sav K])) ⟨capEnv xs ps, O ++ [.sav K]⟩) (hb : fn.body = some c := by exact rfl) (hn : xs.length + ps.length ≤ N := by exact Nat.le_of_ble_eq_true rfl) (hres : fn.results = #[] := by exact rfl) : FnC P f xs ps O O' := by
  subst hN
  intro w0 ok0 ρ w vs us K hE hK hxs hps
  have hbd : ∀ x ∈ xs, ∀ y ∈ x.flat, Bd y := by
    intro x hx y hy
    obtain ⟨i, hi⟩ := List.getElem?_of_mem hx
    obtain ⟨v, _, hv⟩ := hxs.get i x hi
    obtain ⟨j, hj⟩ := List.getElem?_of_mem hy
    obtain ⟨u, _, hu⟩ := hv.flat.get j y hj
    exact hu.bd
  have hl1 := hxs.length
  have hl2 := hps.length
  refine calls_of_wp hf hb (wp_mono (h K hK hbd w0 ok0 _ w ⟨ρ, ?_⟩) fun e a' w' hq => ?_)
  · refine ⟨by simp; omega, rfl, hE.below, hE.inj, hE.ent, fun t => ?_⟩
    show SlotRep _ _ _ _ (look (capEnv xs ps) t) _
    unfold capEnv
    rw [look_slotEnv, if_pos (Nat.zero_le _), Nat.sub_zero]
    have hget : ∀ u, (vs ++ us)[t]? = some u → ((vs ++ us).toArray ++ Array.replicate (fn.ntmps - (vs ++ us).toArray.size) Go.undef).getD t Go.undef = u := by
      intro u hu
      have hlt : t < (vs ++ us).length := (List.getElem?_eq_some_iff.1 hu).1
      rw [Array.getD_eq_getD_getElem?, Array.getElem?_append_left (by simpa using hlt)]
      simp only [List.getElem?_toArray, hu, Option.getD_some]
    by_cases h1 : t < xs.length
    · obtain ⟨x, hx⟩ : ∃ x, xs[t]? = some x := ⟨xs[t], by simp [h1]⟩
      obtain ⟨v, hv, hr⟩ := hxs.get t x hx
      rw [hget v (by rw [List.getElem?_append_left (by omega)]; exact hv)]
      have : (xs.map Slot.r ++ ps.map fun p => Slot.box p 0).getD t .undef = .r x := by
        rw [List.getD_eq_getElem?_getD, List.getElem?_append_left (by simpa using h1)]
        simp [hx]
      rw [this]
      exact hr
    · by_cases h2 : t < xs.length + ps.length
      · obtain ⟨p, hp⟩ : ∃ p, ps[t - xs.length]? = some p := ⟨ps[t - xs.length]'(by omega), by simp⟩
        obtain ⟨u, hu, hr⟩ := hps.get _ p hp
        rw [hget u (by rw [List.getElem?_append_right (by omega), ← hl1]; exact hu)]
        have : (xs.map Slot.r ++ ps.map fun p => Slot.box p 0).getD t .undef = .box p 0 := by
          rw [List.getD_eq_getElem?_getD, List.getElem?_append_right (by simpa using Nat.le_of_not_lt h1)]
          simp [hp]
        rw [this]
        exact hr
      · rw [List.getD_eq_getElem?_getD, List.getElem?_eq_none (by simp; omega)]
        trivial
  · obtain ⟨S, ⟨he, S0, hw, hS0⟩, hR⟩ := hq
    have hR2 := hw w0 ok0 a' w' hR
    obtain ⟨ρ', hR2⟩ := hR2
    have hS : S0.o = entO (O' ++ [.sav K]) := by rw [← hS0]; rfl
    rw [hS] at hR2
    have hrun : (results fn a'.tmps).run P w' = .ok (.tuple #[]) w' := by
      rw [results_eq, hres]
      simp
    have fin : (Ending.returned (.tuple #[]) : Ending) = .returned (.tuple #[]) ∧ ∃ ρ', EntsR w0 ok0 ρ' (entO (O' ++ [.sav K])) w' := ⟨rfl, ρ', hR2.below, hR2.inj, hR2.ent⟩
    rcases he with rfl | rfl
    · exact ⟨hR2.defers, _, hrun, fin⟩
    · exact ⟨hR2.defers, _, hrun, fin⟩
/-! ### 3. The call of a closure, last in its region -/
def CloCall (P : Program) (ops : Array Oper) (N : Nat) (o : Oper) (S : St) (M : St → Prop) : Prop :=
  ∀ (w0 : World) (ok0 : Nat → Prop) (a : Act) (w : World) (K : Act → World → Prop) (Q : Exit → Act → World → Prop), Rel N w0 ok0 S.e S.o a w → (∀ S2 a' w', M S2 → Rel N w0 ok0 S2.e S2.o a' w' → K a' w') →
    if Region.wanted o (yielded ops a.tmps) then o.wp P a w K Q else K (a.put o.dst Go.undef) w
theorem awp_region_last {P : Program} {N : Nat} {Q : Exit → St → Prop} {S : St} {id : Nat} {ops : Array Oper} {pre : List Oper} {o : Oper} (he : ops.toList = pre ++ [o]) (h : Runs P ops N (fun S1 _ => CloCall P ops N o S1 (Q .normal)) pre S []) : AWP P N (.region id ops false) Q S := by
  intro w0 ok0 a w hr
  refine wp_region_list ?_
  rw [he]
  clear he
  revert h hr
  generalize ([] : List Rec) = rs
  intro h hr
  induction pre generalizing S a w rs with
  | nil =>
    show if _ then _ ∨ _ else _
    have h : CloCall P ops N o S (Q .normal) := h
    have := h w0 ok0 a w (wpList P ops (lift N w0 ok0 Q) []) (lift N w0 ok0 Q) hr (fun S2 a' w' hm hr' => ⟨S2, hm, hr'⟩)
    by_cases hw : Region.wanted o (yielded ops a.tmps) = true
    · rw [if_pos hw] at this ⊢
      exact .inl this
    · rw [if_neg hw] at this ⊢
      exact this
  | cons o' l ih =>
    obtain ⟨r, hop, hfit, hrest⟩ := h
    show if _ then _ ∨ _ else _
    have := hop w0 ok0 S.e S.o a w (fun _ _ => rfl) (fun _ _ => rfl) hr (wpList P ops (lift N w0 ok0 Q) (l ++ [o])) (lift N w0 ok0 Q) (fun a' w' hr' => ih a' w' (r :: rs) hrest (by rw [step_e, step_o _ _ _ hfit]; exact hr'))
    by_cases hw : Region.wanted o' (yielded ops a.tmps) = true
    · rw [if_pos hw] at this ⊢
      exact .inl this
    · rw [if_neg hw] at this ⊢
      exact this
theorem entO_append (O : List Ent) (e : Ent) (p : Nat) : entO (O ++ [e]) p = if p = O.length then e else entO O p := by
  unfold entO
  simp only [List.getD_eq_getElem?_getD, List.getElem?_append]
  by_cases h : p < O.length
  · rw [if_pos h, if_neg (by omega)]
  · rw [if_neg h]
    by_cases h2 : p = O.length
    · subst h2; simp
    · rw [if_neg h2, List.getElem?_eq_none (by omega : O.length ≤ p), show p - O.length = (p - O.length - 1) + 1 by omega]
      simp
theorem look_none {t : Nat} : ∀ {E : List (Nat × Slot)}, (∀ x ∈ E, x.1 ≠ t) → look E t = .undef
  | [], _ => rfl
  | (kk, s) :: E, h => by
    simp only [look]
    have hb : Nat.beq kk t = false := by rw [← Bool.not_eq_true, Nat.beq_eq]; exact h (kk, s) (.head _)
    rw [hb, cond_false]
    exact look_none fun x hx => h x (.tail _ hx)
theorem cloCall {P : Program} {ops : Array Oper} {N : Nat} {M : St → Prop} {E : List (Nat × Slot)} {O O' : List Ent} {d : Nat} {c : Operand} {args : Array Operand} {at_ : Array TypeId} {ty : TypeId} {pos : String} {after : Array Edge} {f : FuncId} [IsFn P f] {ps : List Nat} {xs : List RV}
    (hF : FnC P f xs ps O O') (hm : M ⟨(d, .tup []) :: E, O'⟩) (hc : Opd E c (.clo f ps)) (ha : Args E O [] args.toList xs) (hlen : O'.length = O.length) (hE : (E.all fun x => x.2.under O.length) = true) (hO : O'.all (Ent.under O.length) = true) (hd : d < N) :
    CloCall P ops N ⟨some d, .call { callee := .value c, args := args, argTypes := at_ }, ty, pos, after, none⟩ ⟨E, O⟩ M := by
  intro w0 ok0 a w Kc Q hr hk
  have hwant : Region.wanted ⟨some d, .call { callee := .value c, args := args, argTypes := at_ }, ty, pos, after, none⟩ (yielded ops a.tmps) = true := rfl
  rw [if_pos hwant]
  obtain ⟨ρ, hR⟩ := hr
  have hR : RelR N w0 ok0 ρ (look E) (entO O) a w := hR
  generalize hKd : E.map (fun x => (look E x.1, a.tmps.getD x.1 Go.undef)) = K
  have hKu : (K.all fun x => x.1.under O.length) = true := by
    rw [← hKd, List.all_map, List.all_eq_true]
    intro x hx
    rcases look_mem (E := E) (t := x.1) with h | ⟨y, hy, h⟩
    · show (look E x.1).under _ = true; rw [h]; rfl
    · show (look E x.1).under _ = true; rw [← h]; exact List.all_eq_true.1 hE y hy
  have hgone : entO O O.length = .gone := by simp [entO]
  have hsame : ∀ q, q ≠ O.length → entO (O ++ [.sav K]) q = entO O q := fun q hq => by rw [entO_append, if_neg hq]
  have hat : entO (O ++ [.sav K]) O.length = .sav K := by rw [entO_append, if_pos rfl]
  have hR1 : RelR N w0 ok0 ρ (look E) (entO (O ++ [.sav K])) a w := by
    refine hR.move (ρ' := ρ) O.length hR.below (fun _ _ _ => rfl) (fun q hq => ⟨hsame q hq, rfl⟩) ⟨fun ty cs h => (by rw [hgone] at h; cases h), fun l h => (by rw [hgone] at h; cases h)⟩ (fun g h _ => (by rw [hat] at h; exact h.elim)) (fun hcc hkeep => ?_)
    rw [hat]
    intro x hx
    rw [← hKd] at hx
    obtain ⟨y, _, rfl⟩ := List.mem_map.1 hx
    exact (hR.slot y.1).step hcc hkeep
  have hrv : ∀ x : Operand, SlotRep w (okS w0 ok0 (entO (O ++ [.sav K])) ρ) (entO (O ++ [.sav K])) ρ (ev (look E) x) (a.eval x) := fun x => hR1.ev x
  have h1 := hrv c
  rw [hc.eq] at h1
  obtain ⟨us, hv, hus⟩ := h1
  have hxs := ha.rep (a := a) (fun x _ => hrv x) (fun p hp => by cases hp) hR1.ent
  have hrun : (execOp a.eval ⟨some d, .call { callee := .value c, args := args, argTypes := at_ }, ty, pos, after, none⟩).run P w = .ok (.enter f (args.map a.eval ++ us.toArray)) w := by
    simp [execOp, resolve, hv, Deferred.ofValue, invoke, run_enter]
  unfold Oper.wp
  rw [hrun]
  have hargs : args.map a.eval ++ us.toArray = (args.toList.map a.eval ++ us).toArray := by
    rw [← Array.toList_map]; simp
  rw [hargs]
  refine (hF w0 ok0 ρ w _ us K ⟨hR1.below, hR1.inj, hR1.ent⟩ hKu hxs hus).mono fun e w' h => ?_
  obtain ⟨rfl, ρ', hE'⟩ := h
  have hat' : entO (O' ++ [.sav K]) O.length = .sav K := by rw [entO_append, if_pos hlen.symm]
  have hR2 : RelR N w0 ok0 ρ' (look E) (entO (O' ++ [.sav K])) a w' := by
    refine ⟨hR.size, hR.defers, hE'.below, hE'.inj, hE'.ent, fun t => ?_⟩
    have hK' := hE'.ent O.length
    rw [hat'] at hK'
    have hK' : ∀ x ∈ K, SlotRep w' (okS w0 ok0 (entO (O' ++ [.sav K])) ρ') (entO (O' ++ [.sav K])) ρ' x.1 x.2 := hK'
    by_cases hmem : ∃ x ∈ E, x.1 = t
    · obtain ⟨x, hx, rfl⟩ := hmem
      exact hK' (look E x.1, a.tmps.getD x.1 Go.undef) (by rw [← hKd]; exact List.mem_map.2 ⟨x, hx, rfl⟩)
    · have hnone : look E t = .undef := by
        exact look_none fun x hx h => hmem ⟨x, hx, h⟩
      rw [hnone]; trivial
  have hR3 := hR2.put (s := .tup []) (v := .tuple #[]) (some d) (fun d' h => by cases h; exact hd) ⟨[], rfl, .nil⟩
  refine hk ⟨(d, .tup []) :: E, O'⟩ _ w' hm ?_
  have htake : (O' ++ [Ent.sav K]).take O.length = O' := by rw [← hlen]; simp
  have hw := weak_take (N := N) (S := ⟨(d, .tup []) :: E, O' ++ [.sav K]⟩) O.length (by simp only [List.all_cons, Bool.and_eq_true]; exact ⟨rfl, hE⟩) (by rw [htake]; exact hO)
  have hrel : Rel N w0 ok0 (⟨(d, .tup []) :: E, O' ++ [.sav K]⟩ : St).e (⟨(d, .tup []) :: E, O' ++ [.sav K]⟩ : St).o (a.put (some d) (.tuple #[])) w' := by
    have e1 : (⟨(d, .tup []) :: E, O' ++ [.sav K]⟩ : St).e = updO (look E) (some d) (.tup []) := look_putE E (some d) (.tup [])
    rw [e1]
    exact ⟨ρ', hR3⟩
  have := hw w0 ok0 _ w' hrel
  rw [htake] at this
  exact this
/-! ### 4. More rules with side conditions that find themselves -/
section
variable {P : Program} {ops : Array Oper} {N : Nat} {fin : St → List Rec → Prop} {l : List Oper} {E : List (Nat × Slot)} {O O' : List Ent} {rs : List Rec} {d : Nat} {ty : TypeId} {pos : String} {after : Array Edge} {g : Option (Nat × Bool)}
/-- A slice literal whose parts may be rows that are turned no more. -/
theorem bsF (qs : List Nat) {t e sz b len : Nat} [Sli P t e sz b] {zs : List Slot} [Zero P e zs] {parts : Array (Nat × Operand)} {pd : List (Nat × RV)} {xs : List (List FV)} (k : Runs P ops N fin l ⟨(d, .r (.v (.sl xs))) :: E, O⟩ (⟨.r (.v (.sl xs)), none, qs⟩ :: rs)) (hp : Parts E O qs parts.toList pd := by ((repeat (apply Parts.cons (by first | exact Opd.int _ _ | exact Opd.bool _ | exact Opd.nil | exact Opd.fn _ | exact Opd.str _ | (apply Opd.tmp; ((repeat apply Look.there rfl); exact Look.here))) (by first | exact fun _ _ => IsD.f (IsF.v _) | exact fun _ _ => IsD.agg _ | exact fun _ _ => IsD.f IsF.nil | exact fun _ h => IsD.f (IsF.fro ((h _ (by simp)).trans rfl) (by first | assumption | exact rfl | (simp; done) | (simp; omega) | omega))))); exact Parts.nil)) (hr : rowsOf 0 pd = some xs := by exact rfl) (hl : xs.length = len := by exact rfl)
    (hs : ∀ x ∈ xs, x.length = sz := by first | (intro x hx; simp at hx; subst hx; rfl) | (intro x hx; simp only [List.mem_cons, List.not_mem_nil, or_false] at hx; rcases hx with rfl | rfl <;> rfl) | decide) (hz : zs.length = sz := by exact rfl) (h24 : len * sz ≤ 16777216 := by decide) (hd : d < N := by decide) (hw : W ops E g := by first | exact W.none | (apply wof rfl; ((repeat apply Look.there rfl); exact Look.here); first | assumption | exact rfl)) : Runs P ops N fin (⟨some d, .buildSlice t len parts, ty, pos, after, g⟩ :: l) ⟨E, O⟩ rs := rBs hp hr hl hs hz h24 hd hw k
end
section
variable {P : Program} {N : Nat} {Q : Exit → St → Prop} {S : St}
/-- A region whose last operation calls a closure. -/
theorem rgC (n : Nat) {id : Nat} {ops : Array Oper} {o : Oper} (h : Runs P ops N (fun S1 _ => CloCall P ops N o S1 (Q .normal)) (ops.toList.take n) S []) (he : ops.toList = ops.toList.take n ++ [o] := by exact rfl) : AWP P N (.region id ops false) Q S := awp_region_last he h
theorem cc {ops : Array Oper} {M : St → Prop} {E : List (Nat × Slot)} {O O' : List Ent} {d : Nat} {c : Operand} {args : Array Operand} {at_ : Array TypeId} {ty : TypeId} {pos : String} {after : Array Edge} {f : FuncId} [IsFn P f] {ps : List Nat} {xs : List RV} (hF : FnC P f xs ps O O') (hm : M ⟨(d, .tup []) :: E, O'⟩) (hc : Opd E c (.clo f ps) := by first | exact Opd.int _ _ | exact Opd.bool _ | exact Opd.nil | exact Opd.fn _ | exact Opd.str _ | (apply Opd.tmp; ((repeat apply Look.there rfl); exact Look.here)))
    (ha : Args E O [] args.toList xs := by ((repeat (apply Args.cons (by first | exact Opd.int _ _ | exact Opd.bool _ | exact Opd.nil | exact Opd.fn _ | exact Opd.str _ | (apply Opd.tmp; ((repeat apply Look.there rfl); exact Look.here))) (by first | exact fun _ _ => IsD.f (IsF.v _) | exact fun _ _ => IsD.agg _ | exact fun _ _ => IsD.f IsF.nil))); exact Args.nil)) (hlen : O'.length = O.length := by exact rfl) (hE : (E.all fun x => x.2.under O.length) = true := by exact rfl) (hO : O'.all (Ent.under O.length) = true := by exact rfl) (hd : d < N := by decide) :
    CloCall P ops N ⟨some d, .call { callee := .value c, args := args, argTypes := at_ }, ty, pos, after, none⟩ ⟨E, O⟩ M := cloCall hF hm hc ha hlen hE hO hd
theorem under_mono {m n : Nat} (h : m ≤ n) {s : Slot} (hs : s.under m = true) : s.under n = true := by
  cases s with
  | box p o => exact decide_eq_true (Nat.lt_of_lt_of_le (of_decide_eq_true hs) h)
  | own p o => exact decide_eq_true (Nat.lt_of_lt_of_le (of_decide_eq_true hs) h)
  | op p o q => exact decide_eq_true (Nat.lt_of_lt_of_le (of_decide_eq_true hs) h)
  | opb p o q b => exact decide_eq_true (Nat.lt_of_lt_of_le (of_decide_eq_true hs) h)
  | clo f ps =>
    show (ps.all fun p => decide (p < n)) = true
    rw [List.all_eq_true]
    intro p hp
    exact decide_eq_true (Nat.lt_of_lt_of_le (of_decide_eq_true (List.all_eq_true.1 hs p hp)) h)
  | bsl p o q => exact decide_eq_true (Nat.lt_of_lt_of_le (of_decide_eq_true hs) h)
  | _ => rfl
theorem sav_mono {m n : Nat} (h : m ≤ n) {K : List (Slot × Value)} (hK : (K.all fun x => x.1.under m) = true) : (K.all fun x => x.1.under n) = true := by
  rw [List.all_eq_true] at hK ⊢
  exact fun x hx => under_mono h (hK x hx)
end
end Go.Proofs.Ytnhljpbpfaablaa.VS
