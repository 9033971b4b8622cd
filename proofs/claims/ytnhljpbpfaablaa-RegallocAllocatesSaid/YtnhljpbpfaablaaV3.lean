/- Value semantics, part 3: a region that draws its order: what its operations leave in the text's order they leave in every order, if those that touch one thing are ordered. Conditions: none. -/
import Derived.Test.YtnhljpbpfaablaaV2
namespace Go.Proofs.Ytnhljpbpfaablaa.VS
open Go Go.RowKit

/-- For each operation the set (as bits) of those that must come before it. -/
def mask (acc : List Nat) (o : Oper) : Nat := o.after.toList.foldl (fun s e => if Region.binds .any e then s ||| 2 ^ e.on ||| acc.getD e.on 0 else s) 0
def masks : List Oper → List Nat → List Nat
  | [], acc => acc
  | o :: l, acc => masks l (acc ++ [mask acc o])
def hits (dst : Option Nat) (l : List Nat) : Bool := match dst with | some d => l.contains d | none => false
/-- Do two operations (the elder and the younger in the text) touch one thing? -/
def conflict (ops : Array Oper) (o : Oper) (r : Rec) (o' : Oper) (r' : Rec) : Bool :=
  hits o.dst (o'.looksAt ops) || hits o.dst o'.dst.toList || hits o'.dst (o.looksAt ops) ||
  hits (r.eff.map (·.1)) r'.touch || hits (r'.eff.map (·.1)) r.touch
def effIn (r : Rec) : Bool := match r.eff with | some (p, _) => r.touch.contains p | none => true
def okDraw (ops : Array Oper) (rs : List Rec) : Bool :=
  let l := ops.toList
  let ms := masks l []
  l.zipIdx.all (fun (o, j) => o.after.toList.all (fun e => !Region.binds .any e || decide (e.on < j))) &&
  rs.all effIn &&
  (l.zip (rs.zip ms)).zipIdx.all fun ((o', r', m), j) =>
    ((l.zip rs).take j).zipIdx.all fun ((o, r), i) => !conflict ops o r o' r' || m.testBit i

theorem testBit_mask (acc : List Nat) (o : Oper) (i : Nat) (h : (mask acc o).testBit i = true) : ∃ e ∈ o.after.toList, Region.binds .any e = true ∧ (i = e.on ∨ (acc.getD e.on 0).testBit i = true) := by
  unfold mask at h
  have key : ∀ (l : List Edge) (s : Nat), (l.foldl (fun s e => if Region.binds .any e then s ||| 2 ^ e.on ||| acc.getD e.on 0 else s) s).testBit i = true →
      s.testBit i = true ∨ ∃ e ∈ l, Region.binds .any e = true ∧ (i = e.on ∨ (acc.getD e.on 0).testBit i = true) := by
    intro l
    induction l with
    | nil => intro s h; exact .inl h
    | cons e l ih =>
      intro s h
      simp only [List.foldl_cons] at h
      rcases ih _ h with h1 | ⟨e', he', h1⟩
      · by_cases hb : Region.binds .any e = true
        · rw [if_pos hb] at h1
          simp only [Nat.testBit_or, Bool.or_eq_true, Nat.testBit_two_pow] at h1
          rcases h1 with (h1 | h1) | h1
          · exact .inl h1
          · exact .inr ⟨e, .head _, hb, .inl (by simpa using (of_decide_eq_true h1).symm)⟩
          · exact .inr ⟨e, .head _, hb, .inr h1⟩
        · rw [if_neg hb] at h1
          exact .inl h1
      · exact .inr ⟨e', .tail _ he', h1⟩
  rcases key _ _ h with h1 | h1
  · simp at h1
  · exact h1

/-- What must come before an operation that may come up now has come up. -/
theorem masks_spec (E : Nat → Prop) (ops : List Oper) (hE : ∀ (j : Nat) (o : Oper), ops[j]? = some o → E j → ∀ e ∈ o.after.toList, Region.binds .any e = true → E e.on) :
    ∀ (j : Nat) (o : Oper), ops[j]? = some o → (∀ e ∈ o.after.toList, Region.binds .any e = true → E e.on) → ∀ i, ((masks ops []).getD j 0).testBit i = true → E i := by
  have key : ∀ (l done : List Oper) (acc : List Nat), ops = done ++ l → acc.length = done.length →
      (∀ (j : Nat) (o : Oper), done[j]? = some o → (∀ e ∈ o.after.toList, Region.binds .any e = true → E e.on) → ∀ i, (acc.getD j 0).testBit i = true → E i) →
      ∀ (j : Nat) (o : Oper), ops[j]? = some o → (∀ e ∈ o.after.toList, Region.binds .any e = true → E e.on) → ∀ i, ((masks l acc).getD j 0).testBit i = true → E i := by
    intro l
    induction l with
    | nil =>
      intro done acc h1 h2 h3 j o hj he i hi
      rw [h1, List.append_nil] at hj
      exact h3 j o hj he i hi
    | cons o l ih =>
      intro done acc h1 h2 h3
      refine ih (done ++ [o]) (acc ++ [mask acc o]) (by rw [h1]; simp) (by simp [h2]) ?_
      intro j o' hj he i hi
      by_cases hlt : j < done.length
      · rw [List.getElem?_append_left hlt] at hj
        rw [List.getD_eq_getElem?_getD, List.getElem?_append_left (by omega), ← List.getD_eq_getElem?_getD] at hi
        exact h3 j o' hj he i hi
      · by_cases hje : j = done.length
        · subst hje
          have ho : o' = o := by simpa using hj.symm
          subst ho
          rw [List.getD_eq_getElem?_getD, List.getElem?_append_right (by omega)] at hi
          simp only [h2, Nat.sub_self, List.getElem?_cons_zero, Option.getD_some] at hi
          obtain ⟨e, hm, hb, hor⟩ := testBit_mask acc o' i hi
          have hEe := he e hm hb
          rcases hor with rfl | hor
          · exact hEe
          · by_cases hlt : e.on < done.length
            · have hoe : ∃ oe, done[e.on]? = some oe := ⟨_, List.getElem?_eq_getElem hlt⟩
              obtain ⟨oe, hoe⟩ := hoe
              refine h3 e.on oe hoe (hE e.on oe ?_ hEe) i hor
              rw [h1, List.getElem?_append_left hlt]; exact hoe
            · rw [List.getD_eq_getElem?_getD, List.getElem?_eq_none (by omega)] at hor
              simp at hor
        · rw [List.getElem?_eq_none (by simp; omega)] at hj
          cases hj
  exact key ops [] [] rfl rfl (fun j o hj => by simp at hj)

/-! ### The records of a run -/
/-- The state in front of operation m, those operations alone having been carried out of which E is true. -/
def envAt (ops : List Oper) (rs : List Rec) (E : Nat → Bool) (f : Nat → Slot) : Nat → Nat → Slot
  | 0 => f
  | m + 1 => match ops[m]?, rs[m]? with
    | some o, some r => if E m then updO (envAt ops rs E f m) o.dst r.out else envAt ops rs E f m
    | _, _ => envAt ops rs E f m
def entAt (ops : List Oper) (rs : List Rec) (E : Nat → Bool) (f : Nat → Ent) : Nat → Nat → Ent
  | 0 => f
  | m + 1 => match ops[m]?, rs[m]? with
    | some _, some r => if E m then updE (entAt ops rs E f m) r.eff else entAt ops rs E f m
    | _, _ => entAt ops rs E f m

theorem envAt_shift (o : Oper) (l : List Oper) (r : Rec) (rs : List Rec) (f : Nat → Slot) : ∀ m, envAt (o :: l) (r :: rs) (fun _ => true) f (m + 1) = envAt l rs (fun _ => true) (updO f o.dst r.out) m
  | 0 => by simp [envAt]
  | m + 1 => by
    have ih := envAt_shift o l r rs f m
    rw [envAt]
    simp only [List.getElem?_cons_succ]
    rw [ih]
    rfl
theorem entAt_shift (o : Oper) (l : List Oper) (r : Rec) (rs : List Rec) (f : Nat → Ent) : ∀ m, entAt (o :: l) (r :: rs) (fun _ => true) f (m + 1) = entAt l rs (fun _ => true) (updE f r.eff) m
  | 0 => by simp [entAt]
  | m + 1 => by
    have ih := entAt_shift o l r rs f m
    rw [entAt]
    simp only [List.getElem?_cons_succ]
    rw [ih]
    rfl

theorem runs_records {P : Program} {ops : Array Oper} {N : Nat} {fin : St → List Rec → Prop} : ∀ (l : List Oper) (S : St) (rs0 : List Rec), Runs P ops N fin l S rs0 →
    ∃ (rs : List Rec) (S' : St), rs.length = l.length ∧ fin S' (rs0.reverse ++ rs) ∧ S'.e = envAt l rs (fun _ => true) S.e l.length ∧ S'.o = entAt l rs (fun _ => true) S.o l.length ∧
      ∀ (j : Nat) (o : Oper) (r : Rec), l[j]? = some o → rs[j]? = some r → OpOK P ops N o (envAt l rs (fun _ => true) S.e j) (entAt l rs (fun _ => true) S.o j) r := by
  intro l
  induction l with
  | nil => intro S rs0 h; exact ⟨[], S, rfl, by simpa [Runs] using h, rfl, rfl, fun j o r hj => by simp at hj⟩
  | cons o l ih =>
    intro S rs0 h
    obtain ⟨r, hop, hfit, hrest⟩ := h
    obtain ⟨rs, S', h1, h2, h3, h4, h5⟩ := ih _ _ hrest
    refine ⟨r :: rs, S', by simp [h1], by simpa using h2, ?_, ?_, ?_⟩
    · rw [h3, step_e]; exact (envAt_shift o l r rs S.e l.length).symm
    · rw [h4, step_o _ _ _ hfit]; exact (entAt_shift o l r rs S.o l.length).symm
    · intro j o' r' hj hr
      cases j with
      | zero =>
        simp at hj hr
        subst hj; subst hr
        exact hop
      | succ j =>
        rw [envAt_shift, entAt_shift, ← step_e, ← step_o _ _ _ hfit]
        exact h5 j o' r' (by simpa using hj) (by simpa using hr)

theorem envAt_congr (ops : List Oper) (rs : List Rec) (E E' : Nat → Bool) (f : Nat → Slot) : ∀ m, (∀ i, i < m → E i = E' i) → envAt ops rs E f m = envAt ops rs E' f m
  | 0, _ => rfl
  | m + 1, h => by
    have ih := envAt_congr ops rs E E' f m (fun i hi => h i (by omega))
    simp only [envAt, ih, h m (by omega)]
theorem entAt_congr (ops : List Oper) (rs : List Rec) (E E' : Nat → Bool) (f : Nat → Ent) : ∀ m, (∀ i, i < m → E i = E' i) → entAt ops rs E f m = entAt ops rs E' f m
  | 0, _ => rfl
  | m + 1, h => by
    have ih := entAt_congr ops rs E E' f m (fun i hi => h i (by omega))
    simp only [entAt, ih, h m (by omega)]

theorem hits_mem {d : Option Nat} {l : List Nat} {t : Nat} (hd : d = some t) (ht : t ∈ l) : hits d l = true := by subst hd; simpa [hits] using ht
theorem updO_other {α : Type} (f : Nat → α) (d : Option Nat) (x : α) (t : Nat) (h : d ≠ some t) : updO f d x t = f t := by
  cases d with
  | none => rfl
  | some d => show (if t = d then x else f t) = f t; rw [if_neg (fun e => h (by rw [e]))]
theorem updE_other (f : Nat → Ent) (e : Option (Nat × Ent)) (p : Nat) (h : e.map (·.1) ≠ some p) : updE f e p = f p := by
  cases e with
  | none => rfl
  | some pe => show (if p = pe.1 then pe.2 else f p) = f p; rw [if_neg (fun e => h (by rw [e]; rfl))]
theorem updO_congr {α : Type} {f g : Nat → α} (d : Option Nat) (x : α) {t : Nat} (h : f t = g t) : updO f d x t = updO g d x t := by
  cases d with
  | none => exact h
  | some d => show (if t = d then x else f t) = (if t = d then x else g t); split <;> simp_all
theorem updE_congr {f g : Nat → Ent} (e : Option (Nat × Ent)) {p : Nat} (h : f p = g p) : updE f e p = updE g e p := by
  cases e with
  | none => exact h
  | some pe => show (if p = pe.1 then pe.2 else f p) = (if p = pe.1 then pe.2 else g p); split <;> simp_all
theorem updO_comm {α : Type} (f : Nat → α) (d d' : Option Nat) (x x' : α) (h : ∀ t, d = some t → d' ≠ some t) : updO (updO f d x) d' x' = updO (updO f d' x') d x := by
  cases d with
  | none => rfl
  | some d =>
    cases d' with
    | none => rfl
    | some d' =>
      have hne : d ≠ d' := fun e => h d rfl (by rw [e])
      funext t
      show (if t = d' then x' else if t = d then x else f t) = (if t = d then x else if t = d' then x' else f t)
      by_cases h1 : t = d' <;> by_cases h2 : t = d <;> simp_all
theorem updE_comm (f : Nat → Ent) (e e' : Option (Nat × Ent)) (h : ∀ t, e.map (·.1) = some t → e'.map (·.1) ≠ some t) : updE (updE f e) e' = updE (updE f e') e := by
  cases e with
  | none => rfl
  | some pe =>
    cases e' with
    | none => rfl
    | some pe' =>
      have hne : pe.1 ≠ pe'.1 := fun e => h pe.1 rfl (by rw [e]; rfl)
      funext t
      show (if t = pe'.1 then pe'.2 else if t = pe.1 then pe.2 else f t) = (if t = pe.1 then pe.2 else if t = pe'.1 then pe'.2 else f t)
      by_cases h1 : t = pe'.1 <;> by_cases h2 : t = pe.1 <;> simp_all

section
variable {ops : Array Oper} {rs : List Rec} {E : Nat → Bool} {j : Nat} {oj : Oper} {rj : Rec}
/-- The elder of two that touch one thing comes first. -/
def Ordered (ops : Array Oper) (rs : List Rec) (E : Nat → Bool) (j : Nat) : Prop :=
  (∀ i o r oj rj, i < j → ops.toList[i]? = some o → rs[i]? = some r → ops.toList[j]? = some oj → rs[j]? = some rj → conflict ops o r oj rj = true → E i = true) ∧
  (∀ m o r oj rj, j < m → E m = true → ops.toList[m]? = some o → rs[m]? = some r → ops.toList[j]? = some oj → rs[j]? = some rj → conflict ops oj rj o r = false)
theorem env_seen (hO : Ordered ops rs E j) (hj : ops.toList[j]? = some oj) (hr : rs[j]? = some rj) (hE : E j = false) (f : Nat → Slot) (t : Nat) (ht : t ∈ oj.looksAt ops) :
    ∀ m, j ≤ m → envAt ops.toList rs E f m t = envAt ops.toList rs (fun _ => true) f j t := by
  have below : ∀ m, m ≤ j → envAt ops.toList rs E f m t = envAt ops.toList rs (fun _ => true) f m t := by
    intro m
    induction m with
    | zero => intro _; rfl
    | succ m ih =>
      intro hm
      have ih := ih (by omega)
      rw [envAt, envAt]
      cases ho : ops.toList[m]? with
      | none => exact ih
      | some o =>
        cases hrm : rs[m]? with
        | none => exact ih
        | some r =>
          simp only [if_true]
          by_cases hd : o.dst = some t
          · have : E m = true := hO.1 m o r oj rj (by omega) ho hrm hj hr (by simp [conflict, hits_mem hd ht])
            rw [if_pos this]
            exact updO_congr _ _ ih
          · rw [updO_other _ _ _ _ hd]
            split
            · rw [updO_other _ _ _ _ hd]; exact ih
            · exact ih
  intro m
  induction m with
  | zero => intro hm; exact (below 0 (by omega)).trans (by rw [show j = 0 by omega])
  | succ m ih =>
    intro hm
    by_cases hmj : m + 1 = j
    · rw [below (m + 1) (by omega), hmj]
    · have ih := ih (by omega)
      rw [envAt]
      cases ho : ops.toList[m]? with
      | none => exact ih
      | some o =>
        cases hrm : rs[m]? with
        | none => exact ih
        | some r =>
          simp only
          by_cases hEm : E m = true
          · rw [if_pos hEm]
            have hne : m ≠ j := fun e => by rw [e, hE] at hEm; cases hEm
            have hc := hO.2 m o r oj rj (by omega) hEm ho hrm hj hr
            rw [updO_other _ _ _ _ (fun hd => by simp [conflict, hits_mem hd ht] at hc)]
            exact ih
          · rw [if_neg hEm]; exact ih
theorem ent_seen (hO : Ordered ops rs E j) (hj : ops.toList[j]? = some oj) (hr : rs[j]? = some rj) (hE : E j = false) (f : Nat → Ent) (p : Nat) (ht : p ∈ rj.touch) :
    ∀ m, j ≤ m → entAt ops.toList rs E f m p = entAt ops.toList rs (fun _ => true) f j p := by
  have below : ∀ m, m ≤ j → entAt ops.toList rs E f m p = entAt ops.toList rs (fun _ => true) f m p := by
    intro m
    induction m with
    | zero => intro _; rfl
    | succ m ih =>
      intro hm
      have ih := ih (by omega)
      rw [entAt, entAt]
      cases ho : ops.toList[m]? with
      | none => exact ih
      | some o =>
        cases hrm : rs[m]? with
        | none => exact ih
        | some r =>
          simp only [if_true]
          by_cases hd : r.eff.map (·.1) = some p
          · have : E m = true := hO.1 m o r oj rj (by omega) ho hrm hj hr (by simp [conflict, hits_mem hd ht])
            rw [if_pos this]
            exact updE_congr _ ih
          · rw [updE_other _ _ _ hd]
            split
            · rw [updE_other _ _ _ hd]; exact ih
            · exact ih
  intro m
  induction m with
  | zero => intro hm; exact (below 0 (by omega)).trans (by rw [show j = 0 by omega])
  | succ m ih =>
    intro hm
    by_cases hmj : m + 1 = j
    · rw [below (m + 1) (by omega), hmj]
    · have ih := ih (by omega)
      rw [entAt]
      cases ho : ops.toList[m]? with
      | none => exact ih
      | some o =>
        cases hrm : rs[m]? with
        | none => exact ih
        | some r =>
          simp only
          by_cases hEm : E m = true
          · rw [if_pos hEm]
            have hne : m ≠ j := fun e => by rw [e, hE] at hEm; cases hEm
            have hc := hO.2 m o r oj rj (by omega) hEm ho hrm hj hr
            rw [updE_other _ _ _ (fun hd => by simp [conflict, hits_mem hd ht] at hc)]
            exact ih
          · rw [if_neg hEm]; exact ih
/-- Carried out last it leaves what it leaves in its place. -/
theorem env_done (hO : Ordered ops rs E j) (hj : ops.toList[j]? = some oj) (hr : rs[j]? = some rj) (hE : E j = false) (f : Nat → Slot) :
    ∀ m, j < m → updO (envAt ops.toList rs E f m) oj.dst rj.out = envAt ops.toList rs (fun i => if i = j then true else E i) f m := by
  intro m
  induction m with
  | zero => intro hm; omega
  | succ m ih =>
    intro hm
    by_cases hmj : m = j
    · subst hmj
      rw [envAt, envAt, hj, hr]
      simp only [hE, if_true, Bool.false_eq_true, if_false]
      rw [envAt_congr ops.toList rs E (fun i => if i = m then true else E i) f m (fun i hi => by simp [show i ≠ m by omega])]
    · have ih := ih (by omega)
      rw [envAt, envAt]
      cases ho : ops.toList[m]? with
      | none => exact ih
      | some o =>
        cases hrm : rs[m]? with
        | none => exact ih
        | some r =>
          simp only [if_neg hmj]
          by_cases hEm : E m = true
          · rw [if_pos hEm, if_pos hEm, ← ih]
            have hc := hO.2 m o r oj rj (by omega) hEm ho hrm hj hr
            exact updO_comm _ _ _ _ _ (fun t h1 h2 => by simp [conflict, h1, h2, hits] at hc)
          · rw [if_neg hEm, if_neg hEm]; exact ih
theorem ent_done (hO : Ordered ops rs E j) (hj : ops.toList[j]? = some oj) (hr : rs[j]? = some rj) (heff : effIn rj = true) (hE : E j = false) (f : Nat → Ent) :
    ∀ m, j < m → updE (entAt ops.toList rs E f m) rj.eff = entAt ops.toList rs (fun i => if i = j then true else E i) f m := by
  intro m
  induction m with
  | zero => intro hm; omega
  | succ m ih =>
    intro hm
    by_cases hmj : m = j
    · subst hmj
      rw [entAt, entAt, hj, hr]
      simp only [hE, if_true, Bool.false_eq_true, if_false]
      rw [entAt_congr ops.toList rs E (fun i => if i = m then true else E i) f m (fun i hi => by simp [show i ≠ m by omega])]
    · have ih := ih (by omega)
      rw [entAt, entAt]
      cases ho : ops.toList[m]? with
      | none => exact ih
      | some o =>
        cases hrm : rs[m]? with
        | none => exact ih
        | some r =>
          simp only [if_neg hmj]
          by_cases hEm : E m = true
          · rw [if_pos hEm, if_pos hEm, ← ih]
            have hc := hO.2 m o r oj rj (by omega) hEm ho hrm hj hr
            refine updE_comm _ _ _ (fun p h1 h2 => ?_)
            have hp : p ∈ rj.touch := by
              obtain ⟨out, eff, touch⟩ := rj
              cases eff with
              | none => simp at h2
              | some pe =>
                obtain ⟨q, e⟩ := pe
                have : q = p := by simpa using h2
                subst this
                simpa [effIn] using heff
            simp [conflict, hits_mem h1 hp] at hc
          · rw [if_neg hEm, if_neg hEm]; exact ih
end

theorem zipIdx_all {α : Type} {l : List α} {f : α × Nat → Bool} (h : l.zipIdx.all f = true) (j : Nat) (x : α) (hx : l[j]? = some x) : f (x, j) = true := by
  refine List.all_eq_true.1 h (x, j) ?_
  rw [List.mem_zipIdx_iff_getElem?]
  simpa using hx
theorem zip_get {α β : Type} {l : List α} {l' : List β} {j : Nat} {x : α} {y : β} (hx : l[j]? = some x) (hy : l'[j]? = some y) : (l.zip l')[j]? = some (x, y) := by
  rw [List.getElem?_zip_eq_some]
  exact ⟨hx, hy⟩
theorem masks_length : ∀ (l : List Oper) (acc : List Nat), (masks l acc).length = acc.length + l.length
  | [], acc => rfl
  | o :: l, acc => by rw [masks, masks_length l]; simp; omega
section
variable {P : Program} {N : Nat} {Q : Exit → St → Prop} {S : St}
/-- The region that draws its order. -/
theorem awp_region_draw (hm : P.follows .mixedOrders = true) {id : Nat} {ops : Array Oper} (h : Runs P ops N (fun S' rs => okDraw ops rs = true ∧ Q .normal S') ops.toList S []) : AWP P N (.region id ops true) Q S := by
  intro w0 ok0 a w hr
  obtain ⟨rs, S', hlen, ⟨hok, hQ⟩, hE', hO', hops⟩ := runs_records ops.toList S [] h
  simp only [List.reverse_nil, List.nil_append] at hok
  have hn : ops.toList.length = ops.size := by simp
  simp only [okDraw, Bool.and_eq_true] at hok
  obtain ⟨⟨hedge, heff⟩, hconf⟩ := hok
  have hedge' : ∀ (j : Nat) (o : Oper), ops.toList[j]? = some o → ∀ e ∈ o.after.toList, Region.binds .any e = true → e.on < j := by
    intro j o hj e he hb
    have := List.all_eq_true.1 (zipIdx_all hedge j o hj) e he
    simpa [hb] using this
  have hconf' : ∀ i j o r o' r', i < j → ops.toList[i]? = some o → rs[i]? = some r → ops.toList[j]? = some o' → rs[j]? = some r' → conflict ops o r o' r' = true → ((masks ops.toList []).getD j 0).testBit i = true := by
    intro i j o r o' r' hij h1 h2 h3 h4 hc
    have hjl : j < ops.toList.length := by
      rcases Nat.lt_or_ge j ops.toList.length with h | h
      · exact h
      · rw [List.getElem?_eq_none h] at h3; cases h3
    have hms : ∃ m, (masks ops.toList [])[j]? = some m := ⟨_, List.getElem?_eq_getElem (by rw [masks_length]; simpa using hjl)⟩
    obtain ⟨m, hm⟩ := hms
    have := zipIdx_all hconf j (o', r', m) (zip_get h3 (zip_get h4 hm))
    have hi : ((ops.toList.zip rs).take j)[i]? = some (o, r) := by
      rw [List.getElem?_take, if_pos hij]; exact zip_get h1 h2
    have := zipIdx_all this i (o, r) hi
    rw [List.getD_eq_getElem?_getD, hm]
    simpa [hc] using this
  refine wp_region_any hm ?_
  have hrd : Rel N w0 ok0 S.e S.o a { w with drawn := w.drawn + 1 } := by
    obtain ⟨ρ, hR⟩ := hr
    exact ⟨ρ, hR.later ⟨rfl, rfl, rfl, Nat.le_refl _, fun _ _ => rfl⟩⟩
  clear hr
  generalize { w with drawn := w.drawn + 1 } = w at hrd
  have main : ∀ (fuel : Nat) (listed : Array Bool) (a : Act) (w : World), listed.size = ops.size →
      (∀ (j : Nat) (o : Oper), ops.toList[j]? = some o → listed.getD j false = true → ∀ e ∈ o.after.toList, Region.binds .any e = true → listed.getD e.on false = true) →
      ((List.range ops.size).filter fun i => !listed.getD i false).length = fuel →
      Rel N w0 ok0 (envAt ops.toList rs (fun i => listed.getD i false) S.e ops.size) (entAt ops.toList rs (fun i => listed.getD i false) S.o ops.size) a w →
      wpAny P .any ops (lift N w0 ok0 Q) fuel listed a w := by
    intro fuel
    induction fuel with
    | zero =>
      intro listed a w hsz hcl hcount hR
      have hall : ∀ i, i < ops.size → listed.getD i false = true := by
        intro i hi
        have : (List.range ops.size).filter (fun i => !listed.getD i false) = [] := List.eq_nil_of_length_eq_zero hcount
        rw [List.filter_eq_nil_iff] at this
        simpa using this i (List.mem_range.2 hi)
      refine ⟨?_, S', hQ, ?_⟩
      · rw [Region.ready, List.filter_eq_nil_iff]
        intro i hi
        have h1 := hall i (List.mem_range.1 hi)
        have h2 : listed.getD i true = true := by
          have hlt : i < listed.size := by rw [hsz]; exact List.mem_range.1 hi
          simp only [Array.getD_eq_getD_getElem?, Array.getElem?_eq_getElem hlt, Option.getD_some] at h1 ⊢
          exact h1
        simp [h2]
      · rw [hE', hO', hn, ← envAt_congr ops.toList rs (fun i => listed.getD i false) (fun _ => true) S.e ops.size hall, ← entAt_congr ops.toList rs (fun i => listed.getD i false) (fun _ => true) S.o ops.size hall]
        exact hR
    | succ fuel ih =>
      intro listed a w hsz hcl hcount hR
      have hTF : ∀ i, i < ops.size → listed.getD i true = listed.getD i false := by
        intro i hi
        have hlt : i < listed.size := by omega
        simp only [Array.getD_eq_getD_getElem?, Array.getElem?_eq_getElem hlt, Option.getD_some]
      have hget : ∀ i, i < ops.size → ∃ o, ops.toList[i]? = some o ∧ ops[i]? = some o := fun i hi => ⟨ops[i], by simp [hi], by simp [hi]⟩
      have hready : ∀ i, i ∈ Region.ready .any ops listed ↔ i < ops.size ∧ listed.getD i false = false ∧ ∀ o, ops.toList[i]? = some o → ∀ e ∈ o.after.toList, Region.binds .any e = true → listed.getD e.on false = true := by
        intro i
        rw [Region.ready, List.mem_filter, List.mem_range]
        constructor
        · rintro ⟨hi, hc⟩
          obtain ⟨o, ho, ho'⟩ := hget i hi
          simp only [ho', Option.map_some, Option.getD_some, Bool.and_eq_true, Bool.not_eq_true'] at hc
          refine ⟨hi, by rw [← hTF i hi]; exact hc.1, fun o2 ho2 e he hb => ?_⟩
          rw [ho] at ho2
          cases ho2
          have := Array.all_eq_true_iff_forall_mem.1 hc.2 e (by simpa using he)
          simpa [hb] using this
        · rintro ⟨hi, h1, h2⟩
          obtain ⟨o, ho, ho'⟩ := hget i hi
          refine ⟨hi, ?_⟩
          simp only [ho', Option.map_some, Option.getD_some, Bool.and_eq_true, Bool.not_eq_true']
          refine ⟨by rw [hTF i hi]; exact h1, Array.all_eq_true_iff_forall_mem.2 fun e he => ?_⟩
          by_cases hb : Region.binds .any e = true
          · simp [h2 o ho e (by simpa using he) hb]
          · simp [hb]
      refine ⟨fun hnil => ?_, fun i hi => ?_⟩
      · have hall : ∀ j, j < ops.size → listed.getD j false = true := by
          intro j
          induction j using Nat.strongRecOn with
          | _ j ihj =>
            intro hj
            by_cases hlj : listed.getD j false = true
            · exact hlj
            · exfalso
              have : j ∈ Region.ready .any ops listed := (hready j).2 ⟨hj, by simpa using hlj, fun o ho e he hb => ihj e.on (hedge' j o ho e he hb) (by have := hedge' j o ho e he hb; omega)⟩
              rw [hnil] at this
              cases this
        refine ⟨S', hQ, ?_⟩
        rw [hE', hO', hn, ← envAt_congr ops.toList rs (fun i => listed.getD i false) (fun _ => true) S.e ops.size hall, ← entAt_congr ops.toList rs (fun i => listed.getD i false) (fun _ => true) S.o ops.size hall]
        exact hR
      · obtain ⟨hi1, hi2, hi3⟩ := (hready i).1 hi
        obtain ⟨oi, hoi, hoi'⟩ := hget i hi1
        have hri : ∃ ri, rs[i]? = some ri := ⟨_, List.getElem?_eq_getElem (by rw [hlen, hn]; exact hi1)⟩
        obtain ⟨ri, hri⟩ := hri
        have hO : Ordered ops rs (fun i => listed.getD i false) i := by
          refine ⟨fun m o r oj rj hmi h1 h2 h3 h4 hc => ?_, fun m o r oj rj him hEm h1 h2 h3 h4 => ?_⟩
          · have hb := hconf' m i o r oj rj hmi h1 h2 h3 h4 hc
            exact masks_spec (fun i => listed.getD i false = true) ops.toList (fun j o hj hE => hcl j o hj hE) i oj h3 (hi3 oj h3) m hb
          · rw [← Bool.not_eq_true]
            intro hc
            have hb := hconf' i m oj rj o r him h3 h4 h1 h2 hc
            have := masks_spec (fun i => listed.getD i false = true) ops.toList (fun j o hj hE => hcl j o hj hE) m o h1 (hcl m o h1 hEm) i hb
            rw [hi2] at this
            cases this
        have hE0 : (fun i => listed.getD i false) i = false := hi2
        have hstep := hops i oi ri hoi hri w0 ok0 _ _ a w (fun t ht => env_seen hO hoi hri hE0 S.e t ht ops.size (by omega)) (fun p hp => ent_seen hO hoi hri hE0 S.o p hp ops.size (by omega)) hR
          (wpAny P .any ops (lift N w0 ok0 Q) fuel (listed.setIfInBounds i true)) (lift N w0 ok0 Q) (fun a' w' hR' => ?_)
        · unfold wpOp
          simp only [hoi']
          by_cases hw : Region.wanted oi (yielded ops a.tmps) = true
          · rw [if_pos hw] at hstep ⊢
            exact .inl hstep
          · rw [if_neg hw] at hstep ⊢
            exact hstep
        · have hset : (fun k => (listed.setIfInBounds i true).getD k false) = fun k => if k = i then true else listed.getD k false := by
            funext k
            simp only [Array.getD_eq_getD_getElem?]
            by_cases hk : k = i
            · subst hk; simp [show k < listed.size by omega]
            · rw [if_neg hk, Array.getElem?_setIfInBounds_ne (by omega)]
          refine ih _ a' w' (by simp [hsz]) ?_ ?_ ?_
          · intro j o hj hE e he hb
            have h1 : (listed.setIfInBounds i true).getD j false = if j = i then true else listed.getD j false := congrFun hset j
            have h2 : (listed.setIfInBounds i true).getD e.on false = if e.on = i then true else listed.getD e.on false := congrFun hset e.on
            rw [h1] at hE
            rw [h2]
            by_cases hji : j = i
            · subst hji
              rw [hi3 o hj e he hb]; simp
            · rw [if_neg hji] at hE
              rw [hcl j o hj hE e he hb]; simp
          · have hcnt : ((List.range ops.size).filter fun k => !(listed.setIfInBounds i true).getD k false) = ((List.range ops.size).filter fun k => !listed.getD k false).filter fun k => decide (k ≠ i) := by
              rw [List.filter_filter]
              congr 1
              funext k
              have h1 : (listed.setIfInBounds i true).getD k false = if k = i then true else listed.getD k false := congrFun hset k
              rw [h1]
              by_cases hk : k = i <;> simp [hk]
            rw [hcnt]
            have hnd : ((List.range ops.size).filter fun k => !listed.getD k false).Nodup := List.Nodup.sublist List.filter_sublist List.nodup_range
            have hmem : i ∈ (List.range ops.size).filter fun k => !listed.getD k false := by
              rw [List.mem_filter]; exact ⟨List.mem_range.2 hi1, by simp [hi2]⟩
            have herase : (((List.range ops.size).filter fun k => !listed.getD k false).filter fun k => decide (k ≠ i)) = ((List.range ops.size).filter fun k => !listed.getD k false).erase i := by
              rw [hnd.erase_eq_filter]
              congr 1
              funext k
              by_cases hk : k = i <;> simp [hk]
            rw [herase, List.length_erase_of_mem hmem]
            omega
          · rw [hset, ← env_done hO hoi hri hE0 S.e ops.size hi1, ← ent_done hO hoi hri (List.all_eq_true.1 heff ri (List.mem_of_getElem? hri)) hE0 S.o ops.size hi1]
            exact hR'
  refine main ops.size _ a w (by simp) ?_ ?_ ?_
  · intro j o hj hE
    simp [Array.getElem?_replicate] at hE
    by_cases hjl : j < ops.size <;> simp [hjl] at hE
  · rw [List.filter_eq_self.2]
    · simp
    · intro i hi
      have := List.mem_range.1 hi
      simp [this]
  · have h1 : ∀ m, envAt ops.toList rs (fun i => (Array.replicate ops.size false).getD i false) S.e m = S.e := by
      intro m
      induction m with
      | zero => rfl
      | succ m ih =>
        rw [envAt]
        split
        · rw [if_neg (by by_cases hm : m < ops.size <;> simp [hm])]; exact ih
        · exact ih
    have h2 : ∀ m, entAt ops.toList rs (fun i => (Array.replicate ops.size false).getD i false) S.o m = S.o := by
      intro m
      induction m with
      | zero => rfl
      | succ m ih =>
        rw [entAt]
        split
        · rw [if_neg (by by_cases hm : m < ops.size <;> simp [hm])]; exact ih
        · exact ih
    rw [h1, h2]
    exact hrd
end
end Go.Proofs.Ytnhljpbpfaablaa.VS
