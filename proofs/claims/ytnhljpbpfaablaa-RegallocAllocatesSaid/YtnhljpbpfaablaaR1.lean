/- The row layer, part 1: what an argument reads as is data, and it reads so afterwards. Conditions: none. -/
import Derived.Test.YtnhljpbpfaablaaV14
import Derived.OpenShut
import Derived.Carry
import Derived.SizedLaws
import Derived.ProofKit
set_option linter.unusedSimpArgs false
set_option linter.unusedVariables false
namespace Go.Proofs.Ytnhljpbpfaablaa.VS
open Go Go.RowKit Go.ChangeShapes Go.WideShapes Go.ChangeAt

/-- The cells of a type. -/
inductive CT where
  | i (k : IntKind)
  | b
  | s
  | sl (bytes : Nat) (l : List CT)
def flatFs (fl : TypeId → Option (List CT)) (P : Program) : List Field → Nat → Option (List CT)
  | [], _ => some []
  | f :: fs, off => if Nat.beq f.offset off then (fl f.type).bind fun l => if Nat.beq (P.cellsOf f.type) l.length then (flatFs fl P fs (off + l.length)).map (l ++ ·) else none else none
def flatT (P : Program) : Nat → TypeId → Option (List CT)
  | 0, _ => none
  | n + 1, t => match P.underlying t with
    | some .bool => some [.b]
    | some (.int k) => some [.i k]
    | some .string => some [.s]
    | some (.slice e) => (flatT P n e).bind fun l => if Nat.beq (P.cellsOf e) l.length then some [.sl (P.bytesOf e) l] else none
    | some (.struct fs) => (flatFs (flatT P n) P fs.toList 0).bind fun l => if Nat.beq (P.cellsOf t) l.length then some l else none
    | some (.array k e) => (flatT P n e).bind fun l => if Nat.beq (P.cellsOf e) l.length && Nat.beq (P.cellsOf t) (k * l.length) then some (List.replicate k l).flatten else none
    | _ => none
/-- Data of cells; 'bd': so many elements of so many bytes a slice may have. -/
inductive Has (bd : Nat → Nat → Prop) : CT → FV → Prop
  | i (k : IntKind) (n : Int) (h : (Lit.int k n).wf = true) : Has bd (.i k) (.i k n)
  | b (x : Bool) : Has bd .b (.b x)
  | s (x : ByteArray) : Has bd .s (.s x)
  | sl (bytes : Nat) (l : List CT) (xs : List (List FV)) (h0 : xs.length ≤ maxLen) (h : bd bytes xs.length) (hl : ∀ x ∈ xs, x.length = l.length) (h2 : ∀ (j i : Nat) (x : List FV) (c : CT) (y : FV), xs[j]? = some x → l[i]? = some c → x[i]? = some y → Has bd c y) : Has bd (.sl bytes l) (.sl xs)

/-- A bound on data that its parts inherit. -/
structure Closed {H : Type} (P : Program) (bd : Nat → Nat → Prop) (G : TypeId → DataW H → Prop) : Prop where
  nil : ∀ t e, P.underlying t = some (.slice e) → bd (P.bytesOf e) 0
  slice : ∀ t e elems spare, P.underlying t = some (.slice e) → G t (.slice elems spare) → bd (P.bytesOf e) elems.length ∧ ∀ x ∈ elems, G e x
  struct : ∀ t fs parts, P.underlying t = some (.struct fs) → G t (.agg parts) → ∀ (i : Nat) (f : Field) (d : DataW H), fs[i]? = some f → parts[i]? = some d → G f.type d
  array : ∀ t n e parts, P.underlying t = some (.array n e) → G t (.agg parts) → ∀ d ∈ parts, G e d

section
variable {H : Type} {enc : TypeId × Value → H} {P : Program} {W : World} {bd : Nat → Nat → Prop} {G : TypeId → DataW H → Prop}
abbrev All : Nat → Prop := fun _ => True
def Reads (P : Program) (W : World) (bd : Nat → Nat → Prop) (ct : List CT) (cs : List Value) : Prop := ∃ xs : List FV, All2 (FRep W All) xs cs ∧ All2 (Has bd) ct xs
theorem Reads.append {c1 c2 : List CT} {v1 v2 : List Value} (h1 : Reads P W bd c1 v1) (h2 : Reads P W bd c2 v2) : Reads P W bd (c1 ++ c2) (v1 ++ v2) := by
  obtain ⟨x1, a1, b1⟩ := h1
  obtain ⟨x2, a2, b2⟩ := h2
  exact ⟨x1 ++ x2, a1.append a2, b1.append b2⟩
theorem Reads.len {c : List CT} {v : List Value} (h : Reads P W bd c v) : c.length = v.length := by
  obtain ⟨x, a, b⟩ := h
  rw [b.length, a.length]
theorem reads_fields {fl : TypeId → Option (List CT)} {cs : List Value} : ∀ (fs : List Field) (off : Nat) (ct : List CT), flatFs fl P fs off = some ct → off + ct.length = cs.length →
    (∀ (i : Nat) (f : Field) (l : List CT), fs[i]? = some f → fl f.type = some l → P.cellsOf f.type = l.length → Reads P W bd l ((cs.drop f.offset).take (P.cellsOf f.type))) → Reads P W bd ct (cs.drop off)
  | [], off, ct, h, hl, _ => by
    simp only [flatFs] at h
    cases h
    rw [List.drop_eq_nil_of_le (by simp at hl; omega)]
    exact ⟨[], .nil, .nil⟩
  | f :: fs, off, ct, h, hl, hr => by
    simp only [flatFs] at h
    split at h
    · rename_i ho
      have ho : f.offset = off := by simpa using ho
      cases hf : fl f.type with
      | none => rw [hf] at h; cases h
      | some l =>
        rw [hf] at h
        simp only [Option.bind_some] at h
        split at h
        · rename_i hc
          have hc : P.cellsOf f.type = l.length := by simpa using hc
          cases hg : flatFs fl P fs (off + l.length) with
          | none => rw [hg] at h; cases h
          | some r =>
            rw [hg] at h
            simp only [Option.map_some, Option.some.injEq] at h
            subst h
            have h1 := hr 0 f l rfl hf hc
            rw [ho, hc] at h1
            have h2 := reads_fields fs (off + l.length) r hg (by rw [List.length_append] at hl; omega) (fun i f' l' hi => hr (i + 1) f' l' (by simpa using hi))
            have := h1.append h2
            rwa [← List.drop_drop, List.take_append_drop] at this
        · cases h
    · cases h
theorem reads_array {l : List CT} {cs : List Value} : ∀ (k j : Nat), cs.length = (j + k) * l.length → (∀ i, i < j + k → Reads P W bd l ((cs.drop (i * l.length)).take l.length)) → Reads P W bd (List.replicate k l).flatten (cs.drop (j * l.length))
  | 0, j, hl, _ => by
    rw [List.drop_eq_nil_of_le (by simp at hl; omega)]
    exact ⟨[], .nil, .nil⟩
  | k + 1, j, hl, hr => by
    have h1 := hr j (by omega)
    have h2 := reads_array k (j + 1) (by rw [hl]; congr 1; omega) (fun i hi => hr i (by omega))
    have := h1.append h2
    rw [List.replicate_succ, List.flatten_cons]
    rwa [Nat.succ_mul, ← List.drop_drop, List.take_append_drop] at this
theorem add_twice (a : Addr) (x y : Nat) : (a.add x).add y = a.add (x + y) := by
  by_cases hx : x = 0 <;> by_cases hy : y = 0 <;> simp [Addr.add, hx, hy, Nat.add_assoc]
/-- WHAT READS IS DATA. -/
theorem reads (hG : Closed P bd G) : ∀ (fuel : Nat) (t : TypeId) (cs : List Value) (d : DataW H) (ps : List MemPlace) (n : Nat) (ct : List CT), DataW.trod enc P W 0 (fun _ => true) true fuel t cs = some (d, ps) → flatT P n t = some ct → G t d → Reads P W bd ct cs := by
  intro fuel
  induction fuel with
  | zero => intro t cs d ps n ct h; simp [DataW.trod] at h
  | succ fuel ih =>
    intro t cs d ps n ct h hf hg
    cases n with
    | zero => cases hf
    | succ n =>
      rw [flatT] at hf
      cases hu : P.underlying t with
      | none => rw [hu] at hf; cases hf
      | some td =>
        rw [hu] at hf
        cases td with
        | bool =>
          cases hf
          obtain ⟨x, rfl, _⟩ := DataW.trod_bool hu h
          exact ⟨[.b x], .cons (.b x) .nil, .cons (.b x) .nil⟩
        | int k =>
          cases hf
          obtain ⟨x, rfl, _, hw⟩ := DataW.trod_int hu h
          exact ⟨[.i k x], .cons (.i k x) .nil, .cons (.i k x hw) .nil⟩
        | string =>
          cases hf
          obtain ⟨x, rfl, _, _⟩ := DataW.trod_string hu h
          exact ⟨[.s x], .cons (.s x) .nil, .cons (.s x) .nil⟩
        | slice e =>
          cases he : flatT P n e with
          | none => simp [he] at hf
          | some l =>
            simp only [he, Option.bind_some] at hf
            split at hf
            · rename_i hc
              have hc : P.cellsOf e = l.length := by simpa using hc
              cases hf
              rcases DataW.trod_slice hu h with ⟨rfl, hx⟩ | ⟨a, len, cap, elems, rest, m, hm, rfl, hx, _, hlc, hcm, hel, hval, _, _⟩
              · exact ⟨[.sl []], .cons nil_rep .nil, .cons (.sl _ _ [] (Nat.zero_le _) (hG.nil t e hu) (fun x hx => by cases hx) (fun j i x c y hj => by simp at hj)) .nil⟩
              · simp only [Prod.mk.injEq] at hx
                obtain ⟨rfl, _⟩ := hx
                obtain ⟨hb, hel2⟩ := hG.slice t e _ _ hu hg
                cases hm
                have key : ∀ j, j < len → ∃ vs : List Value, (∀ i, i < l.length → W.cell? ((a.add (j * l.length)).add i) = vs[i]?) ∧ Reads P W bd l vs := by
                  intro j hj
                  have h1 := hval j hj
                  have h2 : ∃ x, elems[j]? = some x := ⟨elems[j]'(by omega), by simp⟩
                  obtain ⟨⟨d', ps'⟩, h2⟩ := h2
                  rw [h2] at h1
                  cases hcs : W.cells? 0 (a.add (j * P.cellsOf e)) (P.cellsOf e) with
                  | none => rw [hcs] at h1; cases h1
                  | some vs =>
                    rw [hcs] at h1
                    obtain ⟨_, _, h3⟩ := World.cells?_some hcs
                    refine ⟨vs, by rw [← hc]; exact h3, ih e vs d' ps' n l h1 he (hel2 d' ?_)⟩
                    exact List.mem_map.2 ⟨(d', ps'), List.mem_of_getElem? h2, rfl⟩
                have pick : ∃ f : Nat → List FV, ∀ j, j < len → ∃ vs : List Value, (∀ i, i < l.length → W.cell? ((a.add (j * l.length)).add i) = vs[i]?) ∧ All2 (FRep W All) (f j) vs ∧ All2 (Has bd) l (f j) := by
                  refine ⟨fun j => if h : j < len then Classical.choose (Classical.choose_spec (key j h)).2 else [], fun j hj => ?_⟩
                  have h1 := Classical.choose_spec (key j hj)
                  have h2 := Classical.choose_spec h1.2
                  simp only [dif_pos hj]
                  exact ⟨_, h1.1, h2.1, h2.2⟩
                obtain ⟨f, hf⟩ := pick
                have hget : ∀ (j : Nat) (x : List FV), ((List.range len).map f)[j]? = some x → j < len ∧ x = f j := by
                  intro j x hj
                  rw [List.getElem?_map] at hj
                  by_cases hlt : j < len
                  · rw [List.getElem?_range hlt] at hj
                    simp at hj
                    exact ⟨hlt, hj.symm⟩
                  · rw [List.getElem?_eq_none (by simp; omega)] at hj
                    cases hj
                have hlen : ∀ x ∈ (List.range len).map f, x.length = l.length := by
                  intro x hx
                  obtain ⟨j, hj⟩ := List.getElem?_of_mem hx
                  obtain ⟨hlt, rfl⟩ := hget j x hj
                  obtain ⟨_, _, _, h3⟩ := hf j hlt
                  exact h3.length.symm
                refine ⟨[.sl ((List.range len).map f)], .cons (.sl _ (some a) len cap l.length (fun j i => (W.cell? (a.add (j * l.length + i))).getD Go.undef) (by simp) hlc (Nat.le_trans hlc hcm) hlen (fun _ => ⟨a, rfl, fun j i hj hi => ⟨trivial, ?_⟩⟩) (fun j i x y hj hi => ?_) (fun h => by cases h)) .nil, .cons (.sl _ _ _ (by simpa using Nat.le_trans hlc hcm) (by simpa [hel] using hb) hlen (fun j i x c y hj hc hy => ?_)) .nil⟩
                · obtain ⟨vs, h1, h2, h3⟩ := hf j hj
                  have h4 := h1 i hi
                  rw [add_twice] at h4
                  obtain ⟨u, hu⟩ : ∃ u, vs[i]? = some u := ⟨vs[i]'(by rw [← h2.length, ← h3.length]; exact hi), by simp⟩
                  rw [hu] at h4
                  rw [h4]
                  rfl
                · obtain ⟨hlt, rfl⟩ := hget j x hj
                  obtain ⟨vs, h1, h2, h3⟩ := hf j hlt
                  obtain ⟨u, hu, hr⟩ := h2.get i y hi
                  have hil : i < l.length := by
                    rw [h3.length]
                    exact (List.getElem?_eq_some_iff.1 hi).1
                  have h4 := h1 i hil
                  rw [add_twice, hu] at h4
                  rw [h4]
                  exact hr
                · obtain ⟨hlt, rfl⟩ := hget j x hj
                  obtain ⟨vs, h1, h2, h3⟩ := hf j hlt
                  obtain ⟨y', hy', hr⟩ := h3.get i c hc
                  rw [hy] at hy'
                  cases hy'
                  exact hr
            · cases hf
        | struct fs =>
          cases he : flatFs (flatT P n) P fs.toList 0 with
          | none => simp [he] at hf
          | some l =>
            simp only [he, Option.bind_some] at hf
            split at hf
            · rename_i hc
              have hc : P.cellsOf t = l.length := by simpa using hc
              cases hf
              obtain ⟨xs, m, hm, hx, hcl, hxl, hval⟩ := DataW.trod_struct hu h
              simp only [Prod.mk.injEq] at hx
              obtain ⟨rfl, _⟩ := hx
              cases hm
              have := reads_fields (P := P) (W := W) (bd := bd) (cs := cs) fs.toList 0 ct he (by omega) (fun i f l' hi hl' hcf => ?_)
              · simpa using this
              · have hi' : fs[i]? = some f := by simpa using hi
                have h1 := hval i f hi'
                have h2 : ∃ x, xs[i]? = some x := ⟨xs[i]'(by rw [hxl]; exact (Array.getElem?_eq_some_iff.1 hi').1), by simp⟩
                obtain ⟨⟨d', ps'⟩, h2⟩ := h2
                rw [h2] at h1
                exact ih f.type _ d' ps' n l' h1 hl' (hG.struct t fs _ hu hg i f d' hi' (by simp [h2]))
            · cases hf
        | array k e =>
          cases he : flatT P n e with
          | none => simp [he] at hf
          | some l =>
            simp only [he, Option.bind_some] at hf
            split at hf
            · rename_i hc
              simp only [Bool.and_eq_true, Nat.beq_eq] at hc
              obtain ⟨hc, hct⟩ := hc
              cases hf
              obtain ⟨xs, m, hm, hx, hcl, hxl, hval⟩ := DataW.trod_array hu h
              simp only [Prod.mk.injEq] at hx
              obtain ⟨rfl, _⟩ := hx
              cases hm
              have := reads_array (P := P) (W := W) (bd := bd) (l := l) (cs := cs) k 0 (by rw [hcl, hct]; simp) (fun i hi => ?_)
              · simpa using this
              · have h1 := hval i (by omega)
                have h2 : ∃ x, xs[i]? = some x := ⟨xs[i]'(by omega), by simp⟩
                obtain ⟨⟨d', ps'⟩, h2⟩ := h2
                rw [h2] at h1
                rw [← hc]
                exact ih e _ d' ps' n l h1 he (hG.array t k e _ hu hg d' (List.mem_map.2 ⟨_, List.mem_of_getElem? h2, rfl⟩))
            · cases hf
        | _ => cases hf

/-! ### Arguments -/
def aggT (P : Program) (t : TypeId) : Bool := match P.underlying t with
  | some (.struct _) | some (.array _ _) => true
  | _ => false
inductive Top (bd : Nat → Nat → Prop) : Bool × List CT → RV → Prop
  | agg {ct : List CT} {fs : List FV} (h : All2 (Has bd) ct fs) : Top bd (true, ct) (.agg fs)
  | one {c : CT} {y : FV} (h : Has bd c y) : Top bd (false, [c]) (.v y)
theorem flatT_one {n : Nat} {t : TypeId} {ct : List CT} (h : flatT P n t = some ct) (ha : aggT P t = false) : ∃ c, ct = [c] := by
  cases n with
  | zero => cases h
  | succ n =>
    rw [flatT] at h
    unfold aggT at ha
    cases hu : P.underlying t with
    | none => rw [hu] at h; cases h
    | some td =>
      rw [hu] at h ha
      cases td with
      | slice e =>
        cases he : flatT P n e with
        | none => simp [he] at h
        | some l =>
          simp only [he, Option.bind_some] at h
          split at h
          · cases h; exact ⟨_, rfl⟩
          · cases h
      | struct => cases ha
      | array => cases ha
      | bool => cases h; exact ⟨_, rfl⟩
      | int => cases h; exact ⟨_, rfl⟩
      | string => cases h; exact ⟨_, rfl⟩
      | _ => cases h
theorem one_cell {n : Nat} {t : TypeId} {ct : List CT} (h : flatT P n t = some ct) (ha : aggT P t = false) {base : Nat} {v : Value} (hv : Value.okWide P W .any base t v) : v.cells = #[v] := by
  cases n with
  | zero => cases h
  | succ n =>
    rw [flatT] at h
    unfold aggT at ha
    unfold Value.okWide Cell.okWide Cell.ok at hv
    cases hu : P.underlying t with
    | none => rw [hu] at h; cases h
    | some td =>
      rw [hu] at h ha
      simp only [hu] at hv
      cases td <;> first | (cases ha; done) | (cases h; done) | (cases v <;> first | rfl | (simp at hv; done))
theorem top (hG : Closed P bd G) {base n : Nat} {t : TypeId} {v : Value} {d : DataW H} {ps : List MemPlace} {ct : List CT} (hv : Value.okWide P W .any base t v) (h : DataW.Trod enc P W 0 (fun _ => true) true t v d ps) (hf : flatT P n t = some ct) (hg : G t d) :
    ∃ x : RV, x.rep W All v ∧ Top bd (aggT P t, ct) x := by
  obtain ⟨fuel, h⟩ := h
  obtain ⟨xs, h1, h2⟩ := reads hG fuel t _ d ps n ct h hf hg
  cases ha : aggT P t with
  | true =>
    have ha' := ha
    unfold aggT at ha
    unfold Value.okWide at hv
    split at ha
    · rename_i fs hu
      simp only [hu] at hv
      obtain ⟨cs, rfl, _, _⟩ := hv
      exact ⟨.agg xs, ⟨cs.toList, by simp, h1⟩, .agg h2⟩
    · rename_i k e hu
      simp only [hu] at hv
      obtain ⟨cs, rfl, _, _⟩ := hv
      exact ⟨.agg xs, ⟨cs.toList, by simp, h1⟩, .agg h2⟩
    · cases ha
  | false =>
    obtain ⟨c, rfl⟩ := flatT_one hf ha
    rw [one_cell hf ha hv] at h1
    cases h2 with
    | cons h3 h4 =>
      cases h4
      cases h1 with
      | cons h5 h6 => exact ⟨.v _, h5, .one h3⟩
def shape (P : Program) (n : Nat) (t : TypeId) : Option (Bool × List CT) := (flatT P n t).map fun l => (aggT P t, l)
theorem top_all (hG : Closed P bd G) {base n : Nat} : ∀ (ts : List TypeId) (vs : List Value) (ds : List (DataW H)) (ps : List MemPlace) (cts : List (Bool × List CT)), DataW.TrodAll enc P W 0 (fun _ => true) true ts vs ds ps →
    (∀ (j : Nat) t v, ts[j]? = some t → vs[j]? = some v → Value.okWide P W .any base t v) → (∀ (j : Nat) t d, ts[j]? = some t → ds[j]? = some d → G t d) → ts.map (shape P n) = cts.map some → ∃ xs, All2 (RV.rep W All) xs vs ∧ All2 (Top bd) cts xs
  | [], vs, ds, ps, cts, h, _, _, hc => by
    obtain ⟨rfl, rfl, rfl⟩ := trodAll_nil h
    cases cts with
    | nil => exact ⟨[], .nil, .nil⟩
    | cons => cases hc
  | t :: ts, vs, ds, ps, cts, h, hv, hg, hc => by
    obtain ⟨v, vs1, d, ds1, a, b, rfl, rfl, rfl, h1, h2⟩ := trodAll_cons h
    cases cts with
    | nil => cases hc
    | cons c cts =>
      simp only [List.map_cons, List.cons.injEq] at hc
      obtain ⟨hc1, hc2⟩ := hc
      obtain ⟨xs, h3, h4⟩ := top_all hG ts vs1 ds1 b cts h2 (fun j t v hj hk => hv (j + 1) t v (by simpa using hj) (by simpa using hk)) (fun j t d hj hk => hg (j + 1) t d (by simpa using hj) (by simpa using hk)) hc2
      unfold shape at hc1
      cases hf : flatT P n t with
      | none => rw [hf] at hc1; cases hc1
      | some ct =>
        rw [hf] at hc1
        simp only [Option.map_some, Option.some.injEq] at hc1
        subst hc1
        obtain ⟨x, h5, h6⟩ := top hG (hv 0 t v rfl rfl) h1 hf (hg 0 t d rfl rfl)
        exact ⟨x :: xs, .cons h5 h3, .cons h6 h4⟩
theorem trodAll_len : ∀ {ts : List TypeId} {vs : List Value} {ds : List (DataW H)} {ps : List MemPlace} {sp : Nat → Bool} {W : World}, DataW.TrodAll enc P W 0 sp true ts vs ds ps → ds.length = ts.length
  | [], _, _, _, _, _, h => by obtain ⟨rfl, rfl, rfl⟩ := trodAll_nil h; rfl
  | t :: ts, _, _, _, _, _, h => by
    obtain ⟨v, vs1, d, ds1, a, b, rfl, rfl, rfl, h1, h2⟩ := trodAll_cons h
    simp [trodAll_len h2]
theorem stays_all (hl : laidOutB P = true) {W' : World} {sp : Nat → Bool} : ∀ {ts : List TypeId} {vs : List Value} {ds : List (DataW H)} {ps : List MemPlace}, DataW.TrodAll enc P W 0 (fun _ => true) true ts vs ds ps → (∀ t ∈ ts, (P.readableRec t && decide (t < P.types.size)) = true) →
    (∀ p ∈ ps, W.sameAt W' p) → (∀ p ∈ ps, sp p.block = true) → DataW.TrodAll enc P W' 0 sp true ts vs ds ps
  | [], _, _, _, h, _, _, _ => by obtain ⟨rfl, rfl, rfl⟩ := trodAll_nil h; exact h
  | t :: ts, _, _, _, h, hr, hs, hp => by
    obtain ⟨v, vs1, d, ds1, a, b, rfl, rfl, rfl, h1, h2⟩ := trodAll_cons h
    have h3 := hr t (.head _)
    simp only [Bool.and_eq_true, decide_eq_true_eq] at h3
    exact trodAll_cons_mk (WideElems.Trod_stays hl h3.1 h3.2 h1 (fun p hp => hs p (List.mem_append.2 (.inl hp))) (fun q hq => hp q (List.mem_append.2 (.inl hq)))) (stays_all hl h2 (fun t ht => hr t (.tail _ ht)) (fun p hp => hs p (List.mem_append.2 (.inr hp))) (fun q hq => hp q (List.mem_append.2 (.inr hq))))
/-- A law: it answers true, nothing that was there has turned. -/
theorem post_law {f : Func} {s : ChangeSpec} {apart fresh handsOn again : Bool} {W' : World} {args : Array Value} {ds gs : List (DataW H)} {before : List MemPlace} {tb : TypeId} (hl : laidOutB P = true) (hvars : s.vars = []) (hts : ∀ t ∈ f.params.toList, (P.readableRec t && decide (t < P.types.size)) = true)
    (hres : f.resultTypes = #[tb]) (htb : P.underlying tb = some .bool) (hfn : ∀ ds : List (DataW H), ds.length = f.params.toList.length → (s.fn H ds).results = [.lit (.bool true)] ∧ (s.fn H ds).args = ds ∧ (s.fn H ds).vars = [])
    (hW : DataW.Whole enc P f.params.toList s.vars apart W args.toList ds gs before) (hb : Below W.heap.size W W') : s.post enc P f apart fresh handsOn again W args (.bool true) W' := by
  have hlt := hW.lt
  obtain ⟨p, q, hA, hV, rfl, hz, hn⟩ := hW
  have hV' := hV
  rw [hvars] at hV
  obtain ⟨rfl, rfl⟩ := trodVars_none hV
  rw [List.append_nil] at hlt hz hn
  have hF := hfn (ds ++ []) (by rw [List.append_nil]; exact trodAll_len hA)
  rw [List.append_nil] at hF
  have hstay : ∀ sp : Nat → Bool, (∀ x ∈ p, sp x.block = true) → DataW.TrodAll enc P W' 0 sp true f.params.toList args.toList ds p := fun sp hsp => stays_all hl hA hts (fun x hx => hb.same (hlt x hx)) hsp
  have hR : ∀ (b : Nat) (sp : Nat → Bool) (hd : Bool), DataW.TrodAll enc P W' b sp hd f.resultTypes.toList ((Value.bool true).resultList f.resultTypes.size) (s.fn H (ds ++ [])).results [] := fun b sp hd => by
    rw [List.append_nil, hF.1, hres]
    exact trodAll_cons_mk (shut_bool htb _) trodAll_mk0
  have hvv : ∀ sp : Nat → Bool, DataW.TrodVars enc P W' sp s.vars (s.fn H (ds ++ [])).vars [] := fun sp => by
    rw [List.append_nil, hF.2.2, hvars]; rfl
  have hargs : (s.fn H (ds ++ [])).args = ds := by rw [List.append_nil]; exact hF.2.1
  refine ⟨ds, [], p ++ [], [], p, [], ⟨p, [], hA, hV', rfl, by rw [List.append_nil]; exact hz, by rw [List.append_nil]; exact hn⟩, hR _ _ _, ?_, hvv _, ?_, fun _ => ?_⟩
  · rw [hargs]
    exact hstay _ fun x hx => by simpa using hlt x hx
  · exact World.keptBut_mono (fun x hx => ⟨by simpa using hx, .inr (by simpa using hx)⟩) (hb.frame (· ∈ p))
  · refine ⟨ok_one hres rfl (okWide_bool_mk htb _), _, _, ([] ++ p) ++ [], ⟨[] ++ p, [], trodAll_append (hstay _ fun _ _ => rfl) (hR _ _ _), hvv _, rfl, ?_, ?_⟩, ?_⟩
    · intro b off hp
      have hp' : MemPlace.cell b off ∈ p := by simpa using hp
      have := hb.frozen (p := ⟨b, off, none⟩) (hlt _ hp')
      rw [this]
      exact hz b off hp'
    · intro ha
      simpa using hn ha
    · intro x hx _
      simpa using hx
end
end Go.Proofs.Ytnhljpbpfaablaa.VS
