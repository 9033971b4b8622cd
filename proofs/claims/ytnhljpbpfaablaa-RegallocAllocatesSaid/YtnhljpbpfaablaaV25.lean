/- Value semantics, part 25: functions that turn the caller's variables and rows. Conditions: none. -/
import Derived.Test.YtnhljpbpfaablaaV24
set_option linter.unusedSimpArgs false
set_option linter.unusedVariables false
namespace Go.Proofs.Ytnhljpbpfaablaa.VS
open Go Go.RowKit

/-- The slot leads to none of these rows. -/
def Slot.free (qs : List Nat) : Slot → Bool
  | .own p _ => !qs.contains p
  | .op p _ _ => !qs.contains p
  | .opb p _ _ _ => !qs.contains p
  | _ => true
def Ent.free (qs : List Nat) : Ent → Bool
  | .box _ cs => cs.all (Slot.free qs)
  | .sav K => K.all fun x => x.1.free qs
  | _ => true
/-- Called with these slots it hands back this and turns the entries so; what else the caller holds (K, which leads to none of the rows qs) stands. -/
def FnX (P : Program) (f : FuncId) (qs : List Nat) (ss : List Slot) (out : Out) (O O' : List Ent) : Prop :=
  ∀ (w0 : World) (ok0 : Nat → Prop) (ρ : Nat → Value) (w : World) (vs : List Value) (K : List (Slot × Value)), EntsR w0 ok0 ρ (entO (O ++ [.sav K])) w → (K.all fun x => x.1.under O.length) = true → (K.all fun x => x.1.free qs) = true →
    All2 (SlotRep w (okS w0 ok0 (entO (O ++ [.sav K])) ρ) (entO (O ++ [.sav K])) ρ) ss vs →
    Calls P f vs.toArray w fun e w' => ∃ v ρ', e = .returned v ∧ EntsR w0 ok0 ρ' (entO (O' ++ [.sav K])) w' ∧ out.rep w' (okS w0 ok0 (entO (O' ++ [.sav K])) ρ') v
inductive OutX (rs : Array ResultVar) (E : List (Nat × Slot)) : Out → Prop
  | none (h : rs = #[]) : OutX rs E .none
  | one {t : Nat} {x : RV} (h : rs = #[.tmp t]) (hl : Look E t (.r x)) : OutX rs E (.one x)
theorem fnX_of {P : Program} {f : FuncId} {fn : Func} {c : Code} {N : Nat} {qs : List Nat} {ss : List Slot} {out : Out} {O O' : List Ent} (hf : P.funcs[f]? = some fn) (hN : fn.ntmps = N) (h : ∀ K : List (Slot × Value), (K.all fun x => x.1.under O.length) = true → (K.all fun x => x.1.free qs) = true →
      AWP P N c (fun e S => (e = .normal ∨ e = .ret) ∧ Wk N S (fun S0 => S0.ents = O' ++ [.sav K] ∧ OutX fn.results S0.env out)) ⟨slotEnv 0 ss, O ++ [.sav K]⟩) (hb : fn.body = some c := by exact rfl) (hn : ss.length ≤ N := by exact Nat.le_of_ble_eq_true rfl) : FnX P f qs ss out O O' := by
  subst hN
  intro w0 ok0 ρ w vs K hE hK hKf hss
  have hl1 := hss.length
  refine calls_of_wp hf hb (wp_mono (h K hK hKf w0 ok0 _ w ⟨ρ, ?_⟩) fun e a' w' hq => ?_)
  · refine ⟨by simp; omega, rfl, hE.below, hE.inj, hE.ent, fun t => ?_⟩
    show SlotRep _ _ _ _ (look (slotEnv 0 ss) t) _
    rw [look_slotEnv, if_pos (Nat.zero_le _), Nat.sub_zero, List.getD_eq_getElem?_getD]
    cases hx : ss[t]? with
    | none => trivial
    | some x =>
      obtain ⟨v, hv, hr⟩ := hss.get t x hx
      have : (vs.toArray ++ Array.replicate (fn.ntmps - vs.toArray.size) Go.undef).getD t Go.undef = v := by
        have hlt : t < vs.length := (List.getElem?_eq_some_iff.1 hv).1
        rw [Array.getD_eq_getD_getElem?, Array.getElem?_append_left (by simpa using hlt)]
        simp [hv]
      rw [this]
      exact hr
  · obtain ⟨S, ⟨he, S0, hw, hS0, hout⟩, hR⟩ := hq
    have hR2 := hw w0 ok0 a' w' hR
    obtain ⟨ρ', hR2⟩ := hR2
    have hS : S0.o = entO (O' ++ [.sav K]) := by rw [← hS0]; rfl
    have hslot := hR2.slot
    rw [hS] at hR2 hslot
    have fin : ∃ v, (results fn a'.tmps).run P w' = .ok v w' ∧ out.rep w' (okS w0 ok0 (entO (O' ++ [.sav K])) ρ') v := by
      cases hout with
      | none hr => exact ⟨.tuple #[], by rw [results_eq, hr]; simp, rfl⟩
      | one hr hl =>
        rename_i t x
        refine ⟨a'.tmps.getD t Go.undef, by rw [results_eq, hr]; simp [rdv], ?_⟩
        have h1 := hslot t
        rw [show S0.e t = _ from hl.eq] at h1
        exact h1
    obtain ⟨v, hrun, hrep⟩ := fin
    have fin : ∃ v' ρ', (Ending.returned v : Ending) = .returned v' ∧ EntsR w0 ok0 ρ' (entO (O' ++ [.sav K])) w' ∧ out.rep w' (okS w0 ok0 (entO (O' ++ [.sav K])) ρ') v' := ⟨v, ρ', rfl, ⟨hR2.below, hR2.inj, hR2.ent⟩, hrep⟩
    rcases he with rfl | rfl
    · exact ⟨hR2.defers, v, hrun, fin⟩
    · exact ⟨hR2.defers, v, hrun, fin⟩
theorem Out.slot_under (out : Out) (n : Nat) : out.slot.under n = true := by cases out <;> rfl
inductive ArgX (E : List (Nat × Slot)) : List Operand → List Slot → Prop
  | nil : ArgX E [] []
  | s {x : Operand} {s : Slot} {l : List Operand} {r : List Slot} (hx : Opd E x s) (h : ArgX E l r) : ArgX E (x :: l) (s :: r)
theorem ArgX.rep {E : List (Nat × Slot)} {l : List Operand} {r : List Slot} (h : ArgX E l r) {w : World} {ok : Nat → Prop} {ents' : Nat → Ent} {ρ : Nat → Value} {a : Act}
    (hr : ∀ x ∈ l, SlotRep w ok ents' ρ (ev (look E) x) (a.eval x)) : All2 (SlotRep w ok ents' ρ) r (l.map a.eval) := by
  induction h with
  | nil => exact .nil
  | s hx _ ih =>
    refine .cons ?_ (ih fun p hp => hr p (.tail _ hp))
    have h1 := hr _ (.head _)
    rw [hx.eq] at h1
    exact h1
theorem callX {P : Program} {ops : Array Oper} {N : Nat} {M : St → Prop} {E : List (Nat × Slot)} {O O' : List Ent} {d : Nat} {c : Operand} {args : Array Operand} {at_ : Array TypeId} {ty : TypeId} {pos : String} {after : Array Edge} {f : FuncId} [IsFn P f] {qs : List Nat} {ss : List Slot} {out : Out}
    (hF : FnX P f qs ss out O O') (hm : M ⟨(d, out.slot) :: E, O'⟩) (hc : Opd E c (.r (.v (.fn f)))) (ha : ArgX E args.toList ss) (hlen : O'.length = O.length) (hE : (E.all fun x => x.2.under O.length) = true) (hEf : (E.all fun x => x.2.free qs) = true) (hO : O'.all (Ent.under O.length) = true) (hd : d < N) :
    CloCall P ops N ⟨some d, .call { callee := .value c, args := args, argTypes := at_ }, ty, pos, after, none⟩ ⟨E, O⟩ M := by
  intro w0 ok0 a w Kc Q hr hk
  have hwant : Region.wanted ⟨some d, .call { callee := .value c, args := args, argTypes := at_ }, ty, pos, after, none⟩ (yielded ops a.tmps) = true := rfl
  rw [if_pos hwant]
  obtain ⟨ρ, hR⟩ := hr
  have hR : RelR N w0 ok0 ρ (look E) (entO O) a w := hR
  generalize hKd : E.map (fun x => (look E x.1, a.tmps.getD x.1 Go.undef)) = K
  have hKu : (K.all fun x => x.1.under O.length) = true := by
    rw [← hKd, List.all_map, List.all_eq_true]
    intro x hx
    rcases look_mem (E := E) (t := x.1) with h | ⟨y, hy, h⟩
    · show (look E x.1).under _ = true; rw [h]; rfl
    · show (look E x.1).under _ = true; rw [← h]; exact List.all_eq_true.1 hE y hy
  have hKf : (K.all fun x => x.1.free qs) = true := by
    rw [← hKd, List.all_map, List.all_eq_true]
    intro x hx
    rcases look_mem (E := E) (t := x.1) with h | ⟨y, hy, h⟩
    · show (look E x.1).free _ = true; rw [h]; rfl
    · show (look E x.1).free _ = true; rw [← h]; exact List.all_eq_true.1 hEf y hy
  have hgone : entO O O.length = .gone := by simp [entO]
  have hsame : ∀ q, q ≠ O.length → entO (O ++ [.sav K]) q = entO O q := fun q hq => by rw [entO_append, if_neg hq]
  have hat : entO (O ++ [.sav K]) O.length = .sav K := by rw [entO_append, if_pos rfl]
  have hR1 : RelR N w0 ok0 ρ (look E) (entO (O ++ [.sav K])) a w := by
    refine hR.move (ρ' := ρ) O.length hR.below (fun _ _ _ => rfl) (fun q hq => ⟨hsame q hq, rfl⟩) ⟨fun ty cs h => (by rw [hgone] at h; cases h), fun l h => (by rw [hgone] at h; cases h)⟩ (fun g h _ => (by rw [hat] at h; exact h.elim)) (fun hcc hkeep => ?_)
    rw [hat]
    intro x hx
    rw [← hKd] at hx
    obtain ⟨y, _, rfl⟩ := List.mem_map.1 hx
    exact (hR.slot y.1).step hcc hkeep
  have hrv : ∀ x : Operand, SlotRep w (okS w0 ok0 (entO (O ++ [.sav K])) ρ) (entO (O ++ [.sav K])) ρ (ev (look E) x) (a.eval x) := fun x => hR1.ev x
  have h1 := hrv c
  rw [hc.eq] at h1
  have hv : a.eval c = .func (.func f) #[] #[] := by
    generalize a.eval c = v at h1
    have h1 : FRep _ _ (.fn f) v := h1
    cases h1
    rfl
  have hxs := ha.rep (a := a) (fun x _ => hrv x)
  have hrun : (execOp a.eval ⟨some d, .call { callee := .value c, args := args, argTypes := at_ }, ty, pos, after, none⟩).run P w = .ok (.enter f (args.map a.eval)) w := by
    simp [execOp, resolve, hv, Deferred.ofValue, invoke, run_enter]
  unfold Oper.wp
  rw [hrun]
  have hargs : args.map a.eval = (args.toList.map a.eval).toArray := by
    rw [← Array.toList_map, Array.toArray_toList]
  rw [hargs]
  refine (hF w0 ok0 ρ w _ K ⟨hR1.below, hR1.inj, hR1.ent⟩ hKu hKf hxs).mono fun e w' h => ?_
  obtain ⟨v, ρ', rfl, hE', ho⟩ := h
  have hat' : entO (O' ++ [.sav K]) O.length = .sav K := by rw [entO_append, if_pos hlen.symm]
  have hR2 : RelR N w0 ok0 ρ' (look E) (entO (O' ++ [.sav K])) a w' := by
    refine ⟨hR.size, hR.defers, hE'.below, hE'.inj, hE'.ent, fun t => ?_⟩
    have hK' := hE'.ent O.length
    rw [hat'] at hK'
    have hK' : ∀ x ∈ K, SlotRep w' (okS w0 ok0 (entO (O' ++ [.sav K])) ρ') (entO (O' ++ [.sav K])) ρ' x.1 x.2 := hK'
    by_cases hmem : ∃ x ∈ E, x.1 = t
    · obtain ⟨x, hx, rfl⟩ := hmem
      exact hK' (look E x.1, a.tmps.getD x.1 Go.undef) (by rw [← hKd]; exact List.mem_map.2 ⟨x, hx, rfl⟩)
    · have hnone : look E t = .undef := by
        exact look_none fun x hx h => hmem ⟨x, hx, h⟩
      rw [hnone]; trivial
  have hR3 := hR2.put (s := out.slot) (v := v) (some d) (fun d' h => by cases h; exact hd) (Out.rep.slot ho)
  refine hk ⟨(d, out.slot) :: E, O'⟩ _ w' hm ?_
  have htake : (O' ++ [Ent.sav K]).take O.length = O' := by rw [← hlen]; simp
  have hw := weak_take (N := N) (S := ⟨(d, out.slot) :: E, O' ++ [.sav K]⟩) O.length (by simp only [List.all_cons, Bool.and_eq_true]; exact ⟨out.slot_under _, hE⟩) (by rw [htake]; exact hO)
  have hrel : Rel N w0 ok0 (⟨(d, out.slot) :: E, O' ++ [.sav K]⟩ : St).e (⟨(d, out.slot) :: E, O' ++ [.sav K]⟩ : St).o (a.put (some d) v) w' := by
    have e1 : (⟨(d, out.slot) :: E, O' ++ [.sav K]⟩ : St).e = updO (look E) (some d) out.slot := look_putE E (some d) out.slot
    rw [e1]
    exact ⟨ρ', hR3⟩
  have := hw w0 ok0 _ w' hrel
  rw [htake] at this
  exact this
/-- Operations from a state on. -/
theorem runs_wp {P : Program} {ops : Array Oper} {N : Nat} {Q : Exit → St → Prop} {w0 : World} {ok0 : Nat → Prop} : ∀ (l : List Oper) (S : St) (rs : List Rec) (a : Act) (w : World), Runs P ops N (fun S' _ => Q .normal S') l S rs → Rel N w0 ok0 S.e S.o a w → wpList P ops (lift N w0 ok0 Q) l a w
  | [], S, rs, a, w, h, hr => ⟨S, h, hr⟩
  | o :: l, S, rs, a, w, h, hr => by
    obtain ⟨r, hop, hfit, hrest⟩ := h
    show if _ then _ ∨ _ else _
    have := hop w0 ok0 S.e S.o a w (fun _ _ => rfl) (fun _ _ => rfl) hr (wpList P ops (lift N w0 ok0 Q) l) (lift N w0 ok0 Q) (fun a' w' hr' => runs_wp l _ (r :: rs) a' w' hrest (by rw [step_e, step_o _ _ _ hfit]; exact hr'))
    by_cases hw : Region.wanted o (yielded ops a.tmps) = true
    · rw [if_pos hw] at this ⊢
      exact .inl this
    · rw [if_neg hw] at this ⊢
      exact this
theorem runs_mid {P : Program} {ops : Array Oper} {N : Nat} {Q : Exit → St → Prop} {w0 : World} {ok0 : Nat → Prop} {o : Oper} {post : List Oper} : ∀ (l : List Oper) (S : St) (rs : List Rec) (a : Act) (w : World), Runs P ops N (fun S1 _ => CloCall P ops N o S1 (fun S2 => Runs P ops N (fun S3 _ => Q .normal S3) post S2 [])) l S rs → Rel N w0 ok0 S.e S.o a w → wpList P ops (lift N w0 ok0 Q) (l ++ o :: post) a w
  | [], S, rs, a, w, h, hr => by
    show if _ then _ ∨ _ else _
    have h : CloCall P ops N o S (fun S2 => Runs P ops N (fun S3 _ => Q .normal S3) post S2 []) := h
    have := h w0 ok0 a w (wpList P ops (lift N w0 ok0 Q) post) (lift N w0 ok0 Q) hr (fun S2 a' w' hm hr' => runs_wp post S2 _ a' w' hm hr')
    by_cases hw : Region.wanted o (yielded ops a.tmps) = true
    · rw [if_pos hw] at this ⊢
      exact .inl this
    · rw [if_neg hw] at this ⊢
      exact this
  | o' :: l, S, rs, a, w, h, hr => by
    obtain ⟨r, hop, hfit, hrest⟩ := h
    show if _ then _ ∨ _ else _
    have := hop w0 ok0 S.e S.o a w (fun _ _ => rfl) (fun _ _ => rfl) hr (wpList P ops (lift N w0 ok0 Q) (l ++ o :: post)) (lift N w0 ok0 Q) (fun a' w' hr' => runs_mid l _ (r :: rs) a' w' hrest (by rw [step_e, step_o _ _ _ hfit]; exact hr'))
    by_cases hw : Region.wanted o' (yielded ops a.tmps) = true
    · rw [if_pos hw] at this ⊢
      exact .inl this
    · rw [if_neg hw] at this ⊢
      exact this
theorem awp_region_mid {P : Program} {N : Nat} {Q : Exit → St → Prop} {S : St} {id : Nat} {ops : Array Oper} {pre post : List Oper} {o : Oper} (he : ops.toList = pre ++ o :: post)
    (h : Runs P ops N (fun S1 _ => CloCall P ops N o S1 (fun S2 => Runs P ops N (fun S3 _ => Q .normal S3) post S2 [])) pre S []) : AWP P N (.region id ops false) Q S := by
  intro w0 ok0 a w hr
  refine wp_region_list ?_
  rw [he]
  exact runs_mid pre S [] a w h hr
section
variable {P : Program} {N : Nat} {Q : Exit → St → Prop} {S : St}
/-- A region whose n-th operation calls such a function. -/
theorem rgX (n : Nat) {id : Nat} {ops : Array Oper} {o : Oper} (h : Runs P ops N (fun S1 _ => CloCall P ops N o S1 (fun S2 => Runs P ops N (fun S3 _ => Q .normal S3) (ops.toList.drop (n + 1)) S2 [])) (ops.toList.take n) S []) (he : ops.toList = ops.toList.take n ++ o :: ops.toList.drop (n + 1) := by exact rfl) : AWP P N (.region id ops false) Q S := awp_region_mid he h
theorem sgX (n : Nat) {id : Nat} {ops : Array Oper} {o : Oper} {y : Code} (h : Runs P ops N (fun S1 _ => CloCall P ops N o S1 (fun S2 => Runs P ops N (fun S3 _ => AWP P N y Q S3) (ops.toList.drop (n + 1)) S2 [])) (ops.toList.take n) S []) (he : ops.toList = ops.toList.take n ++ o :: ops.toList.drop (n + 1) := by exact rfl) : AWP P N (.seq (.region id ops false) y) Q S := awp_seq (awp_region_mid he h)
theorem cx {ops : Array Oper} {M : St → Prop} {E : List (Nat × Slot)} {O O' : List Ent} {d : Nat} {c : Operand} {args : Array Operand} {at_ : Array TypeId} {ty : TypeId} {pos : String} {after : Array Edge} {f : FuncId} [IsFn P f] {qs : List Nat} {ss : List Slot} {out : Out} (hF : FnX P f qs ss out O O') (hm : M ⟨(d, out.slot) :: E, O'⟩)
    (hc : Opd E c (.r (.v (.fn f))) := by first | exact Opd.int _ _ | exact Opd.bool _ | exact Opd.nil | exact Opd.fn _ | exact Opd.str _ | (apply Opd.tmp; ((repeat apply Look.there rfl); exact Look.here))) (ha : ArgX E args.toList ss := by ((repeat (apply ArgX.s (by first | exact Opd.int _ _ | exact Opd.bool _ | exact Opd.nil | exact Opd.fn _ | exact Opd.str _ | (apply Opd.tmp; ((repeat apply Look.there rfl); exact Look.here))))); exact ArgX.nil)) (hlen : O'.length = O.length := by exact rfl) (hE : (E.all fun x => x.2.under O.length) = true := by exact rfl) (hEf : (E.all fun x => x.2.free qs) = true := by exact rfl) (hO : O'.all (Ent.under O.length) = true := by exact rfl) (hd : d < N := by decide) :
    CloCall P ops N ⟨some d, .call { callee := .value c, args := args, argTypes := at_ }, ty, pos, after, none⟩ ⟨E, O⟩ M := callX hF hm hc ha hlen hE hEf hO hd
end
end Go.Proofs.Ytnhljpbpfaablaa.VS
