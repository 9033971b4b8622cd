/- Value semantics, part 22: the library's Sort and Compact over a row of the call's own, by their contracts. Conditions: none. -/
import Derived.Test.YtlmecogidnbpjaaV21
import Derived.Sort.OwnSortedInts
import Derived.Lib.SlicesCompact
set_option linter.unusedSimpArgs false
set_option linter.unusedVariables false
namespace Go.Proofs.Ytlmecogidnbpjaa.VS
open Go Go.RowKit Go.Sort

abbrev srt (zs : List Int) : List Int := zs.mergeSort fun x y => decide (x ≤ y)
abbrev cmz (zs : List Int) : List Int := Lib.compact zs ++ List.replicate (zs.length - (Lib.compact zs).length) 0
def SortC (P : Program) (f : FuncId) : Prop := ∀ (blk off cap : Nat) (zs : List Int) (w : World), Holds (Value.int .i64) w blk off zs.toArray → blk < w.heap.size → zs.length < 4611686018427387904 →
  Calls P f #[.slice (some ⟨blk, off, none⟩) zs.length cap] w fun e w' => e = .returned (.tuple #[]) ∧ ∃ n os, w' = grow (putRow (Value.int .i64) (Sort.ahead w n) blk off (srt zs).toArray) os
def CompC (P : Program) (f : FuncId) : Prop := ∀ (blk off cap : Nat) (zs : List Int) (w : World), Holds (Value.int .i64) w blk off zs.toArray → zs.length ≤ 9223372036854775807 → zs.length ≤ cap →
  Calls P f #[.slice (some ⟨blk, off, none⟩) zs.length cap] w fun e w' => e = .returned (.slice (some ⟨blk, off, none⟩) (Lib.compact zs).length cap) ∧ ∃ q, w' = putRow (Value.int .i64) (Sort.ahead w q) blk off (cmz zs).toArray
theorem int_cells {w : World} {ok : Nat → Prop} : ∀ {zs : List Int} {us : List (List Value)}, All2 (All2 (FRep w ok)) (zs.map Enc.c) us → us.flatten = zs.map (Value.int .i64)
  | [], _, .nil => rfl
  | z :: zs, _, .cons h1 h2 => by
    rw [List.map_cons, List.flatten_cons, int_cells h2]
    cases h1 with
    | cons h3 h4 => cases h4; cases h3; rfl
theorem int_all2 (w : World) (ok : Nat → Prop) : ∀ zs : List Int, All2 (All2 (FRep w ok)) (zs.map Enc.c) (zs.map fun z => [Value.int .i64 z])
  | [] => .nil
  | z :: zs => .cons (.cons (.i _ _) .nil) (int_all2 w ok zs)
theorem int_flat : ∀ zs : List Int, (zs.map fun z => [Value.int .i64 z]).flatten = zs.map (Value.int .i64)
  | [] => rfl
  | z :: zs => by rw [List.map_cons, List.flatten_cons, int_flat zs]; rfl
theorem cmz_len (zs : List Int) : (cmz zs).length = zs.length := by
  have : (Lib.compact zs).length ≤ zs.length := by
    unfold Lib.compact Lib.compactUpTo
    rw [List.length_map]
    exact Nat.le_trans (List.length_filter_le _ _) (by simp)
  simp [cmz]; omega
section
variable {P : Program} {ops : Array Oper} {N : Nat} {fin : St → List Rec → Prop} {l : List Oper} {E : List (Nat × Slot)} {O O' : List Ent} {rs : List Rec} {ty : TypeId} {pos : String} {after : Array Edge} {g : Option (Nat × Bool)}
theorem rSort {d : Nat} {x : Operand} {at_ : Array TypeId} {f : FuncId} [IsFn P f] {p n e : Nat} {zs : List Int} (hS : SortC P f) (hx : Opd E x (.own p n)) (hp : O.getD p .gone = .row e 1 (zs.map Enc.c)) (hn : n = zs.length) (h0 : 0 < zs.length) (hb : zs.length < 4611686018427387904)
    (hO : SetAt O p (.row e 1 ((srt zs).map Enc.c)) O') (hd : d < N) (hw : W ops E g) (k : Runs P ops N fin l ⟨(d, .tup []) :: E, O'⟩ (⟨.tup [], some (p, .row e 1 ((srt zs).map Enc.c)), [p]⟩ :: rs)) :
    Runs P ops N fin (⟨some d, .call { callee := .value (.func f), args := #[x], argTypes := at_ }, ty, pos, after, g⟩ :: l) ⟨E, O⟩ rs := by
  refine Runs.op (o := ⟨some d, .call { callee := .value (.func f), args := #[x], argTypes := at_ }, ty, pos, after, g⟩) (r := ⟨.tup [], some (p, .row e 1 ((srt zs).map Enc.c)), [p]⟩) ?_ hw.wants hO.eq.1 ?_
  · intro w0 ok0 ρ env' ents' a w hev ht hR K Q hK
    have he := (ht p (by simp)).trans hp
    have h1 : SlotRep w (okS w0 ok0 ents' ρ) ents' ρ (ev (look E) x) (a.eval x) := by
      rw [show ev (look E) x = _ from (hev x (by simp [Op.operands, Call.operands])).symm]
      exact hR.ev x
    rw [hx.eq] at h1
    obtain ⟨ll, hl, hle, hve⟩ := h1
    rw [he] at hl
    have : some (zs.map Enc.c).length = some ll := hl
    cases this
    have hve := hve (by rw [List.length_map]; exact hn)
    have hE := hR.ent p
    rw [he] at hE
    obtain ⟨us, ho, hA, hs, _⟩ := hE
    have hfl := int_cells hA
    rw [hfl, List.length_map] at ho
    rcases ho.2 with ⟨_, h5⟩ | ⟨gg, cap, cur, hρ, hbg, hh, hnc, hcm, hcs, htake⟩
    · omega
    rw [Nat.mul_one] at htake
    have hglt : gg < w.heap.size := (Array.getElem?_eq_some_iff.1 hh).1
    have hH := holds_of_blockI (ss := zs) hh htake
    unfold Oper.wp
    have hrun : (execOp a.eval ⟨some d, .call { callee := .value (.func f), args := #[x], argTypes := at_ }, ty, pos, after, g⟩).run P w = .ok (.enter f #[.slice (some ⟨gg, 0, none⟩) zs.length cap]) w := by
      have hf : a.eval (.func f) = .func (.func f) #[] #[] := rfl
      simp [execOp, resolve, hf, Deferred.ofValue, invoke, run_enter, hve, hρ]
    rw [hrun]
    refine (hS gg 0 cap zs w hH hglt hb).mono fun ex w' h => ?_
    obtain ⟨rfl, q, os, rfl⟩ := h
    have hlen : (srt zs).length = zs.length := by simp [srt]
    have hg2 := grownBy_sortedI (w := w) (g := gg) (n := q) (os := os) (srt zs).toArray
    have hrow := ownsRow_sortedI (base := w0.heap.size) (n := q) (os := os) (ts := srt zs) hlen hbg hh hnc hcm hcs
    have hus : upd ρ p (ρ p) = ρ := by funext q; by_cases hq : q = p <;> simp [upd, hq]
    have hR2 := hR.rowed (u := ρ p) (xs' := (srt zs).map Enc.c) he (by rw [hρ]; exact hg2) (by simp) (fun _ => rfl) (fun g' h => .inl h) (fun hk => by
      rw [hus]
      refine ⟨(srt zs).map fun z => [Value.int .i64 z], ?_, int_all2 _ _ _, fun y hy => by obtain ⟨z, _, rfl⟩ := List.mem_map.1 hy; rfl, by omega⟩
      rw [int_flat, List.length_map, hlen, hρ]
      exact hrow)
    rw [hus] at hR2
    exact hK _ _ ⟨ρ, hR2.put (some d) (fun d' h => by cases h; exact hd) ⟨[], rfl, .nil⟩⟩
  · have : (St.step ⟨E, O⟩ (some d) ⟨.tup [], some (p, .row e 1 ((srt zs).map Enc.c)), [p]⟩) = ⟨(d, .tup []) :: E, O'⟩ := by
      show (⟨putE E (some d) _, setE O (some (p, _))⟩ : St) = _
      rw [hO.eq.2]; rfl
    show Runs P ops N fin l (St.step ⟨E, O⟩ (some d) _) _
    rw [this]
    exact k
theorem rComp {d : Nat} {x : Operand} {at_ : Array TypeId} {f : FuncId} [IsFn P f] {p n e : Nat} {zs : List Int} (hS : CompC P f) (hx : Opd E x (.own p n)) (hp : O.getD p .gone = .row e 1 (zs.map Enc.c)) (hn : n = zs.length) (h0 : 0 < zs.length) (hb : zs.length ≤ 9223372036854775807)
    (hO : SetAt O p (.fro ((cmz zs).map Enc.c)) O') (hd : d < N) (hw : W ops E g) (k : Runs P ops N fin l ⟨(d, .r (.v (.sl ((Lib.compact zs).map Enc.c)))) :: E, O'⟩ (⟨.r (.v (.sl ((Lib.compact zs).map Enc.c))), some (p, .fro ((cmz zs).map Enc.c)), [p]⟩ :: rs)) :
    Runs P ops N fin (⟨some d, .call { callee := .value (.func f), args := #[x], argTypes := at_ }, ty, pos, after, g⟩ :: l) ⟨E, O⟩ rs := by
  refine Runs.op (o := ⟨some d, .call { callee := .value (.func f), args := #[x], argTypes := at_ }, ty, pos, after, g⟩) (r := ⟨.r (.v (.sl ((Lib.compact zs).map Enc.c))), some (p, .fro ((cmz zs).map Enc.c)), [p]⟩) ?_ hw.wants hO.eq.1 ?_
  · intro w0 ok0 ρ env' ents' a w hev ht hR K Q hK
    have he := (ht p (by simp)).trans hp
    have h1 : SlotRep w (okS w0 ok0 ents' ρ) ents' ρ (ev (look E) x) (a.eval x) := by
      rw [show ev (look E) x = _ from (hev x (by simp [Op.operands, Call.operands])).symm]
      exact hR.ev x
    rw [hx.eq] at h1
    obtain ⟨ll, hl, hle, hve⟩ := h1
    rw [he] at hl
    have : some (zs.map Enc.c).length = some ll := hl
    cases this
    have hve := hve (by rw [List.length_map]; exact hn)
    have hE := hR.ent p
    rw [he] at hE
    obtain ⟨us, ho, hA, hs, _⟩ := hE
    have hfl := int_cells hA
    rw [hfl, List.length_map] at ho
    rcases ho.2 with ⟨_, h5⟩ | ⟨gg, cap, cur, hρ, hbg, hh, hnc, hcm, hcs, htake⟩
    · omega
    rw [Nat.mul_one] at htake
    have hH := holds_of_blockI (ss := zs) hh htake
    unfold Oper.wp
    have hrun : (execOp a.eval ⟨some d, .call { callee := .value (.func f), args := #[x], argTypes := at_ }, ty, pos, after, g⟩).run P w = .ok (.enter f #[.slice (some ⟨gg, 0, none⟩) zs.length cap]) w := by
      have hf : a.eval (.func f) = .func (.func f) #[] #[] := rfl
      simp [execOp, resolve, hf, Deferred.ofValue, invoke, run_enter, hve, hρ]
    rw [hrun]
    refine (hS gg 0 cap zs w hH hb hnc).mono fun ex w' h => ?_
    obtain ⟨rfl, q, rfl⟩ := h
    have hlen := cmz_len zs
    have hg2 := grownBy_sortedI (w := w) (g := gg) (n := q) (os := #[]) (cmz zs).toArray
    have hrow := ownsRow_sortedI (base := w0.heap.size) (n := q) (os := #[]) (ts := cmz zs) hlen hbg hh hnc hcm hcs
    have hheap := heap_sortedI (n := q) (os := #[]) (cmz zs).toArray hh
    rw [grow_empty] at hg2 hrow hheap
    have hcur : (cmz zs).length ≤ cur.size := by rw [hlen, hcs]; omega
    have htk := take_putCellsI cur (cmz zs) hcur
    have hcl : (Lib.compact zs).length ≤ (cmz zs).length := by simp [cmz]
    have hokg : ∀ gx, blk (ρ p) = some gx → okS w0 ok0 (upd ents' p (.fro ((cmz zs).map Enc.c))) ρ gx := fun gx hgx => ⟨fun hlt => by rw [hρ] at hgx; cases hgx; exact absurd hlt (Nat.not_lt.2 hbg), fun r hr hgr => by
      by_cases hq : r = p
      · subst hq; rw [upd_same] at hr; exact hr
      · rw [upd_ne _ _ _ _ hq] at hr
        exact hq (hR.inj r p gx hr (by rw [he]; trivial) hgr hgx)⟩
    have hR2 : RelR N w0 ok0 ρ env' (upd ents' p (.fro ((cmz zs).map Enc.c))) a (putRow (Value.int .i64) (Sort.ahead w q) gg 0 (cmz zs).toArray) := by
      refine hR.move (ρ' := ρ) p (hR.below.grown hg2 hR.below.size (fun kk hk => by cases hk; exact hbg)) (fun kk hk hne => hg2.block kk hk (fun e' => ?_)) (fun r hr => ⟨upd_ne _ _ _ _ hr, rfl⟩) ⟨fun ty cs hx => (by rw [he] at hx; cases hx), fun l hl => ?_⟩ (fun g' h1 _ => (by rw [upd_same] at h1; exact h1.elim)) (fun hcc hk => ?_)
      · cases e'
        exact hne (by rw [he]; trivial) (by rw [hρ]; rfl)
      · rw [he] at hl
        have hl : some (zs.map Enc.c).length = some l := hl
        cases hl
        exact ⟨((cmz zs).map Enc.c).length, by rw [upd_same]; rfl, by rw [List.length_map, List.length_map, hlen]; exact Nat.le_refl _, fun _ => rfl⟩
      · rw [upd_same]
        refine rep_of_row (base := w0.heap.size) (e := e) (sz := 1) (vs := (cmz zs).map fun z => [Value.int .i64 z]) ?_ (int_all2 _ _ _) (fun y hy => by obtain ⟨z, _, rfl⟩ := List.mem_map.1 hy; rfl) (by omega) hokg (by rw [List.length_map, hlen]; simpa [maxLen] using hb)
        rw [int_flat, List.length_map, hlen, hρ]
        exact hrow
    refine hK _ _ ⟨ρ, hR2.put (some d) (fun d' h => by cases h; exact hd) ?_⟩
    show FRep _ _ (.sl ((Lib.compact zs).map Enc.c)) _
    refine rep_of_row (base := w0.heap.size) (e := e) (sz := 1) (vs := (Lib.compact zs).map fun z => [Value.int .i64 z]) ?_ (int_all2 _ _ _) (fun y hy => by obtain ⟨z, _, rfl⟩ := List.mem_map.1 hy; rfl) (by omega) (fun gx hgx => hokg gx (by rw [hρ]; exact hgx)) (by rw [List.length_map]; simp only [maxLen]; have := cmz_len zs; simp only [cmz, List.length_append] at this; omega)
    rw [int_flat, List.length_map]
    refine ⟨by simp, .inr ⟨gg, cap, _, rfl, hbg, hheap, by omega, hcm, by simp [putCells, hcs], ?_⟩⟩
    rw [Nat.mul_one]
    have h6 := congrArg (List.take (Lib.compact zs).length) htk
    rw [List.take_take, Nat.min_eq_left hcl] at h6
    rw [h6]
    simp [cmz]
  · have : (St.step ⟨E, O⟩ (some d) ⟨.r (.v (.sl ((Lib.compact zs).map Enc.c))), some (p, .fro ((cmz zs).map Enc.c)), [p]⟩) = ⟨(d, .r (.v (.sl ((Lib.compact zs).map Enc.c)))) :: E, O'⟩ := by
      show (⟨putE E (some d) _, setE O (some (p, _))⟩ : St) = _
      rw [hO.eq.2]; rfl
    show Runs P ops N fin l (St.step ⟨E, O⟩ (some d) _) _
    rw [this]
    exact k
theorem srtR (p : Nat) {d : Nat} {x : Operand} {at_ : Array TypeId} {f : FuncId} [IsFn P f] {n e : Nat} {zs : List Int} (hS : SortC P f) (h0 : 0 < zs.length) (hb : zs.length < 4611686018427387904) (k : Runs P ops N fin l ⟨(d, .tup []) :: E, O'⟩ (⟨.tup [], some (p, .row e 1 ((srt zs).map Enc.c)), [p]⟩ :: rs))
    (hx : Opd E x (.own p n) := by apply Opd.tmp; ((repeat apply Look.there rfl); exact Look.here)) (hp : O.getD p .gone = .row e 1 (zs.map Enc.c) := by exact rfl) (hn : n = zs.length := by first | exact rfl | assumption | (simp; done) | (simp; omega)) (hO : SetAt O p (.row e 1 ((srt zs).map Enc.c)) O' := by ((repeat apply SetAt.there); exact SetAt.here)) (hd : d < N := by decide) (hw : W ops E g := by first | exact W.none | (apply wof rfl; ((repeat apply Look.there rfl); exact Look.here); first | assumption | exact rfl)) :
    Runs P ops N fin (⟨some d, .call { callee := .value (.func f), args := #[x], argTypes := at_ }, ty, pos, after, g⟩ :: l) ⟨E, O⟩ rs := rSort hS hx hp hn h0 hb hO hd hw k
theorem cmpR (p : Nat) {d : Nat} {x : Operand} {at_ : Array TypeId} {f : FuncId} [IsFn P f] {n e : Nat} {zs : List Int} (hS : CompC P f) (h0 : 0 < zs.length) (hb : zs.length ≤ 9223372036854775807) (k : Runs P ops N fin l ⟨(d, .r (.v (.sl ((Lib.compact zs).map Enc.c)))) :: E, O'⟩ (⟨.r (.v (.sl ((Lib.compact zs).map Enc.c))), some (p, .fro ((cmz zs).map Enc.c)), [p]⟩ :: rs))
    (hx : Opd E x (.own p n) := by apply Opd.tmp; ((repeat apply Look.there rfl); exact Look.here)) (hp : O.getD p .gone = .row e 1 (zs.map Enc.c) := by exact rfl) (hn : n = zs.length := by first | exact rfl | assumption | (simp; done) | (simp; omega)) (hO : SetAt O p (.fro ((cmz zs).map Enc.c)) O' := by ((repeat apply SetAt.there); exact SetAt.here)) (hd : d < N := by decide) (hw : W ops E g := by first | exact W.none | (apply wof rfl; ((repeat apply Look.there rfl); exact Look.here); first | assumption | exact rfl)) :
    Runs P ops N fin (⟨some d, .call { callee := .value (.func f), args := #[x], argTypes := at_ }, ty, pos, after, g⟩ :: l) ⟨E, O⟩ rs := rComp hS hx hp hn h0 hb hO hd hw k
end
end Go.Proofs.Ytlmecogidnbpjaa.VS
