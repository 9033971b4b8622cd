/- Value semantics, part 21: slices that are known to have no spare room: an append to one makes a row of the call's own. Conditions: none. -/
import Derived.Test.YtnhljpbpfaablaaV20
set_option linter.unusedSimpArgs false
set_option linter.unusedVariables false
namespace Go.Proofs.Ytnhljpbpfaablaa.VS
open Go Go.RowKit
section
variable {P : Program} {ops : Array Oper} {N : Nat} {fin : St → List Rec → Prop} {l : List Oper} {E : List (Nat × Slot)} {O O' : List Ent} {rs : List Rec} {d : Nat} {ty : TypeId} {pos : String} {after : Array Edge} {g : Option (Nat × Bool)}
theorem rBsL {t e sz b len : Nat} [Sli P t e sz b] {zs : List Slot} [Zero P e zs] {parts : Array (Nat × Operand)} {pd : List (Nat × RV)} {xs : List (List FV)} {touch : List Nat} (hp : Parts E O touch parts.toList pd) (hr : rowsOf 0 pd = some xs) (hl : xs.length = len) (hs : ∀ x ∈ xs, x.length = sz) (hz : zs.length = sz) (h24 : len * sz ≤ 16777216) (hd : d < N) (hw : W ops E g)
    (k : Runs P ops N fin l ⟨(d, .r (.v (.fl xs))) :: E, O⟩ (⟨.r (.v (.fl xs)), none, touch⟩ :: rs)) : Runs P ops N fin (⟨some d, .buildSlice t len parts, ty, pos, after, g⟩ :: l) ⟨E, O⟩ rs := by
  refine Runs.op (o := ⟨some d, .buildSlice t len parts, ty, pos, after, g⟩) (r := ⟨.r (.v (.fl xs)), none, touch⟩) ?_ hw.wants trivial k
  intro w0 ok0 ρ env' ents' a w hev ht hR K Q hK
  have hr' : ∀ x ∈ (Op.buildSlice t len parts).operands, SlotRep w (okS w0 ok0 ents' ρ) ents' ρ (ev (look E) x) (a.eval x) := fun x hx => by
    rw [show ev (look E) x = _ from (hev x hx).symm]; exact hR.ev x
  obtain ⟨i, h1, h2, h3, h4, h0⟩ := Sli.spec (P := P) t e sz b
  obtain ⟨i', z, vs, h5, h6, h7, h8⟩ := Zero.h (P := P) (t := e) (zs := zs)
  rw [h2] at h5
  cases h5
  have hrep := hp.rep (a := a) (fun p hp => hr' p.2 (by simp only [Op.operands]; simpa using ⟨p.1, by simpa using hp⟩)) ht hR.ent
  obtain ⟨hxs, hidx⟩ := rowsOf_get hr
  have hpl : pd.length = len := by rw [← hl, hxs, List.length_map]
  obtain ⟨out, ho, vss, hA, hout⟩ := fill_rows (sz := sz) _ pd 0 ((Array.range (len * sz)).map fun m => (if len * sz = 0 then #[] else z.cells)[m % (if len * sz = 0 then #[] else z.cells).size]!) [] hrep (fun j q hj => hidx j q hj) (fun q hq => hs _ (by rw [hxs]; exact List.mem_map.2 ⟨q, hq, rfl⟩)) (by simp) (by simp [hpl])
  rw [← hxs] at hA
  simp only [List.nil_append] at hout
  have hrun : (execOp a.eval ⟨some d, .buildSlice t len parts, ty, pos, after, g⟩).run P w = .ok (.value (.slice (some ⟨w.heap.size, 0, none⟩) len len)) (w.alloc (.cells out e)) := by
    have hpm : (parts.map fun (i, x) => (i, a.eval x)).toList = parts.toList.map fun p => (p.1, a.eval p.2) := by simp
    simp only [execOp, Instr.buildSlice, Sem.run_bind, run_underlying h1, Result.andThen_ok, sizeOf, typeInfo, run_program, h2, h3, Sem.run_pure]
    rw [if_neg (show ¬ len * sz > 2 ^ 24 by omega)]
    simp only [hpm]
    by_cases hlz : len * sz = 0
    · have e0 : ∀ f : Nat → Value, (Array.range 0).map f = #[] := fun f => by simp
      simp only [hlz, if_true, e0] at ho
      simp only [hlz, if_true, Sem.run_pure, Result.andThen_ok, e0, ho]
      simp [newRow, newObj, Sem.run]
    · simp only [hlz, if_false] at ho ⊢
      simp [zeroValue, typeInfo, h2, h6, ho, newRow, newObj, Sem.run]
  unfold Oper.wp
  rw [hrun]
  have hb : Below w.heap.size w (w.alloc (.cells out e)) := (Below.refl _ _).alloc (Nat.le_refl _) _
  have hR' := hR.later hb
  have hos : out.size = len * sz := by
    have := congrArg List.length hout
    rw [Array.length_toList, flat_len (hA.lens hs), ← hA.length, hl] at this
    exact this
  have hown : (w.alloc (.cells out e)).ownsRow w.heap.size e sz (.slice (some ⟨w.heap.size, 0, none⟩) len len) xs.length vss.flatten := by
    rw [hl, ← hout]
    exact World.ownsRow_lit w out len (Nat.le_refl _) (by
      simp only [maxLen]
      have : len ≤ len * sz := Nat.le_mul_of_pos_right _ h0
      omega) hos
  refine hK _ _ ⟨ρ, hR'.put (some d) (fun d' h => by cases h; exact hd) ?_⟩
  show FRep _ _ (.fl xs) _
  refine .fl xs _ len ?_
  refine rep_of_row hown (hA.imp fun _ _ h => h.imp fun _ _ => FRep.mono (fun k hk hlt => ⟨hb.block k hlt, hk⟩)) hs h0 (fun g' hg => ?_) (row_le hown)
  cases hg
  exact ⟨fun hlt => absurd hlt (Nat.not_lt.2 hR.below.size), fun p hp hgp => absurd (hR.blk_lt hp hgp).2 (Nat.lt_irrefl _)⟩
theorem bsL {t e sz b len : Nat} [Sli P t e sz b] {zs : List Slot} [Zero P e zs] {parts : Array (Nat × Operand)} {pd : List (Nat × RV)} {xs : List (List FV)} (k : Runs P ops N fin l ⟨(d, .r (.v (.fl xs))) :: E, O⟩ (⟨.r (.v (.fl xs)), none, []⟩ :: rs)) (hp : Parts E O [] parts.toList pd := by ((repeat (apply Parts.cons (by first | exact Opd.int _ _ | exact Opd.bool _ | exact Opd.nil | exact Opd.fn _ | exact Opd.str _ | (apply Opd.tmp; ((repeat apply Look.there rfl); exact Look.here))) (by first | exact fun _ _ => IsD.f (IsF.v _) | exact fun _ _ => IsD.agg _ | exact fun _ _ => IsD.f IsF.nil))); exact Parts.nil)) (hr : rowsOf 0 pd = some xs := by exact rfl) (hl : xs.length = len := by exact rfl)
    (hs : ∀ x ∈ xs, x.length = sz := by first | (intro x hx; simp at hx; subst hx; rfl) | decide) (hz : zs.length = sz := by exact rfl) (h24 : len * sz ≤ 16777216 := by decide) (hd : d < N := by decide) (hw : W ops E g := by first | exact W.none | (apply wof rfl; ((repeat apply Look.there rfl); exact Look.here); first | assumption | exact rfl)) : Runs P ops N fin (⟨some d, .buildSlice t len parts, ty, pos, after, g⟩ :: l) ⟨E, O⟩ rs := rBsL (touch := []) hp hr hl hs hz h24 hd hw k
theorem rApF {x y : Operand} {t e sz bytes : Nat} [Sli P t e sz bytes] {zs : List Slot} [Zero P e zs] {p : Nat} {xs ys : List (List FV)} (hx : Opd E x (.r (.v (.fl xs)))) (hp : O.getD p .gone = .gone) (hy : Opd E y (.r (.v (.sl ys)))) (hx0 : 0 < xs.length) (hy0 : 0 < ys.length)
    (hxs : ∀ y ∈ xs, y.length = sz) (hys : ∀ y ∈ ys, y.length = sz) (hb : (xs.length + ys.length) * bytes ≤ 140737488355328) (hz : zs.length = sz) (h63 : xs.length + ys.length ≤ 9223372036854775807) {n' : Nat} (hn' : n' = (xs ++ ys).length) (hO : SetAt O p (.row e sz (xs ++ ys)) O') (hd : d < N) (hw : W ops E g)
    (k : Runs P ops N fin l ⟨(d, .own p n') :: E, O'⟩ (⟨.own p n', some (p, .row e sz (xs ++ ys)), [p]⟩ :: rs)) : Runs P ops N fin (⟨some d, .call { callee := .builtin .append, args := #[x, y], argTypes := #[t, t] }, ty, pos, after, g⟩ :: l) ⟨E, O⟩ rs := by
  refine rEff (s := .own p n') (touch := []) hO (fun d' h => by cases h; exact hd) hw (fun w0 ok0 ρ env' ents' a w hr ht hR => ?_) k
  have he := (ht p (by simp)).trans hp
  have h1 := hr x (by simp [Op.operands, Call.operands]); rw [hx.eq] at h1
  have h2 := hr y (by simp [Op.operands, Call.operands]); rw [hy.eq] at h2
  obtain ⟨i, hu, hi, hs, hby, h0⟩ := Sli.spec (P := P) t e sz bytes
  obtain ⟨i', z, zvs, hi', hz', hc, hzz⟩ := Zero.h (P := P) (t := e) (zs := zs)
  rw [hi] at hi'
  cases hi'
  obtain ⟨A, c, hv, _, us, hU, hcell⟩ := src_rows hR (IsF.v _) h2 hys h0
  have hul : us.flatten.length = ys.length * sz := by rw [flat_len (hU.lens hys), hU.length]
  have hone : ∀ u ∈ us.flatten, u.oneCell' = true := all_oneCell hU.flatten
  have h1 : FRep w (okS w0 ok0 ents' ρ) (.fl xs) (a.eval x) := h1
  generalize hxv : a.eval x = xv at h1
  cases h1 with
  | fl _ B m h1 =>
  obtain ⟨hm, vs, hV, hvc⟩ := rep_rows h1 hxs h0
  subst hm
  have hvl : vs.flatten.length = xs.length * sz := by rw [flat_len (hV.lens hxs), hV.length]
  rcases hvc with e0 | ⟨bd, rfl, hbc⟩
  · rw [e0] at hx0; exact absurd hx0 (by decide)
  rcases hcell with e0 | ⟨ad, rfl, hac⟩
  · rw [e0] at hy0; exact absurd hy0 (by decide)
  subst hs; subst hby
  have hzc : z.cells.size = i.size := by rw [hc]; simp [← hzz.length, hz]
  have hrun := run_append_grow (P := P) w t ty e i z hu hi hz' bd xs.length xs.length vs.flatten hvl hbc ad ys.length c us.flatten hul hac (by omega) (by omega) (growslice_fits (by omega) hb)
  have hlen : (vs.flatten ++ us.flatten).length = (xs.length + ys.length) * i.size := by rw [List.length_append, hvl, hul, Nat.add_mul]
  have hge := grownCap_ge w (xs.length + ys.length) xs.length e
  have hcm' : grownCap w (xs.length + ys.length) xs.length e ≤ maxLen := grownCap_le_maxLen w (xs.length + ys.length) xs.length e (by simpa [maxLen] using h63)
  subst hn'
  refine ⟨_, .slice (some ⟨w.heap.size, 0, none⟩) (xs.length + ys.length) (grownCap w (xs.length + ys.length) xs.length e), (w.drew.alloc (.cells (vs.flatten.toArray ++ us.flatten.toArray ++ Builtin.zeroCells z.cells (grownCap w (xs.length + ys.length) xs.length e - (xs.length + ys.length))) e)), .slice (some ⟨w.heap.size, 0, none⟩) (xs.length + ys.length) (grownCap w (xs.length + ys.length) xs.length e), ?_, .inl rfl, ?_, ?_⟩
  rotate_left
  · refine hR.fresh p he _ _ ⟨rfl, rfl, rfl, by simp, fun k hk => Below.heap_alloc w.drew _ k hk⟩ (fun g' _ hg => by cases hg; exact Nat.le_refl _) (fun hk => ?_)
    refine ⟨vs ++ us, ?_, (hV.imp fun _ _ h => h.imp fun _ _ => FRep.mono hk).append (hU.imp fun _ _ h => h.imp fun _ _ => FRep.mono hk), fun z hz => ?_, h0⟩
    · rw [upd_same, List.flatten_append, List.length_append]
      refine ⟨hlen, .inr ⟨w.heap.size, _, _, rfl, hR.below.size, heap_alloc_new w.drew _, hge, hcm', ?_, ?_⟩⟩
      · simp only [Array.size_append, List.size_toArray, size_zeroCells, hzc, hvl, hul, ← Nat.add_mul]
        congr 1
        omega
      · simp only [Array.toList_append, List.append_assoc]
        rw [← List.append_assoc, ← hlen]
        exact List.take_left
    · rcases List.mem_append.1 hz with h | h
      · exact hxs z h
      · exact hys z h
  · exact ⟨(xs ++ ys).length, by rw [upd_same]; rfl, Nat.le_refl _, fun _ => by rw [upd_same]⟩
  · simp only [execOp, resolve, invoke, builtin, Sem.run_bind, Sem.run_pure, Result.andThen_ok, List.map_toArray, List.map_cons, List.map_nil, hxv, hv, hrun]
theorem apF (p : Nat) {x y : Operand} {t e sz bytes : Nat} [Sli P t e sz bytes] {zs : List Slot} [Zero P e zs] {xs ys : List (List FV)} (k : Runs P ops N fin l ⟨(d, .own p (xs ++ ys).length) :: E, O'⟩ (⟨.own p (xs ++ ys).length, some (p, .row e sz (xs ++ ys)), [p]⟩ :: rs))
    (hx : Opd E x (.r (.v (.fl xs))) := by first | exact Opd.int _ _ | exact Opd.bool _ | exact Opd.nil | exact Opd.fn _ | exact Opd.str _ | (apply Opd.tmp; ((repeat apply Look.there rfl); exact Look.here))) (hO : SetAt O p (.row e sz (xs ++ ys)) O' := by ((repeat apply SetAt.there); exact SetAt.new)) (hp : O.getD p .gone = .gone := by exact rfl) (hy : Opd E y (.r (.v (.sl ys))) := by first | exact Opd.int _ _ | exact Opd.bool _ | exact Opd.nil | exact Opd.fn _ | exact Opd.str _ | (apply Opd.tmp; ((repeat apply Look.there rfl); exact Look.here))) (hx0 : 0 < xs.length := by decide) (hy0 : 0 < ys.length := by decide)
    (hxs : ∀ y ∈ xs, y.length = sz := by first | (intro x hx; simp at hx; subst hx; rfl) | decide) (hys : ∀ y ∈ ys, y.length = sz := by first | (intro x hx; simp at hx; subst hx; rfl) | decide) (hb : (xs.length + ys.length) * bytes ≤ 140737488355328 := by decide) (hz : zs.length = sz := by exact rfl) (h63 : xs.length + ys.length ≤ 9223372036854775807 := by decide) (hd : d < N := by decide) (hw : W ops E g := by first | exact W.none | (apply wof rfl; ((repeat apply Look.there rfl); exact Look.here); first | assumption | exact rfl)) :
    Runs P ops N fin (⟨some d, .call { callee := .builtin .append, args := #[x, y], argTypes := #[t, t] }, ty, pos, after, g⟩ :: l) ⟨E, O⟩ rs := rApF hx hp hy hx0 hy0 hxs hys hb hz h63 rfl hO hd hw k
end
end Go.Proofs.Ytnhljpbpfaablaa.VS
