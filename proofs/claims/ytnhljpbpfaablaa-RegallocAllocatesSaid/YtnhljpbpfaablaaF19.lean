/- The walks of functions: what each computes, by itself. Conditions: none. -/
import Derived.Test.YtnhljpbpfaablaaF18
set_option linter.unusedVariables false
set_option linter.unusedSimpArgs false
namespace Go.Proofs.Ytnhljpbpfaablaa.VS
open Go
def meetF (a b : Pr) : Bool := decide (max a.x b.x ≤ min a.y b.y)
theorem mn_min (a b : Int) : mn a b = min a b := by unfold mn; split <;> omega
inductive ArgW (E : List (Nat × Slot)) (O : List Ent) (touch : List Nat) : List Operand → List Slot → Prop
  | nil : ArgW E O touch [] []
  | d {x : Operand} {s : Slot} {y : RV} {l : List Operand} {r : List Slot} (hx : Opd E x s) (hs : ∀ ents', (∀ p ∈ touch, ents' p = O.getD p .gone) → IsD ents' s y) (h : ArgW E O touch l r) : ArgW E O touch (x :: l) (.r y :: r)
  | w {x : Operand} {p n e sz : Nat} {xs : List (List FV)} {l : List Operand} {r : List Slot} (hx : Opd E x (.own p n)) (hp : O.getD p .gone = .row e sz xs) (hn : n = xs.length) (hm : p ∈ touch) (h : ArgW E O touch l r) : ArgW E O touch (x :: l) (.r (.v (.sl xs)) :: r)
theorem ArgW.rep {E : List (Nat × Slot)} {O : List Ent} {touch : List Nat} {l : List Operand} {r : List Slot} (h : ArgW E O touch l r) {w : World} {ok : Nat → Prop} {ents' : Nat → Ent} {ρ : Nat → Value} {a : Act} {base : Nat}
    (hr : ∀ x ∈ l, SlotRep w ok ents' ρ (ev (look E) x) (a.eval x)) (ht : ∀ p ∈ touch, ents' p = O.getD p .gone) (hE : ∀ p, EntRep w ok ents' ρ base p (ents' p)) : All2 (SlotRep w (okT ok ρ touch) (fun _ => .gone) (fun _ => Go.undef)) r (l.map a.eval) := by
  induction h with
  | nil => exact .nil
  | d hx hs _ ih =>
    refine .cons ?_ (ih (fun p hp => hr p (.tail _ hp)))
    have h1 := hr _ (.head _)
    rw [hx.eq] at h1
    exact RV.rep.mono keepsT ((hs ents' ht).rep h1 hE)
  | w hx hp hn hm _ ih =>
    refine .cons ?_ (ih (fun p hp => hr p (.tail _ hp)))
    have h1 := hr _ (.head _)
    rw [hx.eq] at h1
    exact (IsT.row ((ht _ hm).trans hp) hn hm).rep h1 hE
/-- A call that is handed a row of the caller's own to read. -/
theorem clW (touch : List Nat) {P : Program} {ops : Array Oper} {N : Nat} {fin : St → List Rec → Prop} {l : List Oper} {E : List (Nat × Slot)} {O : List Ent} {rs : List Rec} {ty : TypeId} {pos : String} {after : Array Edge} {g : Option (Nat × Bool)} {d : Nat} {c : Operand} {args : Array Operand} {at_ : Array TypeId} {f : FuncId} [IsFn P f] {ss : List Slot} {out : Out} (hF : FnR P f ss out) (k : Runs P ops N fin l ⟨(d, out.slot) :: E, O⟩ (⟨out.slot, none, touch⟩ :: rs))
    (hc : Opd E c (.r (.v (.fn f)))) (ha : ArgW E O touch args.toList ss) (hpl : out.plain = true) (hd : d < N) (hw : W ops E g) :
    Runs P ops N fin (⟨some d, .call { callee := .value c, args := args, argTypes := at_ }, ty, pos, after, g⟩ :: l) ⟨E, O⟩ rs := by
  refine Runs.op (o := ⟨some d, .call { callee := .value c, args := args, argTypes := at_ }, ty, pos, after, g⟩) (r := ⟨out.slot, none, touch⟩) ?_ hw.wants trivial k
  intro w0 ok0 ρ env' ents' a w hev ht hR K Q hK
  have hr : ∀ x ∈ (Op.call { callee := .value c, args := args, argTypes := at_ }).operands, SlotRep w (okS w0 ok0 ents' ρ) ents' ρ (ev (look E) x) (a.eval x) := fun x hx => by
    rw [show ev (look E) x = _ from (hev x hx).symm]; exact hR.ev x
  have h1 := hr c (by simp [Op.operands, Call.operands]); rw [hc.eq] at h1
  have hv : a.eval c = .func (.func f) #[] #[] := by
    generalize a.eval c = v at h1
    have h1 : FRep _ _ (.fn f) v := h1
    cases h1
    rfl
  have hrep := ha.rep (a := a) (fun x hx => hr x (by simp only [Op.operands, Call.operands]; exact Array.mem_append.2 (.inr (Array.mem_toList_iff.1 hx)))) ht hR.ent
  unfold Oper.wp
  have hrun : (execOp a.eval ⟨some d, .call { callee := .value c, args := args, argTypes := at_ }, ty, pos, after, g⟩).run P w = .ok (.enter f (args.map a.eval)) w := by
    simp [execOp, resolve, hv, Deferred.ofValue, invoke, run_enter]
  rw [hrun]
  have hargs : (args.map a.eval) = (args.toList.map a.eval).toArray := by
    rw [← Array.toList_map, Array.toArray_toList]
  rw [hargs]
  refine (hF w _ _ hrep).mono fun e w' h => ?_
  obtain ⟨v, rfl, hb, ho⟩ := h
  exact hK _ _ ⟨ρ, (hR.later hb).put (some d) (fun d' h => by cases h; exact hd) (Out.rep.slot (Out.plain.rep hpl ho))⟩
/-- frustum/frustumref25.meet -/
theorem c51 (a b : Pr) : Fn Try.prog 51 [A a, A b] (.one (B (meetF a b))) := by
  refine fnI Try.func51 Try.ntmps51 fun hb => ?_
  refine sg ?_
  refine bx _ ?_
  refine bx _ ?_
  refine as_ ?_
  refine rNil ?_
  refine sg ?_
  first | refine xf ?_ | refine xb ?_ | refine xoa ?_
  first | refine l1f ?_ | refine l1b ?_ | refine l1o ?_
  first | refine xf ?_ | refine xb ?_ | refine xoa ?_
  first | refine l1f ?_ | refine l1b ?_ | refine l1o ?_
  refine mx2 ?_
  first | refine xf ?_ | refine xb ?_ | refine xoa ?_
  first | refine l1f ?_ | refine l1b ?_ | refine l1o ?_
  first | refine xf ?_ | refine xb ?_ | refine xoa ?_
  first | refine l1f ?_ | refine l1b ?_ | refine l1o ?_
  refine mn2 ?_
  refine bo (hz := by exact rfl) ?_
  refine as_ ?_
  refine rNil ?_
  refine awp_ret ?_
  exact ⟨.inr rfl, _, (.cons (by first | exact .v (by ((repeat apply Look.there rfl); exact Look.here)) (.f (.v _)) | exact .v (by ((repeat apply Look.there rfl); exact Look.here)) (.row rfl (by first | exact rfl | (simp; done) | (simp; omega))) | exact .v (by ((repeat apply Look.there rfl); exact Look.here)) (.f .nil) | exact .a (by ((repeat apply Look.there rfl); exact Look.here)) | skip) .nil), oneB (by rw [mx_max, mn_min]; rfl)⟩ -- LEAF 1: ret

def tkn (ls : List Pr) (nums : List Int) (r n : Int) (k : Nat) : Bool := (nums.getD k 0 == n) && meetF (ls.getD k ⟨0, 0⟩) (ls.getD r.toNat ⟨0, 0⟩)
def takenF (ls : List Pr) (nums : List Int) (r n : Int) (m : Nat) : Bool := (List.range m).any (tkn ls nums r n)
theorem taken_succ {ls : List Pr} {nums : List Int} {r n : Int} {k : Nat} : takenF ls nums r n (k + 1) = (takenF ls nums r n k || tkn ls nums r n k) := by
  unfold takenF
  rw [List.range_succ, List.any_append]
  simp
def freeG (T : Nat → Bool) (n : Nat) : Nat → Nat
  | 0 => n
  | m + 1 => if T n = true then freeG T (n + 1) m else n
def freeF (ls : List Pr) (nums : List Int) (r : Int) : Nat := freeG (fun n => takenF ls nums r n ls.length) 0 ls.length
/-- frustum/frustumref25.free -/
theorem c36 (ls : List Pr) (nums : List Int) (r : Int) (hl : ls.length ≤ 8192) (hn : nums.length = ls.length) (hr0 : 0 ≤ r) (hr1 : r < ls.length) : FnR Try.prog 36 [.r (L ls), .r (L nums), .r (I r)] (.one (I (freeF ls nums r : Nat))) := by
  refine fnR_of Try.func36 Try.ntmps36 ?_
  refine sg ?_
  refine as_ ?_
  refine rNil ?_
  refine sq ?_
  refine sg ?_
  refine as_ ?_
  refine rNil ?_
  refine bk ?_
  refine lp (fun m S => ∃ n : Nat, m = ls.length - n ∧ n ≤ ls.length ∧ freeF ls nums r = freeG (fun n => takenF ls nums r n ls.length) n (ls.length - n) ∧ S = ⟨[(7, .r (I n)), (0, .r (L ls)), (1, .r (L nums)), (2, .r (I r))], []⟩) ls.length ?_ ?_
  · exact wx 0 ⟨0, rfl, Nat.zero_le _, rfl, rfl⟩
  rintro m S ⟨n, hm, hnl, hf, rfl⟩
  refine sq ?_
  refine sg ?_
  refine mv ?_
  refine mv ?_
  first | refine lnM ?_ | refine ln ?_ | refine lnO ?_ | refine lnN ?_ | refine lnW ?_ | refine lnS ?_
  refine bo (hz := by exact rfl) ?_
  refine rNil ?_
  refine cn (fun h1 => ?_) (fun h1 => ?_)
  ·
    have hn' : n < ls.length := by simpa using h1
    rw [show ls.length - n = (ls.length - (n + 1)) + 1 by omega, freeG] at hf
    refine awp_skip ?_
    refine tn ?_
    refine sq ?_
    refine bk ?_
    refine sg ?_
    refine as_ ?_
    refine rNil ?_
    refine sq ?_
    refine sg ?_
    refine as_ ?_
    refine rNil ?_
    refine bk ?_
    refine lp (fun m S => ∃ k : Nat, m = ls.length - k ∧ k ≤ ls.length ∧ S = ⟨[(9, .r (I k)), (8, .r (B (takenF ls nums r n k))), (7, .r (I n)), (0, .r (L ls)), (1, .r (L nums)), (2, .r (I r))], []⟩) ls.length ?_ ?_
    · exact wx 0 ⟨0, rfl, Nat.zero_le _, rfl⟩
    rintro m2 S ⟨k, hm2, hk, rfl⟩
    refine sq ?_
    refine sg ?_
    refine mv ?_
    refine mv ?_
    first | refine lnM ?_ | refine ln ?_ | refine lnO ?_ | refine lnN ?_ | refine lnW ?_ | refine lnS ?_
    refine bo (hz := by exact rfl) ?_
    refine rNil ?_
    refine cn (fun h2 => ?_) (fun h2 => ?_)
    ·
      have hk' : k < ls.length := by simpa using h2
      obtain ⟨z, hz⟩ := ex_get (a := nums) (k := k) (by omega)
      obtain ⟨q, hq⟩ := ex_get hk'
      obtain ⟨q2, hq2⟩ : ∃ q2, ls[r.toNat]? = some q2 := ⟨ls[r.toNat]'(by omega), List.getElem?_eq_getElem _⟩
      have hz' : nums[k]? = some z := by simpa using hz
      have hq' : ls[k]? = some q := by simpa using hq
      have htk : tkn ls nums r n k = ((z == (n : Int)) && meetF q q2) := by unfold tkn; rw [getD_at hq', getD_at hq2, getD_of hz']
      refine awp_skip ?_
      refine tn ?_
      refine jn (fun S => S = ⟨[(9, .r (I k)), (8, .r (B (takenF ls nums r n (k + 1)))), (7, .r (I n)), (0, .r (L ls)), (1, .r (L nums)), (2, .r (I r))], []⟩) ?_ ?_
      ·
        refine bk ?_
        refine sd mixO ?_
        refine mv ?_
        refine mv ?_
        first | refine xs_ ?_ | refine xo ?_ | refine xw ?_ | refine xsl ?_
        first | refine l1f ?_ | refine l1b ?_ | refine l1o ?_
        refine mv ?_
        refine bo (hz := by exact rfl) ?_
        refine mv ?_
        refine gd (fun h3 => ?_) (fun h3 => ?_)
        ·
          have hzn : z = n := by simpa using h3
          refine mv ?_
          refine mv ?_
          first | refine xs_ ?_ | refine xo ?_ | refine xw ?_ | refine xsl ?_
          first | refine lAf ?_ | refine lAb ?_ | refine lAo ?_
          refine mv ?_
          refine mv ?_
          first | refine xs_ ?_ | refine xo ?_ | refine xw ?_ | refine xsl ?_
          first | refine lAf ?_ | refine lAb ?_ | refine lAo ?_
          refine cl (c51 q q2) ?_
          refine pkT ?_
          refine rNil ⟨rfl, ?_⟩
          refine cn (fun h4 => ?_) (fun h4 => ?_)
          ·
            refine rg ?_
            refine as_ ?_
            refine rNil ?_
            refine bn_ ?_
            refine tn ?_
            exact wx 0 (by rw [show takenF ls nums r n (k + 1) = true by rw [taken_succ, htk, hzn, h4]; simp]; rfl) -- LEAF 1: join
          ·
            refine awp_skip ?_
            refine bn_ ?_
            refine tn ?_
            exact wx 0 (by rw [show takenF ls nums r n (k + 1) = takenF ls nums r n k by rw [taken_succ, htk, hzn, h4]; simp]; rfl) -- LEAF 2: join
        ·
          have hzn : z ≠ n := by simpa using h3
          refine no ?_
          refine no ?_
          refine no ?_
          refine no ?_
          refine no ?_
          refine no ?_
          refine no ?_
          refine no ?_
          refine no ?_
          refine pkF ?_
          refine rNil ⟨rfl, ?_⟩
          refine cn (fun h5 => ?_) (fun h5 => ?_)
          ·
            first | exact absurd h5 (by decide) | (exfalso; simp_all; done)
          ·
            refine awp_skip ?_
            refine bn_ ?_
            refine tn ?_
            exact wx 0 (by rw [show takenF ls nums r n (k + 1) = takenF ls nums r n k by rw [taken_succ, htk, show (z == (n : Int)) = false by simpa using hzn]; simp]; rfl) -- LEAF 3: join
      ·
        rintro S rfl
        refine rg ?_
        refine mv ?_
        refine bo (hz := by first | exact bop_add (by omega) (by omega) | exact rfl) ?_
        refine as_ ?_
        refine rNil ?_
        refine tn ?_
        exact ⟨ls.length - (k + 1), by omega, wx 0 ⟨k + 1, rfl, by omega, rfl⟩⟩ -- LEAF 4: round of loop 2
    ·
      have hk' : k = ls.length := by simp at h2; omega
      subst hk'
      refine awp_exit ?_
      refine te ?_
      refine te ?_
      refine xbk ?_
      refine tn ?_
      refine sg ?_
      refine mv ?_
      refine nt ?_
      refine rNil ?_
      refine cn (fun h6 => ?_) (fun h6 => ?_)
      ·
        have hno : takenF ls nums r n ls.length = false := by simpa using h6
        rw [hno, if_neg (by decide)] at hf
        refine sg ?_
        refine mv ?_
        refine as_ ?_
        refine rNil ?_
        refine awp_ret ?_
        refine br ?_
        refine tr ?_
        refine tr ?_
        refine br ?_
        refine tr ?_
        exact ⟨.inr rfl, _, (.cons (by first | exact .v (by ((repeat apply Look.there rfl); exact Look.here)) (.f (.v _)) | exact .v (by ((repeat apply Look.there rfl); exact Look.here)) (.row rfl (by first | exact rfl | (simp; done) | (simp; omega))) | exact .v (by ((repeat apply Look.there rfl); exact Look.here)) (.f .nil) | exact .a (by ((repeat apply Look.there rfl); exact Look.here)) | skip) .nil), oneI (by rw [hf])⟩ -- LEAF 5: ret
      ·
        have hno : takenF ls nums r n ls.length = true := by simpa using h6
        rw [hno, if_pos rfl] at hf
        refine awp_skip ?_
        refine bn_ ?_
        refine tn ?_
        refine rg ?_
        refine mv ?_
        refine bo (hz := by first | exact bop_add (by omega) (by omega) | exact rfl) ?_
        refine as_ ?_
        refine rNil ?_
        refine tn ?_
        exact ⟨ls.length - (n + 1), by omega, wx 0 ⟨n + 1, rfl, by omega, hf, rfl⟩⟩ -- LEAF 6: round of loop 1
  ·
    have hn' : n = ls.length := by simp at h1; omega
    rw [hn', Nat.sub_self, freeG] at hf
    refine awp_exit ?_
    refine te ?_
    refine te ?_
    refine xbk ?_
    refine tn ?_
    refine sg ?_
    refine mv ?_
    first | refine lnM ?_ | refine ln ?_ | refine lnO ?_ | refine lnN ?_ | refine lnW ?_ | refine lnS ?_
    refine as_ ?_
    refine rNil ?_
    refine awp_ret ?_
    exact ⟨.inr rfl, _, (.cons (by first | exact .v (by ((repeat apply Look.there rfl); exact Look.here)) (.f (.v _)) | exact .v (by ((repeat apply Look.there rfl); exact Look.here)) (.row rfl (by first | exact rfl | (simp; done) | (simp; omega))) | exact .v (by ((repeat apply Look.there rfl); exact Look.here)) (.f .nil) | exact .a (by ((repeat apply Look.there rfl); exact Look.here)) | skip) .nil), oneI (by rw [hf])⟩ -- LEAF 7: ret

def stp (ls : List Pr) (at_ : Int) (out : List Int) (r : Nat) : List Int := if (ls.getD r ⟨0, 0⟩).x = at_ ∧ (ls.getD r ⟨0, 0⟩).y ≥ -1 then out.set r (freeF ls out r : Nat) else out
def inn (ls : List Pr) (k : Nat) (at_ : Int) (out : List Int) : List Int := (List.range k).foldl (stp ls at_) out
def ras (ls : List Pr) (m : Nat) : List Int := (List.range m).foldl (fun (out : List Int) (i : Nat) => inn ls ls.length ((i : Int) - 1) out) (List.replicate ls.length (-1))
theorem stp_len (ls : List Pr) (at_ : Int) (out : List Int) (r : Nat) : (stp ls at_ out r).length = out.length := by unfold stp; split <;> simp
theorem inn_succ (ls : List Pr) (k : Nat) (at_ : Int) (out : List Int) : inn ls (k + 1) at_ out = stp ls at_ (inn ls k at_ out) k := by unfold inn; rw [List.range_succ, List.foldl_append]; rfl
theorem inn_len (ls : List Pr) : ∀ (k : Nat) (at_ : Int) (out : List Int), (inn ls k at_ out).length = out.length
  | 0, _, _ => rfl
  | k + 1, at_, out => by rw [inn_succ, stp_len, inn_len]
theorem ras_succ (ls : List Pr) (m : Nat) : ras ls (m + 1) = inn ls ls.length ((m : Int) - 1) (ras ls m) := by unfold ras; rw [List.range_succ, List.foldl_append]; rfl
theorem ras_len (ls : List Pr) : ∀ m, (ras ls m).length = ls.length
  | 0 => by simp [ras]
  | m + 1 => by rw [ras_succ, inn_len, ras_len]
theorem ras_nil (m : Nat) : ras [] m = [] := List.length_eq_zero_iff.1 (ras_len [] m)
/-- frustum/frustumref25.Assign -/
theorem c18 (p : Prg) (hL : p.code.length ≤ 16384) : Fn Try.prog 18 [A p] (.one (L (ras (ivF p) (p.code.length + 1)))) := by
  refine fnI Try.func18 Try.ntmps18 fun hb => ?_
  refine sg ?_
  refine bx _ ?_
  refine as_ ?_
  refine rNil ?_
  refine sg ?_
  first | refine lAf ?_ | refine lAb ?_ | refine lAo ?_
  refine cl (c12 p) ?_
  refine as_ ?_
  refine rNil ?_
  refine sg ?_
  refine bsO 1 ?_
  refine as_ ?_
  refine rNil ?_
  refine sq ?_
  refine sg ?_
  refine as_ ?_
  refine rNil ?_
  refine bk ?_
  obtain ⟨L0, hok⟩ := ivF_ok p
  have hl1 := hok.1
  generalize hls : ivF p = ls at *
  refine lp (fun m S => ∃ k : Nat, m = ls.length - k ∧ k ≤ ls.length ∧ S = ⟨[(5, .r (I k)), (4, .own 1 k), (3, .r (L ls)), (1, .box 0 0)], [bxP p, .row 3 1 ((List.replicate k (-1 : Int)).map Enc.c)]⟩) ls.length ?_ ?_
  · exact wx 2 ⟨0, rfl, Nat.zero_le _, rfl⟩
  rintro m S ⟨k, hm, hk, rfl⟩
  refine sq ?_
  refine sg ?_
  refine mv ?_
  refine mv ?_
  first | refine lnM ?_ | refine ln ?_ | refine lnO ?_ | refine lnN ?_ | refine lnW ?_ | refine lnS ?_
  refine bo (hz := by exact rfl) ?_
  refine rNil ?_
  refine cn (fun h1 => ?_) (fun h1 => ?_)
  ·
    have hk' : k < ls.length := by simpa using h1
    refine awp_skip ?_
    refine tn ?_
    refine sq ?_
    refine bk ?_
    refine rg ?_
    refine mv ?_
    refine bs ?_
    first | refine ap ?_ | refine (apN _) ?_
    refine as_ ?_
    refine rNil ?_
    refine bn_ ?_
    refine tn ?_
    refine rg ?_
    refine mv ?_
    refine bo (hz := by first | exact bop_add (by omega) (by omega) | exact rfl) ?_
    refine as_ ?_
    refine rNil ?_
    refine tn ?_
    exact ⟨ls.length - (k + 1), by omega, wy 2 ⟨k + 1, rfl, by omega, rfl⟩ (by rw [List.replicate_succ', List.map_append]; rfl)⟩ -- LEAF 1: round of loop 1
  ·
    have hk' : k = ls.length := by simp at h1; omega
    subst hk'
    refine awp_exit ?_
    refine te ?_
    refine te ?_
    refine xbk ?_
    refine tn ?_
    refine sq ?_
    refine sg ?_
    refine as_ ?_
    refine rNil ?_
    refine bk ?_
    refine lp (fun m S => ∃ i : Nat, m = (p.code.length + 1) - i ∧ i ≤ p.code.length + 1 ∧ S = ⟨[(6, .r (I ((i : Int) - 1))), (4, .own 1 ls.length), (3, .r (L ls)), (1, .box 0 0)], [bxP p, .row 3 1 ((ras ls i).map Enc.c)]⟩) (p.code.length + 1) ?_ ?_
    · exact wx 2 ⟨0, rfl, Nat.zero_le _, rfl⟩
    rintro m2 S ⟨i, hm2, hi, rfl⟩
    have hrl := ras_len ls i
    refine sq ?_
    refine sg ?_
    refine mv ?_
    first | refine ff ?_ | refine fb ?_ | refine fo ?_
    first | refine l1f ?_ | refine l1b ?_ | refine l1o ?_ | refine ldI ?_
    first | refine lnM ?_ | refine ln ?_ | refine lnO ?_ | refine lnN ?_ | refine lnW ?_ | refine lnS ?_
    refine bo (hz := by exact rfl) ?_
    refine mv ?_
    refine gd (fun h2 => ?_) (fun h2 => ?_)
    ·
      have hi1 : (i : Int) - 1 < p.code.length := by simpa using h2
      refine mv ?_
      first | refine lnM ?_ | refine ln ?_ | refine lnO ?_ | refine lnN ?_ | refine lnW ?_ | refine lnS ?_
      refine bo (hz := by exact rfl) ?_
      refine pkT ?_
      refine rNil ?_
      refine cn (fun h3 => ?_) (fun h3 => ?_)
      ·
        have hls0 : 0 < ls.length := by simpa using h3
        refine awp_skip ?_
        refine tn ?_
        refine sq ?_
        refine bk ?_
        refine sg ?_
        refine as_ ?_
        refine rNil ?_
        refine bk ?_
        refine lp (fun m S => ∃ (r : Nat) (o : List Int), m = ls.length - r ∧ r ≤ ls.length ∧ o = inn ls r ((i : Int) - 1) (ras ls i) ∧ o.length = ls.length ∧ S = ⟨[(7, .r (I r)), (6, .r (I ((i : Int) - 1))), (4, .own 1 ls.length), (3, .r (L ls)), (1, .box 0 0)], [bxP p, .row 3 1 (o.map Enc.c)]⟩) ls.length ?_ ?_
        · exact wx 2 ⟨0, ras ls i, rfl, Nat.zero_le _, rfl, hrl, rfl⟩
        rintro m3 S ⟨r, o, hm3, hr, ho, hol, rfl⟩
        refine sq ?_
        refine sg ?_
        refine mv ?_
        refine mv ?_
        first | refine lnM ?_ | refine ln ?_ | refine lnO ?_ | refine lnN ?_ | refine lnW ?_ | refine lnS ?_
        refine bo (hz := by exact rfl) ?_
        refine rNil ?_
        refine cn (fun h4 => ?_) (fun h4 => ?_)
        ·
          have hr' : r < ls.length := by simpa using h4
          obtain ⟨q, hq⟩ := ex_get hr'
          have hq' : ls[r]? = some q := by simpa using hq
          have hgq := getD_at hq'
          have hst : inn ls (r + 1) ((i : Int) - 1) (ras ls i) = stp ls ((i : Int) - 1) o r := by rw [inn_succ, ← ho]
          refine awp_skip ?_
          refine tn ?_
          refine sq ?_
          refine bk ?_
          refine sg ?_
          refine mv ?_
          refine mv ?_
          first | refine xs_ ?_ | refine xo ?_ | refine xw ?_ | refine xsl ?_
          first | refine xf ?_ | refine xb ?_ | refine xoa ?_
          first | refine l1f ?_ | refine l1b ?_ | refine l1o ?_ | refine ldI ?_
          refine mv ?_
          refine bo (hz := by exact rfl) ?_
          refine mv ?_
          refine gd (fun h5 => ?_) (fun h5 => ?_)
          ·
            have hx1 : q.x = (i : Int) - 1 := by simpa using h5
            refine mv ?_
            refine mv ?_
            first | refine xs_ ?_ | refine xo ?_ | refine xw ?_ | refine xsl ?_
            first | refine xf ?_ | refine xb ?_ | refine xoa ?_
            first | refine l1f ?_ | refine l1b ?_ | refine l1o ?_ | refine ldI ?_
            refine bo (hz := by exact rfl) ?_
            refine pkT ?_
            refine rNil ?_
            refine cn (fun h6 => ?_) (fun h6 => ?_)
            ·
              have hx2 : q.y ≥ -1 := by simpa using h6
              refine rg ?_
              refine mv ?_
              refine mv ?_
              refine mv ?_
              refine mv ?_
              refine mv ?_
              refine clW [1] (c36 ls o r hl1 hol (by omega) (by omega)) ?_ (Opd.fn _) (ArgW.d (y := L ls) (by apply Opd.tmp; ((repeat apply Look.there rfl); exact Look.here)) (fun _ _ => IsD.f (IsF.v _)) (ArgW.w (by apply Opd.tmp; ((repeat apply Look.there rfl); exact Look.here)) rfl (by rw [List.length_map, hol]) (by simp) (ArgW.d (y := I r) (by apply Opd.tmp; ((repeat apply Look.there rfl); exact Look.here)) (fun _ _ => IsD.f (IsF.v _)) ArgW.nil))) rfl (by decide) W.none
              first | refine xs_ ?_ | refine xo ?_ | refine xw ?_ | refine xsl ?_
              first | refine s1 ?_ | refine s1w ?_ | refine soI ?_
              refine rNil ?_
              refine bn_ ?_
              refine tn ?_
              refine rg ?_
              refine mv ?_
              refine bo (hz := by first | exact bop_add (by omega) (by omega) | exact rfl) ?_
              refine as_ ?_
              refine rNil ?_
              refine tn ?_
              exact ⟨ls.length - (r + 1), by omega, wy 2 ⟨r + 1, o.set r (freeF ls o r : Nat), rfl, by omega, by rw [hst, stp, hgq, if_pos ⟨hx1, hx2⟩], by rw [List.length_set]; exact hol, rfl⟩ (by
                show [_, Ent.row 3 1 (List.map Enc.c (List.set _ ((r : Int).toNat * 1) _))] = _
                rw [show (r : Int).toNat * 1 = r by omega])⟩ -- LEAF 2: round of loop 3
            ·
              have hx2 : ¬ q.y ≥ -1 := by simpa using h6
              refine awp_skip ?_
              refine bn_ ?_
              refine tn ?_
              refine rg ?_
              refine mv ?_
              refine bo (hz := by first | exact bop_add (by omega) (by omega) | exact rfl) ?_
              refine as_ ?_
              refine rNil ?_
              refine tn ?_
              exact ⟨ls.length - (r + 1), by omega, wx 2 ⟨r + 1, o, rfl, by omega, by rw [hst, stp, hgq, if_neg (fun h => hx2 h.2)], hol, rfl⟩⟩ -- LEAF 3: round of loop 3
          ·
            have hx1 : q.x ≠ (i : Int) - 1 := by simpa using h5
            refine no ?_
            refine no ?_
            refine no ?_
            refine no ?_
            refine no ?_
            refine no ?_
            refine pkF ?_
            refine rNil ?_
            refine cn (fun h7 => ?_) (fun h7 => ?_)
            ·
              first | exact absurd h7 (by decide) | (exfalso; simp_all; done)
            ·
              refine awp_skip ?_
              refine bn_ ?_
              refine tn ?_
              refine rg ?_
              refine mv ?_
              refine bo (hz := by first | exact bop_add (by omega) (by omega) | exact rfl) ?_
              refine as_ ?_
              refine rNil ?_
              refine tn ?_
              exact ⟨ls.length - (r + 1), by omega, wx 2 ⟨r + 1, o, rfl, by omega, by rw [hst, stp, hgq, if_neg (fun h => hx1 h.1)], hol, rfl⟩⟩ -- LEAF 4: round of loop 3
        ·
          have hr' : r = ls.length := by simp at h4; omega
          subst hr'
          refine awp_exit ?_
          refine te ?_
          refine te ?_
          refine xbk ?_
          refine bn_ ?_
          refine tn ?_
          refine rg ?_
          refine mv ?_
          refine bo (hz := by first | exact bop_add (by omega) (by omega) | exact rfl) ?_
          refine as_ ?_
          refine rNil ?_
          refine tn ?_
          exact ⟨p.code.length + 1 - (i + 1), by omega, wx 2 ⟨i + 1, rfl, by omega, by rw [ras_succ, ← ho, show ((i + 1 : Nat) : Int) - 1 = (i : Int) - 1 + 1 by omega]; rfl⟩⟩ -- LEAF 5: round of loop 2
      ·
        have hls0 : ls = [] := List.length_eq_zero_iff.1 (by simp at h3; first | omega | simp [h3])
        have hrr : ras ls (p.code.length + 1) = ras ls i := by rw [hls0, ras_nil, ras_nil]
        refine awp_exit ?_
        refine te ?_
        refine te ?_
        refine xbk ?_
        refine tn ?_
        refine sg ?_
        refine mv ?_
        refine as_ ?_
        refine rNil ?_
        refine awp_ret ?_
        exact ⟨.inr rfl, _, (.cons (by first | exact .v (by ((repeat apply Look.there rfl); exact Look.here)) (.f (.v _)) | exact .v (by ((repeat apply Look.there rfl); exact Look.here)) (.row rfl (by first | exact rfl | (simp; done) | (simp; omega))) | exact .v (by ((repeat apply Look.there rfl); exact Look.here)) (.f .nil) | exact .a (by ((repeat apply Look.there rfl); exact Look.here)) | skip) .nil), (by rw [hrr]; rfl)⟩ -- LEAF 6: ret
    ·
      have hi1 : i = p.code.length + 1 := by simp at h2; omega
      subst hi1
      refine no ?_
      refine no ?_
      refine no ?_
      refine pkF ?_
      refine rNil ?_
      refine cn (fun h8 => ?_) (fun h8 => ?_)
      ·
        first | exact absurd h8 (by decide) | (exfalso; simp_all; done)
      ·
        refine awp_exit ?_
        refine te ?_
        refine te ?_
        refine xbk ?_
        refine tn ?_
        refine sg ?_
        refine mv ?_
        refine as_ ?_
        refine rNil ?_
        refine awp_ret ?_
        exact ⟨.inr rfl, _, (.cons (by first | exact .v (by ((repeat apply Look.there rfl); exact Look.here)) (.f (.v _)) | exact .v (by ((repeat apply Look.there rfl); exact Look.here)) (.row rfl (by first | exact rfl | (simp; done) | (simp; omega))) | exact .v (by ((repeat apply Look.there rfl); exact Look.here)) (.f .nil) | exact .a (by ((repeat apply Look.there rfl); exact Look.here)) | skip) .nil), (by rfl)⟩ -- LEAF 7: ret

def cntF (ls : List Pr) (s : Int) : Nat := ls.countP fun q => decide (q.x ≤ s) && decide (s ≤ q.y)
def rpt (ls : List Pr) (m : Int) (q : Pr) : Int := if q.y ≥ -1 then max m (cntF ls q.x : Nat) else m
def rpres (ls : List Pr) : Int := ls.foldl (rpt ls) 0
/-- frustum/frustumref25.Pressure -/
theorem c15 (p : Prg) : Fn Try.prog 15 [A p] (.one (I (rpres (ivF p)))) := by
  refine fnI Try.func15 Try.ntmps15 fun hb => ?_
  refine sg ?_
  refine bx _ ?_
  refine as_ ?_
  refine rNil ?_
  refine sg ?_
  first | refine lAf ?_ | refine lAb ?_ | refine lAo ?_
  refine cl (c12 p) ?_
  refine as_ ?_
  refine rNil ?_
  refine sg ?_
  refine as_ ?_
  refine rNil ?_
  refine sq ?_
  refine sg ?_
  refine as_ ?_
  refine rNil ?_
  refine bk ?_
  obtain ⟨L0, hok⟩ := ivF_ok p
  have hl1 := hok.1
  generalize hls : ivF p = ls at *
  refine lp (fun m S => ∃ (i : Nat) (mo : Int), m = ls.length - i ∧ i ≤ ls.length ∧ mo = (ls.take i).foldl (rpt ls) 0 ∧ S = ⟨[(5, .r (I i)), (4, .r (I mo)), (3, .r (L ls)), (1, .box 0 0)], [bxP p]⟩) ls.length ?_ ?_
  · exact wx 1 ⟨0, 0, rfl, Nat.zero_le _, rfl, rfl⟩
  rintro m S ⟨i, mo, hm, hi, hmo, rfl⟩
  refine sq ?_
  refine sg ?_
  refine mv ?_
  refine mv ?_
  first | refine lnM ?_ | refine ln ?_ | refine lnO ?_ | refine lnN ?_ | refine lnW ?_ | refine lnS ?_
  refine bo (hz := by exact rfl) ?_
  refine rNil ?_
  refine cn (fun h1 => ?_) (fun h1 => ?_)
  ·
    have hi' : i < ls.length := by simpa using h1
    obtain ⟨q, hq⟩ := ex_get hi'
    have hq' : ls[i]? = some q := by simpa using hq
    have hst : (ls.take (i + 1)).foldl (rpt ls) 0 = rpt ls mo q := by rw [take_snoc hq', List.foldl_append, ← hmo]; rfl
    refine awp_skip ?_
    refine tn ?_
    refine sq ?_
    refine bk ?_
    refine sg ?_
    refine as_ ?_
    refine rNil ?_
    refine sq ?_
    refine sg ?_
    refine as_ ?_
    refine rNil ?_
    refine bk ?_
    refine lp (fun m S => ∃ k : Nat, m = ls.length - k ∧ k ≤ ls.length ∧ S = ⟨[(7, .r (I k)), (6, .r (I (cntF (ls.take k) q.x : Nat))), (5, .r (I i)), (4, .r (I mo)), (3, .r (L ls)), (1, .box 0 0)], [bxP p]⟩) ls.length ?_ ?_
    · exact wx 1 ⟨0, rfl, Nat.zero_le _, rfl⟩
    rintro m2 S ⟨k, hm2, hk, rfl⟩
    have hcl : cntF (ls.take k) q.x ≤ k := by unfold cntF; have := List.countP_le_length (p := fun z : Pr => decide (z.x ≤ q.x) && decide (q.x ≤ z.y)) (l := ls.take k); rw [List.length_take] at this; omega
    refine sq ?_
    refine sg ?_
    refine mv ?_
    refine mv ?_
    first | refine lnM ?_ | refine ln ?_ | refine lnO ?_ | refine lnN ?_ | refine lnW ?_ | refine lnS ?_
    refine bo (hz := by exact rfl) ?_
    refine rNil ?_
    refine cn (fun h2 => ?_) (fun h2 => ?_)
    ·
      have hk' : k < ls.length := by simpa using h2
      obtain ⟨z, hz⟩ := ex_get hk'
      have hz' : ls[k]? = some z := by simpa using hz
      have hct : cntF (ls.take (k + 1)) q.x = cntF (ls.take k) q.x + (if (decide (z.x ≤ q.x) && decide (q.x ≤ z.y)) = true then 1 else 0) := by
        unfold cntF
        rw [take_snoc hz', List.countP_append, List.countP_cons, List.countP_nil, Nat.zero_add]
      refine awp_skip ?_
      refine tn ?_
      refine jn (fun S => S = ⟨[(7, .r (I k)), (6, .r (I (cntF (ls.take (k + 1)) q.x : Nat))), (5, .r (I i)), (4, .r (I mo)), (3, .r (L ls)), (1, .box 0 0)], [bxP p]⟩) ?_ ?_
      ·
        refine bk ?_
        refine sd mixO ?_
        refine mv ?_
        refine mv ?_
        first | refine xs_ ?_ | refine xo ?_ | refine xw ?_ | refine xsl ?_
        first | refine xf ?_ | refine xb ?_ | refine xoa ?_
        first | refine l1f ?_ | refine l1b ?_ | refine l1o ?_
        refine mv ?_
        refine mv ?_
        first | refine xs_ ?_ | refine xo ?_ | refine xw ?_ | refine xsl ?_
        first | refine xf ?_ | refine xb ?_ | refine xoa ?_
        first | refine l1f ?_ | refine l1b ?_ | refine l1o ?_
        refine bo (hz := by exact rfl) ?_
        refine mv ?_
        refine gd (fun h3 => ?_) (fun h3 => ?_)
        ·
          refine mv ?_
          refine mv ?_
          first | refine xs_ ?_ | refine xo ?_ | refine xw ?_ | refine xsl ?_
          first | refine xf ?_ | refine xb ?_ | refine xoa ?_
          first | refine l1f ?_ | refine l1b ?_ | refine l1o ?_
          refine mv ?_
          refine mv ?_
          first | refine xs_ ?_ | refine xo ?_ | refine xw ?_ | refine xsl ?_
          first | refine xf ?_ | refine xb ?_ | refine xoa ?_
          first | refine l1f ?_ | refine l1b ?_ | refine l1o ?_
          refine bo (hz := by exact rfl) ?_
          refine pkT ?_
          refine rNil ⟨rfl, ?_⟩
          refine cn (fun h4 => ?_) (fun h4 => ?_)
          ·
            refine rg ?_
            refine mv ?_
            refine bo (hz := by first | exact bop_add (by omega) (by omega) | exact rfl) ?_
            refine as_ ?_
            refine rNil ?_
            refine bn_ ?_
            refine tn ?_
            exact wx 1 (by rw [hct, h3, h4]; rfl) -- LEAF 1: join
          ·
            refine awp_skip ?_
            refine bn_ ?_
            refine tn ?_
            exact wx 1 (by rw [hct, h3, h4]; rfl) -- LEAF 2: join
        ·
          refine no ?_
          refine no ?_
          refine no ?_
          refine no ?_
          refine no ?_
          refine no ?_
          refine no ?_
          refine no ?_
          refine no ?_
          refine no ?_
          refine no ?_
          refine pkF ?_
          refine rNil ⟨rfl, ?_⟩
          refine cn (fun h5 => ?_) (fun h5 => ?_)
          ·
            first | exact absurd h5 (by decide) | (exfalso; simp_all; done)
          ·
            refine awp_skip ?_
            refine bn_ ?_
            refine tn ?_
            exact wx 1 (by rw [hct, h3]; rfl) -- LEAF 3: join
      ·
        rintro S rfl
        refine rg ?_
        refine mv ?_
        refine bo (hz := by first | exact bop_add (by omega) (by omega) | exact rfl) ?_
        refine as_ ?_
        refine rNil ?_
        refine tn ?_
        exact ⟨ls.length - (k + 1), by omega, wx 1 ⟨k + 1, rfl, by omega, rfl⟩⟩ -- LEAF 4: round of loop 2
    ·
      have hk' : k = ls.length := by simp at h2; omega
      rw [hk', List.take_length]
      refine awp_exit ?_
      refine te ?_
      refine te ?_
      refine xbk ?_
      refine tn ?_
      refine sg ?_
      refine mv ?_
      refine mv ?_
      first | refine xs_ ?_ | refine xo ?_ | refine xw ?_ | refine xsl ?_
      first | refine xf ?_ | refine xb ?_ | refine xoa ?_
      first | refine l1f ?_ | refine l1b ?_ | refine l1o ?_
      refine bo (hz := by exact rfl) ?_
      refine rNil ?_
      refine cn (fun h6 => ?_) (fun h6 => ?_)
      ·
        refine rg ?_
        refine mv ?_
        refine mv ?_
        refine mx2 ?_
        refine as_ ?_
        refine rNil ?_
        refine bn_ ?_
        refine tn ?_
        refine rg ?_
        refine mv ?_
        refine bo (hz := by first | exact bop_add (by omega) (by omega) | exact rfl) ?_
        refine as_ ?_
        refine rNil ?_
        refine tn ?_
        have hy : q.y ≥ -1 := by simpa using h6
        exact ⟨ls.length - (i + 1), by omega, wx 1 ⟨i + 1, max mo (cntF ls q.x : Nat), rfl, by omega, by rw [hst, rpt, if_pos hy], by rw [← mx_max]; rfl⟩⟩ -- LEAF 5: round of loop 1
      ·
        refine awp_skip ?_
        refine bn_ ?_
        refine tn ?_
        refine rg ?_
        refine mv ?_
        refine bo (hz := by first | exact bop_add (by omega) (by omega) | exact rfl) ?_
        refine as_ ?_
        refine rNil ?_
        refine tn ?_
        have hy : ¬ q.y ≥ -1 := by simpa using h6
        exact ⟨ls.length - (i + 1), by omega, wx 1 ⟨i + 1, mo, rfl, by omega, by rw [hst, rpt, if_neg hy], rfl⟩⟩ -- LEAF 6: round of loop 1
  ·
    have hi' : i = ls.length := by simp at h1; omega
    rw [hi', List.take_length] at hmo
    refine awp_exit ?_
    refine te ?_
    refine te ?_
    refine xbk ?_
    refine tn ?_
    refine sg ?_
    refine mv ?_
    refine as_ ?_
    refine rNil ?_
    refine awp_ret ?_
    exact ⟨.inr rfl, _, (.cons (by first | exact .v (by ((repeat apply Look.there rfl); exact Look.here)) (.f (.v _)) | exact .v (by ((repeat apply Look.there rfl); exact Look.here)) (.row rfl (by first | exact rfl | (simp; done) | (simp; omega))) | exact .v (by ((repeat apply Look.there rfl); exact Look.here)) (.f .nil) | exact .a (by ((repeat apply Look.there rfl); exact Look.here)) | skip) .nil), oneI (by rw [hmo]; rfl)⟩ -- LEAF 7: ret

end Go.Proofs.Ytnhljpbpfaablaa.VS
