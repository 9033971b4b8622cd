/- The walks of functions: what each computes, by itself. Conditions: none. -/
import Derived.Test.YtnhljpbpfaablaaF18
import Derived.Test.YtnhljpbpfaablaaV31
set_option linter.unusedVariables false
set_option linter.unusedSimpArgs false
namespace Go.Proofs.Ytnhljpbpfaablaa.VS
open Go
instance : Plain Try.prog 70 := ⟨by kernel_rfl⟩
instance : Agg Try.prog 71 2 := ⟨by kernel_rfl⟩
instance : Str Try.prog 71 [(0, 1), (1, 1)] := ⟨by kernel_rfl⟩
instance : Two Try.prog 71 := ⟨by kernel_rfl⟩
theorem scI (l : List Ins) : Scz 6 (l.map Enc.c) :=
  ⟨fun x hx => by obtain ⟨n, _, rfl⟩ := List.mem_map.1 hx; rfl, fun x hx y hy => by
    obtain ⟨n, _, rfl⟩ := List.mem_map.1 hx
    simp only [Enc.c, List.mem_cons, List.not_mem_nil, or_false] at hy
    rcases hy with rfl | rfl | rfl | rfl | rfl | rfl <;> rfl, by decide⟩
/-- slices.Clone[[]frustum/api.Instr,frustum/api.Instr] -/
theorem c40 (l : List Ins) (hl : l.length ≤ 16384) : FnZ Try.prog 40 [L l] 51 6 (l.map Enc.c) := by
  refine fnZ_of Try.func40 Try.ntmps40 (scI l) fun hb => ?_
  refine sg ?_
  refine as_ ?_
  refine rNil ?_
  refine sq ?_
  refine nilC 0 (fun hnil => ?_) ?_
  · have hnl : l = [] := by simpa using hnil
    subst hnl
    refine sg ?_
    refine mv ?_
    refine nq ?_
    refine rNil ?_
    refine cn (fun h1 => ?_) (fun h1 => ?_)
    · refine sg ?_
      refine as_ ?_
      refine rNil ?_
      refine awp_ret ?_
      refine tr ?_
      exact ⟨.inr rfl, .nil (by ((repeat apply Look.there rfl); exact Look.here)) rfl⟩
    · exact absurd h1 (by decide)
  refine sg ?_
  refine mv ?_
  refine nq ?_
  refine rNil ?_
  refine cn (fun h1 => ?_) (fun h1 => ?_)
  ·
    exact absurd h1 (by decide) -- END
  ·
    refine awp_skip ?_
    refine tn ?_
    refine unN 0 ?_
    refine sg ?_
    refine (bsO _) ?_
    refine mv ?_
    first | refine ap ?_ | refine (apN _) ?_
    refine as_ ?_
    refine rNil ?_
    refine awp_ret ?_
    exact ⟨.inr rfl, .own (by ((repeat apply Look.there rfl); exact Look.here)) rfl (by simp)⟩ -- LEAF 1: ret

def at_ (nums : List Int) (b : Bool) (r : Int) : Int := if b = true then nums.getD r.toNat 0 else r
def rpl (nums : List Int) (x : Ins) : Ins := ⟨x.op, at_ nums (dF x.op) x.dst, at_ nums (aF x.op) x.a, at_ nums (bF x.op) x.b, at_ nums (cF x.op) x.c, x.imm⟩
def rplK (nums : List Int) (x : Ins) (k : Nat) : Ins := ⟨x.op, at_ nums (dF x.op && decide (0 < k)) x.dst, at_ nums (aF x.op && decide (1 < k)) x.a, at_ nums (bF x.op && decide (2 < k)) x.b, at_ nums (cF x.op && decide (3 < k)) x.c, x.imm⟩
def fld (x : Ins) : Nat → Int
  | 0 => x.dst
  | 1 => x.a
  | 2 => x.b
  | _ => x.c
def flg (op : Int) : Nat → Bool
  | 0 => dF op
  | 1 => aF op
  | 2 => bF op
  | _ => cF op
theorem rplK_zero (nums : List Int) (x : Ins) : rplK nums x 0 = x := by simp [rplK, at_]
theorem rplK_four (nums : List Int) (x : Ins) : rplK nums x 4 = rpl nums x := by simp [rplK, rpl]
theorem fld_at (nums : List Int) (x : Ins) {k : Nat} (hk : k < 4) : (Enc.c (rplK nums x k))[1 + k]? = some (.i .i64 (fld x k)) := by
  match k, hk with
  | 0, _ => simp [Enc.c, rplK, at_, fld]
  | 1, _ => simp [Enc.c, rplK, at_, fld]
  | 2, _ => simp [Enc.c, rplK, at_, fld]
  | 3, _ => simp [Enc.c, rplK, at_, fld]
theorem rplK_no (nums : List Int) (x : Ins) {k : Nat} (hk : k < 4) (h : flg x.op k = false) : rplK nums x (k + 1) = rplK nums x k := by
  match k, hk with
  | 0, _ => have h : dF x.op = false := h; simp [rplK, at_, h]
  | 1, _ => have h : aF x.op = false := h; simp [rplK, at_, h]
  | 2, _ => have h : bF x.op = false := h; simp [rplK, at_, h]
  | 3, _ => have h : cF x.op = false := h; simp [rplK, at_, h]
theorem rplK_yes (nums : List Int) (x : Ins) {k : Nat} (hk : k < 4) (h : flg x.op k = true) : (Enc.c (rplK nums x k)).set (1 + k) (.i .i64 (nums.getD (fld x k).toNat 0)) = Enc.c (rplK nums x (k + 1)) := by
  match k, hk with
  | 0, _ => have h : dF x.op = true := h; simp [Enc.c, rplK, at_, h, fld]
  | 1, _ => have h : aF x.op = true := h; simp [Enc.c, rplK, at_, h, fld]
  | 2, _ => have h : bF x.op = true := h; simp [Enc.c, rplK, at_, h, fld]
  | 3, _ => have h : cF x.op = true := h; simp [Enc.c, rplK, at_, h, fld]
def mid (l : List Ins) (nums : List Int) (i : Nat) : List Ins := (l.take i).map (rpl nums) ++ l.drop i
theorem mid_len (l : List Ins) (nums : List Int) (i : Nat) : (mid l nums i).length = l.length := by simp [mid]; omega
theorem mid_zero (l : List Ins) (nums : List Int) : mid l nums 0 = l := by simp [mid]
theorem mid_all (l : List Ins) (nums : List Int) : mid l nums l.length = l.map (rpl nums) := by simp [mid]
theorem mid_at {l : List Ins} {nums : List Int} {i : Nat} {x : Ins} (h : l[i]? = some x) : (mid l nums i)[i]? = some x := by
  have hi := (List.getElem?_eq_some_iff.1 h).1
  unfold mid
  rw [List.getElem?_append_right (by simp; omega)]
  simp only [List.length_map, List.length_take, Nat.min_eq_left (Nat.le_of_lt hi), Nat.sub_self, List.getElem?_drop, Nat.add_zero]
  exact h
theorem mid_succ {l : List Ins} {nums : List Int} {i : Nat} {x : Ins} (h : l[i]? = some x) : mid l nums (i + 1) = (mid l nums i).set i (rpl nums x) := by
  have hi := (List.getElem?_eq_some_iff.1 h).1
  unfold mid
  rw [take_snoc h, List.set_append, if_neg (by simp; omega), List.map_append, drop_at h]
  simp only [List.length_map, List.length_take, Nat.min_eq_left (Nat.le_of_lt hi), Nat.sub_self, List.set_cons_zero, List.map_cons, List.map_nil, List.append_assoc, List.singleton_append]
theorem set_own {α : Type} {l : List α} {i : Nat} {x : α} (h : l[i]? = some x) : l.set i x = l := by
  obtain ⟨h1, h2⟩ := List.getElem?_eq_some_iff.1 h
  rw [← h2]; exact List.set_getElem_self h1
theorem row_step {R : List Ins} {i : Nat} {y y' : Ins} {cs : List FV} (h : cs = Enc.c y') : ((R.set i y).map Enc.c).set ((i : Int)).toNat cs = (R.set i y').map Enc.c := by
  subst h
  rw [Int.toNat_natCast, ← List.map_set, List.set_set]
theorem vrun_mem {p : Prg} : ∀ {l : List Ins} {st : List Int}, vrun p l st = 0 → ∀ x ∈ l, opnF p x = 0
  | [], _, _, x, hx => by cases hx
  | y :: l, st, h, x, hx => by
    obtain ⟨st', _, h1, h2, _⟩ := vstep h
    cases hx with
    | head => exact h1
    | tail _ hx => exact vrun_mem h2 x hx
theorem fld_ok {p : Prg} {x : Ins} (h : opnF p x = 0) {k : Nat} (hk : k < 4) (hf : flg x.op k = true) : 0 ≤ fld x k ∧ fld x k < p.rg := by
  obtain ⟨h1, h2⟩ := regs_ok h
  match k, hk with
  | 0, _ => exact h2 hf
  | 1, _ => have hf : aF x.op = true := hf; exact h1 _ (by simp [usesF, hf, fld])
  | 2, _ => have hf : bF x.op = true := hf; exact h1 _ (by simp [usesF, hf, fld])
  | 3, _ => have hf : cF x.op = true := hf; exact h1 _ (by simp [usesF, hf, fld])
abbrev opbs (n o : Nat) (op : Int) : List Slot := [.op 2 n (o + 1), .r (B (dF op)), .op 2 n (o + 2), .r (B (aF op)), .op 2 n (o + 3), .r (B (bF op)), .op 2 n (o + 4), .r (B (cF op))]
theorem opbs_at (n o : Nat) (op : Int) {k : Nat} (hk : k < 4) : (opbs n o op)[0 + ((k : Int)).toNat * 2]? = some (.op 2 n (o + (1 + k))) ∧ (opbs n o op)[0 + ((k : Int)).toNat * 2 + 1]? = some (.r (B (flg op k))) := by
  match k, hk with
  | 0, _ => exact ⟨rfl, rfl⟩
  | 1, _ => exact ⟨rfl, rfl⟩
  | 2, _ => exact ⟨rfl, rfl⟩
  | 3, _ => exact ⟨rfl, rfl⟩
def badR (ls : List Pr) (nums : List Int) (m : Int) (r : Nat) : Bool := (ls.getD r ⟨0, 0⟩).y != -2 && (decide (nums.getD r 0 < 0) || decide (nums.getD r 0 ≥ m))
def badN (ls : List Pr) (nums : List Int) (m : Int) (k : Nat) : Bool := (List.range k).any (badR ls nums m)
theorem bad_succ {ls : List Pr} {nums : List Int} {m : Int} {k : Nat} : badN ls nums m (k + 1) = (badN ls nums m k || badR ls nums m k) := by
  unfold badN
  rw [List.range_succ, List.any_append]; simp
theorem bad_of {ls : List Pr} {nums : List Int} {m : Int} {k : Nat} (hk : k < ls.length) (h : badR ls nums m k = true) : badN ls nums m ls.length = true := List.any_eq_true.2 ⟨k, List.mem_range.2 hk, h⟩
def zP : Prg := ⟨0, 0, 0, 0, 0, 0, 0, []⟩
def renF (p : Prg) (nums : List Int) (m : Int) : Prg × Int :=
  if validF p ≠ 0 then (zP, 17) else if (nums.length : Int) ≠ p.rg then (zP, 2) else if badN (ivF p) nums m (ivF p).length = true then (zP, 2) else if m < 0 ∨ m > 8192 then (zP, 6) else ({ p with rg := m, code := p.code.map (rpl nums) }, 0)
abbrev bxZ : Ent := .box 25 [.r (I 0), .r (I 0), .r (I 0), .r (I 0), .r (I 0), .r (I 0), .r (I 0), .nil]
abbrev bxW (p : Prg) (m : Int) : Ent := .box 25 [.r (I p.st), .r (I m), .r (I p.ip), .r (I p.ou), .r (I p.un), .r (I p.tx), .r (I p.bf), .own 2 p.code.length]
/-- frustum/regalloc.Renumber -/
theorem c20 (p : Prg) (nums : List Int) (m : Int) : Fn Try.prog 20 [A p, L nums, I m] (.many [A (renF p nums m).1, I (renF p nums m).2]) := by
  refine fnI Try.func20 Try.ntmps20 fun hb => ?_
  refine sg ?_
  refine bx _ ?_
  refine al _ ?_
  refine as_ ?_
  refine rNil ?_
  refine sg ?_
  first | refine lAf ?_ | refine lAb ?_ | refine lAo ?_
  refine cl (c11 p) ?_
  refine as_ ?_
  refine rNil ?_
  refine sq ?_
  refine sg ?_
  first | refine lAf ?_ | refine lAb ?_ | refine lAo ?_
  refine cl (c19 p) ?_
  refine bo (hz := by exact rfl) ?_
  refine rNil ?_
  refine cn (fun h1 => ?_) (fun h1 => ?_)
  ·
    have g1 : validF p ≠ 0 := by simpa using h1
    refine sg ?_
    refine buS ?_
    refine sA ?_
    refine as_ ?_
    refine rNil ?_
    refine awp_ret ?_
    refine tr ?_
    exact ⟨.inr rfl, _, (.cons (resC (by ((repeat apply Look.there rfl); exact Look.here)) (by exact rfl) (by exact rfl) (by ((repeat (apply All2.cons; first | exact .f (.v _) | exact .row rfl (by first | exact rfl | simp) | exact .f .nil | exact .f (.fro rfl (by first | exact rfl | simp)))); exact All2.nil))) (.cons (by first | exact .v (by ((repeat apply Look.there rfl); exact Look.here)) (.f (.v _)) | exact .v (by ((repeat apply Look.there rfl); exact Look.here)) (.row rfl (by first | exact rfl | (simp; done) | (simp; omega))) | exact .v (by ((repeat apply Look.there rfl); exact Look.here)) (.f .nil) | exact .a (by ((repeat apply Look.there rfl); exact Look.here)) | skip) .nil)), (by rw [renF, if_pos g1]; rfl)⟩ -- LEAF 1: ret
  ·
    have g1 : validF p = 0 := by simpa using h1
    obtain ⟨hs, hl, hv, _⟩ := valid_of g1
    obtain ⟨_, hok1, hok2⟩ := ivs_ok g1
    have hil : (ivF p).length = p.rg.toNat := by rw [ivF, if_pos g1]; simp [ivs]
    obtain ⟨_, _, _, _, _, _, _, _, _, _, hr0, hr1⟩ := hs
    refine awp_skip ?_
    refine tn ?_
    refine sq ?_
    refine sg ?_
    refine mv ?_
    first | refine lnM ?_ | refine ln ?_ | refine lnO ?_ | refine lnN ?_ | refine lnW ?_ | refine lnS ?_
    first | refine ff ?_ | refine fb ?_ | refine fo ?_
    first | refine l1f ?_ | refine l1b ?_ | refine l1o ?_
    refine bo (hz := by exact rfl) ?_
    refine rNil ?_
    refine cn (fun h2 => ?_) (fun h2 => ?_)
    ·
      have g2 : (nums.length : Int) ≠ p.rg := by simpa using h2
      refine sg ?_
      refine buS ?_
      refine sA ?_
      refine as_ ?_
      refine rNil ?_
      refine awp_ret ?_
      refine tr ?_
      exact ⟨.inr rfl, _, (.cons (resC (by ((repeat apply Look.there rfl); exact Look.here)) (by exact rfl) (by exact rfl) (by ((repeat (apply All2.cons; first | exact .f (.v _) | exact .row rfl (by first | exact rfl | simp) | exact .f .nil | exact .f (.fro rfl (by first | exact rfl | simp)))); exact All2.nil))) (.cons (by first | exact .v (by ((repeat apply Look.there rfl); exact Look.here)) (.f (.v _)) | exact .v (by ((repeat apply Look.there rfl); exact Look.here)) (.row rfl (by first | exact rfl | (simp; done) | (simp; omega))) | exact .v (by ((repeat apply Look.there rfl); exact Look.here)) (.f .nil) | exact .a (by ((repeat apply Look.there rfl); exact Look.here)) | skip) .nil)), (by rw [renF, if_neg (by simpa using g1), if_pos g2]; rfl)⟩ -- LEAF 2: ret
    ·
      have g2 : (nums.length : Int) = p.rg := by simpa using h2
      have hren : renF p nums m = if badN (ivF p) nums m (ivF p).length = true then (zP, 2) else if m < 0 ∨ m > 8192 then (zP, 6) else ({ p with rg := m, code := p.code.map (rpl nums) }, 0) := by rw [renF, if_neg (by simpa using g1), if_neg (by simpa using g2)]
      refine awp_skip ?_
      refine tn ?_
      refine sq ?_
      refine sg ?_
      refine mv ?_
      first | refine lnM ?_ | refine ln ?_ | refine lnO ?_ | refine lnN ?_ | refine lnW ?_ | refine lnS ?_
      refine mv ?_
      refine rNil ?_
      refine bk ?_
      generalize hls : ivF p = ls at *
      have hll : ls.length = nums.length := by omega
      refine lp (fun mm S => ∃ k : Nat, mm = ls.length - k ∧ k ≤ ls.length ∧ badN ls nums m k = false ∧ S = ⟨[(34, .r (I k)), (33, .r (I ls.length)), (32, .r (L ls)), (8, .r (L ls)), (7, .r (I 0)), (6, .box 1 0), (3, .box 0 0), (1, .r (L nums)), (2, .r (I m))], [bxP p, bxZ]⟩) ls.length ?_ ?_
      · exact wx 2 ⟨0, rfl, Nat.zero_le _, rfl, rfl⟩
      rintro mm S ⟨k, hmm, hk, hbk, rfl⟩
      refine sg ?_
      refine bo (hz := by exact rfl) ?_
      refine rNil ?_
      refine sq ?_
      refine cn (fun h3 => ?_) (fun h3 => ?_)
      ·
        have hk' : k < ls.length := by simpa using h3
        obtain ⟨q, hq⟩ := ex_get hk'
        obtain ⟨z, hz⟩ := ex_get (a := nums) (k := k) (by omega)
        have hq' : ls[k]? = some q := by simpa using hq
        have hz' : nums[k]? = some z := by simpa using hz
        have hbr : badR ls nums m k = (q.y != -2 && (decide (z < 0) || decide (z ≥ m))) := by unfold badR; rw [getD_at hq', getD_of hz']
        refine awp_skip ?_
        refine tn ?_
        refine sq ?_
        refine bk ?_
        refine sg ?_
        refine mv ?_
        first | refine xs_ ?_ | refine xo ?_ | refine xw ?_ | refine xsl ?_
        first | refine lAf ?_ | refine lAb ?_ | refine lAo ?_
        refine al _ ?_
        refine as_ ?_
        refine sA ?_
        refine rNil ?_
        refine sg ?_
        first | refine lAf ?_ | refine lAb ?_ | refine lAo ?_
        refine cl (c33 q) ?_
        refine mv ?_
        refine gd (fun h4 => ?_) (fun h4 => ?_)
        ·
          refine mv ?_
          refine mv ?_
          first | refine xs_ ?_ | refine xo ?_ | refine xw ?_ | refine xsl ?_
          first | refine l1f ?_ | refine l1b ?_ | refine l1o ?_
          refine bo (hz := by exact rfl) ?_
          refine mv ?_
          refine gd (fun h5 => ?_) (fun h5 => ?_)
          ·
            refine no ?_
            refine no ?_
            refine no ?_
            refine no ?_
            refine no ?_
            refine no ?_
            refine pkT ?_
            refine pkT ?_
            refine rNil ?_
            refine cn (fun h6 => ?_) (fun h6 => ?_)
            ·
              refine sg ?_
              refine buS ?_
              refine sA ?_
              refine as_ ?_
              refine rNil ?_
              refine awp_ret ?_
              refine br ?_
              refine tr ?_
              refine tr ?_
              refine br ?_
              refine tr ?_
              exact ⟨.inr rfl, _, (.cons (resC (by ((repeat apply Look.there rfl); exact Look.here)) (by exact rfl) (by exact rfl) (by ((repeat (apply All2.cons; first | exact .f (.v _) | exact .row rfl (by first | exact rfl | simp) | exact .f .nil | exact .f (.fro rfl (by first | exact rfl | simp)))); exact All2.nil))) (.cons (by first | exact .v (by ((repeat apply Look.there rfl); exact Look.here)) (.f (.v _)) | exact .v (by ((repeat apply Look.there rfl); exact Look.here)) (.row rfl (by first | exact rfl | (simp; done) | (simp; omega))) | exact .v (by ((repeat apply Look.there rfl); exact Look.here)) (.f .nil) | exact .a (by ((repeat apply Look.there rfl); exact Look.here)) | skip) .nil)), (by rw [hren, if_pos (bad_of hk' (by rw [hbr, h4, h5]; rfl))]; rfl)⟩ -- LEAF 3: ret
            ·
              first | exact absurd h6 (by decide) | (exfalso; simp_all; done)
          ·
            refine mv ?_
            refine mv ?_
            first | refine xs_ ?_ | refine xo ?_ | refine xw ?_ | refine xsl ?_
            first | refine l1f ?_ | refine l1b ?_ | refine l1o ?_
            refine mv ?_
            refine bo (hz := by exact rfl) ?_
            refine pkF ?_
            refine pkT ?_
            refine rNil ?_
            refine cn (fun h7 => ?_) (fun h7 => ?_)
            ·
              refine sg ?_
              refine buS ?_
              refine sA ?_
              refine as_ ?_
              refine rNil ?_
              refine awp_ret ?_
              refine br ?_
              refine tr ?_
              refine tr ?_
              refine br ?_
              refine tr ?_
              exact ⟨.inr rfl, _, (.cons (resC (by ((repeat apply Look.there rfl); exact Look.here)) (by exact rfl) (by exact rfl) (by ((repeat (apply All2.cons; first | exact .f (.v _) | exact .row rfl (by first | exact rfl | simp) | exact .f .nil | exact .f (.fro rfl (by first | exact rfl | simp)))); exact All2.nil))) (.cons (by first | exact .v (by ((repeat apply Look.there rfl); exact Look.here)) (.f (.v _)) | exact .v (by ((repeat apply Look.there rfl); exact Look.here)) (.row rfl (by first | exact rfl | (simp; done) | (simp; omega))) | exact .v (by ((repeat apply Look.there rfl); exact Look.here)) (.f .nil) | exact .a (by ((repeat apply Look.there rfl); exact Look.here)) | skip) .nil)), (by rw [hren, if_pos (bad_of hk' (by rw [hbr, h4, h7]; simp))]; rfl)⟩ -- LEAF 4: ret
            ·
              refine awp_skip ?_
              refine bn_ ?_
              refine tn ?_
              refine rg ?_
              refine bo (hz := by first | exact bop_add (by omega) (by omega) | exact rfl) ?_
              refine mv ?_
              refine rNil ?_
              refine tn ?_
              exact ⟨ls.length - (k + 1), by omega, wx 2 ⟨k + 1, rfl, by omega, by rw [bad_succ, hbk, hbr, h5, h7]; simp, rfl⟩⟩ -- LEAF 5: round of loop 1
        ·
          refine no ?_
          refine no ?_
          refine no ?_
          refine no ?_
          refine no ?_
          refine no ?_
          refine noU ?_
          refine noU ?_
          refine noU ?_
          refine noU ?_
          refine noU ?_
          refine noU ?_
          refine no ?_
          refine pkF ?_
          refine rNil ?_
          refine cn (fun h8 => ?_) (fun h8 => ?_)
          ·
            first | exact absurd h8 (by decide) | (exfalso; simp_all; done)
          ·
            refine awp_skip ?_
            refine bn_ ?_
            refine tn ?_
            refine rg ?_
            refine bo (hz := by first | exact bop_add (by omega) (by omega) | exact rfl) ?_
            refine mv ?_
            refine rNil ?_
            refine tn ?_
            exact ⟨ls.length - (k + 1), by omega, wx 2 ⟨k + 1, rfl, by omega, by rw [bad_succ, hbk, hbr, h4]; simp, rfl⟩⟩ -- LEAF 6: round of loop 1
      ·
        have hk' : k = ls.length := by simp at h3; omega
        rw [hk'] at hbk
        rw [if_neg (by rw [hbk]; decide)] at hren
        refine awp_exit ?_
        refine te ?_
        refine te ?_
        refine xbk ?_
        refine tn ?_
        refine sq ?_
        refine sg ?_
        refine mv ?_
        refine bo (hz := by exact rfl) ?_
        refine mv ?_
        refine gd (fun h9 => ?_) (fun h9 => ?_)
        ·
          have hm0 : m < 0 := by simpa using h9
          refine no ?_
          refine no ?_
          refine pkT ?_
          refine rNil ?_
          refine cn (fun h10 => ?_) (fun h10 => ?_)
          ·
            refine sg ?_
            refine buS ?_
            refine sA ?_
            refine as_ ?_
            refine rNil ?_
            refine awp_ret ?_
            refine tr ?_
            exact ⟨.inr rfl, _, (.cons (resC (by ((repeat apply Look.there rfl); exact Look.here)) (by exact rfl) (by exact rfl) (by ((repeat (apply All2.cons; first | exact .f (.v _) | exact .row rfl (by first | exact rfl | simp) | exact .f .nil | exact .f (.fro rfl (by first | exact rfl | simp)))); exact All2.nil))) (.cons (by first | exact .v (by ((repeat apply Look.there rfl); exact Look.here)) (.f (.v _)) | exact .v (by ((repeat apply Look.there rfl); exact Look.here)) (.row rfl (by first | exact rfl | (simp; done) | (simp; omega))) | exact .v (by ((repeat apply Look.there rfl); exact Look.here)) (.f .nil) | exact .a (by ((repeat apply Look.there rfl); exact Look.here)) | skip) .nil)), (by rw [hren, if_pos (.inl hm0)]; rfl)⟩ -- LEAF 7: ret
          ·
            first | exact absurd h10 (by decide) | (exfalso; simp_all; done)
        ·
          have hm0 : ¬ m < 0 := by simpa using h9
          refine mv ?_
          refine bo (hz := by exact rfl) ?_
          refine pkF ?_
          refine rNil ?_
          refine cn (fun h11 => ?_) (fun h11 => ?_)
          ·
            have hm1 : m > 8192 := by simpa using h11
            refine sg ?_
            refine buS ?_
            refine sA ?_
            refine as_ ?_
            refine rNil ?_
            refine awp_ret ?_
            refine tr ?_
            exact ⟨.inr rfl, _, (.cons (resC (by ((repeat apply Look.there rfl); exact Look.here)) (by exact rfl) (by exact rfl) (by ((repeat (apply All2.cons; first | exact .f (.v _) | exact .row rfl (by first | exact rfl | simp) | exact .f .nil | exact .f (.fro rfl (by first | exact rfl | simp)))); exact All2.nil))) (.cons (by first | exact .v (by ((repeat apply Look.there rfl); exact Look.here)) (.f (.v _)) | exact .v (by ((repeat apply Look.there rfl); exact Look.here)) (.row rfl (by first | exact rfl | (simp; done) | (simp; omega))) | exact .v (by ((repeat apply Look.there rfl); exact Look.here)) (.f .nil) | exact .a (by ((repeat apply Look.there rfl); exact Look.here)) | skip) .nil)), (by rw [hren, if_pos (.inr hm1)]; rfl)⟩ -- LEAF 8: ret
          ·
            have hm1 : ¬ m > 8192 := by simpa using h11
            rw [if_neg (by omega)] at hren
            refine awp_skip ?_
            refine tn ?_
            refine sg ?_
            refine mv ?_
            first | refine ff ?_ | refine fb ?_ | refine fo ?_
            first | refine s1 ?_ | refine s1w ?_
            refine rNil ?_
            refine sg ?_
            first | refine ff ?_ | refine fb ?_ | refine fo ?_
            first | refine l1f ?_ | refine l1b ?_ | refine l1o ?_
            refine clZs 2 (c40 p.code hl) (scI p.code) ?_
            rw [show (p.code.map Enc.c).length = p.code.length from List.length_map _]
            first | refine ff ?_ | refine fb ?_ | refine fo ?_
            refine s1w (hq := by show some (p.code.map Enc.c).length = _; rw [List.length_map]) ?_
            refine rNil ?_
            refine sq ?_
            refine sg ?_
            first | refine ff ?_ | refine fb ?_ | refine fo ?_
            first | refine l1f ?_ | refine l1b ?_ | refine l1o ?_
            first | refine lnM ?_ | refine ln ?_ | refine lnO ?_ | refine lnN ?_ | refine lnW ?_ | refine lnS ?_
            refine mv ?_
            refine rNil ?_
            refine bk ?_
            refine lp (fun mm S => ∃ i : Nat, mm = p.code.length - i ∧ i ≤ p.code.length ∧ S = ⟨[(74, .r (I i)), (73, .r (I p.code.length)), (7, .r (I 0)), (6, .box 1 0), (3, .box 0 0), (1, .r (L nums))], [bxW p m, bxZ, .row 51 6 ((mid p.code nums i).map Enc.c)]⟩) p.code.length ?_ ?_
            · exact wy 3 ⟨0, rfl, Nat.zero_le _, rfl⟩ (by rw [mid_zero]; rfl)
            rintro mm S ⟨i, hmm, hi, rfl⟩
            have hml : p.code.length = ((mid p.code nums i).map Enc.c).length := by rw [List.length_map, mid_len]
            refine sg ?_
            refine bo (hz := by exact rfl) ?_
            refine rNil ?_
            refine sq ?_
            refine cn (fun h12 => ?_) (fun h12 => ?_)
            ·
              have hi' : i < p.code.length := by simpa using h12
              have hi2 : ((i : Int)).toNat < ((mid p.code nums i).map Enc.c).length := by omega
              obtain ⟨x, hx⟩ := ex_get hi'
              have hx' : p.code[i]? = some x := by simpa using hx
              have hxm : (mid p.code nums i)[((i : Int)).toNat]? = some x := by rw [Int.toNat_natCast]; exact mid_at hx'
              have hopn := vrun_mem hv x (List.mem_of_getElem? hx')
              refine awp_skip ?_
              refine tn ?_
              refine sq ?_
              refine bk ?_
              refine sg ?_
              refine mv ?_
              refine as_ ?_
              refine rNil ?_
              refine sg ?_
              first | refine ff ?_ | refine fb ?_ | refine fo ?_
              first | refine l1f ?_ | refine l1b ?_ | refine l1o ?_
              refine mv ?_
              first | refine xs_ ?_ | refine xo ?_ | refine xw ?_ | refine xsl ?_
              refine as_ ?_
              refine rNil ?_
              refine sg ?_
              refine mv ?_
              first | refine nc ?_ | refine ncF ?_ | refine ncO ?_
              first | refine ff ?_ | refine fb ?_ | refine fo ?_
              first | refine l1f ?_ | refine l1b ?_ | refine l1o ?_
              refine cl (c41 x.op) ?_
              refine mv ?_
              refine ex ?_
              refine ex ?_
              refine ex ?_
              refine ex ?_
              refine ex ?_
              refine as_ ?_
              refine as_ ?_
              refine as_ ?_
              refine as_ ?_
              refine as_ ?_
              refine rNil ?_
              refine sd mixO ?_
              refine mv ?_
              first | refine nc ?_ | refine ncF ?_ | refine ncO ?_
              first | refine ff ?_ | refine fb ?_ | refine fo ?_
              refine mv ?_
              refine buP ?_
              refine mv ?_
              first | refine nc ?_ | refine ncF ?_ | refine ncO ?_
              first | refine ff ?_ | refine fb ?_ | refine fo ?_
              refine mv ?_
              refine buP ?_
              refine mv ?_
              first | refine nc ?_ | refine ncF ?_ | refine ncO ?_
              first | refine ff ?_ | refine fb ?_ | refine fo ?_
              refine mv ?_
              refine buP ?_
              refine mv ?_
              first | refine nc ?_ | refine ncF ?_ | refine ncO ?_
              first | refine ff ?_ | refine fb ?_ | refine fo ?_
              refine mv ?_
              refine buP ?_
              refine bsP 3 ?_
              first | refine lnM ?_ | refine ln ?_ | refine lnO ?_ | refine lnN ?_ | refine lnW ?_ | refine lnS ?_
              refine mv ?_
              refine rNil ⟨rfl, ?_⟩
              refine bk ?_
              refine lp (fun mm S => ∃ k : Nat, mm = 4 - k ∧ k ≤ 4 ∧ S = ⟨[(114, .r (I k)), (113, .r (I 4)), (112, .bsl 3 0 4), (74, .r (I i)), (73, .r (I p.code.length)), (7, .r (I 0)), (6, .box 1 0), (3, .box 0 0), (1, .r (L nums))], [bxW p m, bxZ, .row 51 6 (((mid p.code nums i).set i (rplK nums x k)).map Enc.c), .box 71 (opbs p.code.length (((i : Int)).toNat * 6) x.op)]⟩) 4 ?_ ?_
              · exact wy 4 ⟨0, rfl, Nat.zero_le _, rfl⟩ (by rw [rplK_zero, set_own (mid_at hx')]; rfl)
              rintro m3 S ⟨k, hm3, hk, rfl⟩
              have hml2 : p.code.length = (((mid p.code nums i).set i (rplK nums x k)).map Enc.c).length := by rw [List.length_map, List.length_set, mid_len]
              have hxk : ((mid p.code nums i).set i (rplK nums x k))[((i : Int)).toNat]? = some (rplK nums x k) := by rw [Int.toNat_natCast]; exact List.getElem?_set_self (by rw [mid_len]; exact hi')
              refine sg ?_
              refine bo (hz := by exact rfl) ?_
              refine rNil ?_
              refine sq ?_
              refine cn (fun h13 => ?_) (fun h13 => ?_)
              ·
                have hk4 : k < 4 := by
                  have h13' : (k : Int) < 4 := by simpa using h13
                  omega
                obtain ⟨hp0, hp1⟩ := opbs_at p.code.length (((i : Int)).toNat * 6) x.op hk4
                refine awp_skip ?_
                refine tn ?_
                refine sq ?_
                refine bk ?_
                refine sg ?_
                first | refine xs_ ?_ | refine xo ?_ | refine xw ?_ | refine xsl ?_
                refine lPb 3 ?_ hp0 hp1 (by decide) (e := 51) (sz := 6) (xs := ([] : List (List FV)))
                refine alU 4 ?_
                refine sPb ?_
                refine rNil ?_
                refine sg ?_
                first | refine ff ?_ | refine fb ?_ | refine fo ?_
                first | refine l1f ?_ | refine l1b ?_ | refine l1o ?_
                refine rNil ?_
                refine cn (fun h14 => ?_) (fun h14 => ?_)
                ·
                  have hfl : flg x.op k = true := by simpa using h14
                  obtain ⟨hf0, hf1⟩ := fld_ok hopn hk4 hfl
                  obtain ⟨z, hz⟩ : ∃ z, nums[(fld x k).toNat]? = some z := ⟨nums[(fld x k).toNat]'(by omega), List.getElem?_eq_getElem _⟩
                  have hzg : nums.getD (fld x k).toNat 0 = z := getD_of hz
                  have hst := rplK_yes nums x hk4 hfl
                  rw [hzg] at hst
                  refine rd mixO ?_
                  first | refine ff ?_ | refine fb ?_ | refine fo ?_
                  first | refine l1f ?_ | refine l1b ?_ | refine l1o ?_
                  refine mv ?_
                  first | refine ff ?_ | refine fb ?_ | refine fo ?_
                  first | refine l1f ?_ | refine l1b ?_ | refine l1o ?_
                  refine ncO ?_
                  refine l1o (i := ((i : Int)).toNat) (j := 1 + k) (cs := Enc.c (rplK nums x k)) (c := .i .i64 (fld x k)) (hc := fld_at nums x hk4) ?_
                  first | refine xs_ ?_ | refine xo ?_ | refine xw ?_ | refine xsl ?_
                  first | refine l1f ?_ | refine l1b ?_ | refine l1o ?_
                  refine ncO ?_
                  refine so ((i : Int)).toNat (1 + k) (cs := Enc.c (rplK nums x k)) (hj := by show 1 + k < 6; omega) ?_
                  refine rNil ⟨rfl, ?_⟩
                  refine bn_ ?_
                  refine tn ?_
                  refine rg ?_
                  refine bo (hz := by first | exact bop_add (by omega) (by omega) | exact rfl) ?_
                  refine mv ?_
                  refine rNil ?_
                  refine tn ?_
                  exact ⟨4 - (k + 1), by omega, wy 4 ⟨k + 1, rfl, by omega, rfl⟩ (by
                    show [bxW p m, bxZ, .row 51 6 _, _] = [bxW p m, bxZ, .row 51 6 _, _]
                    rw [row_step hst])⟩ -- LEAF 9: round of loop 3
                ·
                  have hfl : flg x.op k = false := by simpa using h14
                  refine awp_skip ?_
                  refine bn_ ?_
                  refine tn ?_
                  refine rg ?_
                  refine bo (hz := by first | exact bop_add (by omega) (by omega) | exact rfl) ?_
                  refine mv ?_
                  refine rNil ?_
                  refine tn ?_
                  exact ⟨4 - (k + 1), by omega, wx 4 ⟨k + 1, rfl, by omega, by rw [rplK_no nums x hk4 hfl]; rfl⟩⟩ -- LEAF 10: round of loop 3
              ·
                have hk4 : k = 4 := by simp at h13; omega
                subst hk4
                refine awp_exit ?_
                refine te ?_
                refine te ?_
                refine xbk ?_
                refine bn_ ?_
                refine tn ?_
                refine rg ?_
                refine bo (hz := by first | exact bop_add (by omega) (by omega) | exact rfl) ?_
                refine mv ?_
                refine rNil ?_
                refine tn ?_
                exact ⟨p.code.length - (i + 1), by omega, wx 3 ⟨i + 1, rfl, by omega, by rw [mid_succ hx', ← rplK_four]; rfl⟩⟩ -- LEAF 11: round of loop 2
            ·
              have hi' : i = p.code.length := by simp at h12; omega
              rw [hi', mid_all]
              refine awp_exit ?_
              refine te ?_
              refine te ?_
              refine xbk ?_
              refine tn ?_
              refine fz 2 ?_
              refine sg ?_
              refine lAbF 0 [2] ?_
              refine sA ?_
              refine as_ ?_
              refine rNil ?_
              refine awp_ret ?_
              exact ⟨.inr rfl, _, (.cons (resC (by ((repeat apply Look.there rfl); exact Look.here)) (by exact rfl) (by exact rfl) (by ((repeat (apply All2.cons; first | exact .f (.v _) | exact .row rfl (by first | exact rfl | simp) | exact .f .nil | exact .f (.fro rfl (by first | exact rfl | simp)))); exact All2.nil))) (.cons (by first | exact .v (by ((repeat apply Look.there rfl); exact Look.here)) (.f (.v _)) | exact .v (by ((repeat apply Look.there rfl); exact Look.here)) (.row rfl (by first | exact rfl | (simp; done) | (simp; omega))) | exact .v (by ((repeat apply Look.there rfl); exact Look.here)) (.f .nil) | exact .a (by ((repeat apply Look.there rfl); exact Look.here)) | skip) .nil)), (by rw [hren]; rfl)⟩ -- LEAF 12: ret

abbrev bx5 (a b c d e f : Int) : Ent := .box 51 [.r (I a), .r (I b), .r (I c), .r (I d), .r (I e), .r (I f)]
theorem at_yes {nums : List Int} {b : Bool} {r z : Int} (h : b = true) (hz : nums[r.toNat]? = some z) : at_ nums b r = z := by rw [at_, if_pos h]; exact getD_of hz
theorem at_no {nums : List Int} {b : Bool} {r : Int} (h : b = false) : at_ nums b r = r := by rw [at_, h]; rfl
theorem nth_ok {nums : List Int} {r : Int} (h0 : 0 ≤ r) (h1 : r < nums.length) : ∃ z, nums[r.toNat]? = some z := ⟨nums[r.toNat]'(by omega), List.getElem?_eq_getElem _⟩
/-- frustum/frustumref25.replaced -/
theorem c42 (x : Ins) (nums : List Int) (h : ∀ k : Nat, k < 4 → flg x.op k = true → 0 ≤ fld x k ∧ fld x k < nums.length) : Fn Try.prog 42 [A x, L nums] (.one (A (rpl nums x))) := by
  refine fnI Try.func42 Try.ntmps42 fun hb => ?_
  refine sg ?_
  refine bx _ ?_
  refine al _ ?_
  refine rNil ?_
  refine sg ?_
  first | refine ff ?_ | refine fb ?_ | refine fo ?_
  first | refine l1f ?_ | refine l1b ?_ | refine l1o ?_
  refine cl (c49 x.op) ?_
  refine mv ?_
  refine ex ?_
  refine ex ?_
  refine ex ?_
  refine ex ?_
  refine ex ?_
  refine as_ ?_
  refine as_ ?_
  refine as_ ?_
  refine as_ ?_
  refine as_ ?_
  refine rNil ?_
  refine jn (fun S => S = ⟨[(9, .r (B (mF x.op))), (8, .r (B (cF x.op))), (7, .r (B (bF x.op))), (6, .r (B (aF x.op))), (4, .box 1 0), (2, .box 0 0), (1, .r (L nums))], [bx5 x.op (at_ nums (dF x.op) x.dst) x.a x.b x.c x.imm, bx5 0 0 0 0 0 0]⟩) ?_ ?_
  ·
    refine sg ?_
    refine mv ?_
    refine rNil ?_
    refine cn (fun h1 => ?_) (fun h1 => ?_)
    ·
      have hf : dF x.op = true := by simpa using h1
      obtain ⟨g0, g1⟩ : 0 ≤ x.dst ∧ x.dst < nums.length := h 0 (by decide) hf
      obtain ⟨z, hz⟩ := nth_ok g0 g1
      have hat := at_yes hf hz
      refine rg ?_
      refine mv ?_
      first | refine ff ?_ | refine fb ?_ | refine fo ?_
      first | refine l1f ?_ | refine l1b ?_ | refine l1o ?_
      first | refine xs_ ?_ | refine xo ?_ | refine xw ?_ | refine xsl ?_
      first | refine l1f ?_ | refine l1b ?_ | refine l1o ?_
      first | refine ff ?_ | refine fb ?_ | refine fo ?_
      first | refine s1 ?_ | refine s1w ?_
      refine rNil ?_
      refine tn ?_
      exact wx 2 (by rw [hat]; rfl) -- LEAF 1: join
    ·
      have hat := at_no (nums := nums) (r := x.dst) (by simpa using h1 : dF x.op = false)
      refine awp_skip ?_
      refine tn ?_
      exact wx 2 (by rw [hat]; rfl) -- LEAF 2: join
  ·
    rintro S rfl
    refine jn (fun S => S = ⟨[(9, .r (B (mF x.op))), (8, .r (B (cF x.op))), (7, .r (B (bF x.op))), (4, .box 1 0), (2, .box 0 0), (1, .r (L nums))], [bx5 x.op (at_ nums (dF x.op) x.dst) (at_ nums (aF x.op) x.a) x.b x.c x.imm, bx5 0 0 0 0 0 0]⟩) ?_ ?_
    ·
      refine sg ?_
      refine mv ?_
      refine rNil ?_
      refine cn (fun h2 => ?_) (fun h2 => ?_)
      ·
        have hf : aF x.op = true := by simpa using h2
        obtain ⟨g0, g1⟩ : 0 ≤ x.a ∧ x.a < nums.length := h 1 (by decide) hf
        obtain ⟨z, hz⟩ := nth_ok g0 g1
        have hat := at_yes hf hz
        refine rg ?_
        refine mv ?_
        first | refine ff ?_ | refine fb ?_ | refine fo ?_
        first | refine l1f ?_ | refine l1b ?_ | refine l1o ?_
        first | refine xs_ ?_ | refine xo ?_ | refine xw ?_ | refine xsl ?_
        first | refine l1f ?_ | refine l1b ?_ | refine l1o ?_
        first | refine ff ?_ | refine fb ?_ | refine fo ?_
        first | refine s1 ?_ | refine s1w ?_
        refine rNil ?_
        refine tn ?_
        exact wx 2 (by rw [hat]; rfl) -- LEAF 3: join
      ·
        have hat := at_no (nums := nums) (r := x.a) (by simpa using h2 : aF x.op = false)
        refine awp_skip ?_
        refine tn ?_
        exact wx 2 (by rw [hat]; rfl) -- LEAF 4: join
    ·
      rintro S rfl
      refine jn (fun S => S = ⟨[(9, .r (B (mF x.op))), (8, .r (B (cF x.op))), (4, .box 1 0), (2, .box 0 0), (1, .r (L nums))], [bx5 x.op (at_ nums (dF x.op) x.dst) (at_ nums (aF x.op) x.a) (at_ nums (bF x.op) x.b) x.c x.imm, bx5 0 0 0 0 0 0]⟩) ?_ ?_
      ·
        refine sg ?_
        refine mv ?_
        refine rNil ?_
        refine cn (fun h3 => ?_) (fun h3 => ?_)
        ·
          have hf : bF x.op = true := by simpa using h3
          obtain ⟨g0, g1⟩ : 0 ≤ x.b ∧ x.b < nums.length := h 2 (by decide) hf
          obtain ⟨z, hz⟩ := nth_ok g0 g1
          have hat := at_yes hf hz
          refine rg ?_
          refine mv ?_
          first | refine ff ?_ | refine fb ?_ | refine fo ?_
          first | refine l1f ?_ | refine l1b ?_ | refine l1o ?_
          first | refine xs_ ?_ | refine xo ?_ | refine xw ?_ | refine xsl ?_
          first | refine l1f ?_ | refine l1b ?_ | refine l1o ?_
          first | refine ff ?_ | refine fb ?_ | refine fo ?_
          first | refine s1 ?_ | refine s1w ?_
          refine rNil ?_
          refine tn ?_
          exact wx 2 (by rw [hat]; rfl) -- LEAF 5: join
        ·
          have hat := at_no (nums := nums) (r := x.b) (by simpa using h3 : bF x.op = false)
          refine awp_skip ?_
          refine tn ?_
          exact wx 2 (by rw [hat]; rfl) -- LEAF 6: join
      ·
        rintro S rfl
        refine jn (fun S => S = ⟨[(4, .box 1 0), (2, .box 0 0), (1, .r (L nums))], [bx5 x.op (at_ nums (dF x.op) x.dst) (at_ nums (aF x.op) x.a) (at_ nums (bF x.op) x.b) (at_ nums (cF x.op) x.c) x.imm, bx5 0 0 0 0 0 0]⟩) ?_ ?_
        ·
          refine sg ?_
          refine mv ?_
          refine rNil ?_
          refine cn (fun h4 => ?_) (fun h4 => ?_)
          ·
            have hf : cF x.op = true := by simpa using h4
            obtain ⟨g0, g1⟩ : 0 ≤ x.c ∧ x.c < nums.length := h 3 (by decide) hf
            obtain ⟨z, hz⟩ := nth_ok g0 g1
            have hat := at_yes hf hz
            refine rg ?_
            refine mv ?_
            first | refine ff ?_ | refine fb ?_ | refine fo ?_
            first | refine l1f ?_ | refine l1b ?_ | refine l1o ?_
            first | refine xs_ ?_ | refine xo ?_ | refine xw ?_ | refine xsl ?_
            first | refine l1f ?_ | refine l1b ?_ | refine l1o ?_
            first | refine ff ?_ | refine fb ?_ | refine fo ?_
            first | refine s1 ?_ | refine s1w ?_
            refine rNil ?_
            refine tn ?_
            exact wx 2 (by rw [hat]; rfl) -- LEAF 7: join
          ·
            have hat := at_no (nums := nums) (r := x.c) (by simpa using h4 : cF x.op = false)
            refine awp_skip ?_
            refine tn ?_
            exact wx 2 (by rw [hat]; rfl) -- LEAF 8: join
        ·
          rintro S rfl
          refine sg ?_
          first | refine lAf ?_ | refine lAb ?_ | refine lAo ?_
          refine sA ?_
          refine rNil ?_
          refine awp_ret ?_
          exact ⟨.inr rfl, _, (.cons (resC (by ((repeat apply Look.there rfl); exact Look.here)) (by exact rfl) (by exact rfl) (by ((repeat (apply All2.cons; first | exact .f (.v _) | exact .row rfl (by first | exact rfl | simp) | exact .f .nil | exact .f (.fro rfl (by first | exact rfl | simp)))); exact All2.nil))) .nil), rfl⟩ -- LEAF 9: ret

abbrev bxV (p : Prg) (m : Int) (n : Nat) : Ent := .box 25 [.r (I p.st), .r (I m), .r (I p.ip), .r (I p.ou), .r (I p.un), .r (I p.tx), .r (I p.bf), .own 3 n]
/-- frustum/frustumref25.Renumber -/
theorem c21 (p : Prg) (nums : List Int) (m : Int) : Fn Try.prog 21 [A p, L nums, I m] (.many [A (renF p nums m).1, I (renF p nums m).2]) := by
  refine fnI Try.func21 Try.ntmps21 fun hb => ?_
  refine sg ?_
  refine bx _ ?_
  refine al _ ?_
  refine as_ ?_
  refine rNil ?_
  refine sq ?_
  refine sg ?_
  first | refine lAf ?_ | refine lAb ?_ | refine lAo ?_
  refine cl (c27 p) ?_
  refine bo (hz := by exact rfl) ?_
  refine rNil ?_
  refine cn (fun h1 => ?_) (fun h1 => ?_)
  ·
    have g1 : validF p ≠ 0 := by simpa using h1
    refine sg ?_
    refine buS ?_
    refine sA ?_
    refine as_ ?_
    refine rNil ?_
    refine awp_ret ?_
    refine tr ?_
    exact ⟨.inr rfl, _, (.cons (resC (by ((repeat apply Look.there rfl); exact Look.here)) (by exact rfl) (by exact rfl) (by ((repeat (apply All2.cons; first | exact .f (.v _) | exact .row rfl (by first | exact rfl | simp) | exact .f .nil | exact .f (.fro rfl (by first | exact rfl | simp)))); exact All2.nil))) (.cons (by first | exact .v (by ((repeat apply Look.there rfl); exact Look.here)) (.f (.v _)) | exact .v (by ((repeat apply Look.there rfl); exact Look.here)) (.row rfl (by first | exact rfl | (simp; done) | (simp; omega))) | exact .v (by ((repeat apply Look.there rfl); exact Look.here)) (.f .nil) | exact .a (by ((repeat apply Look.there rfl); exact Look.here)) | skip) .nil)), (by rw [renF, if_pos g1]; rfl)⟩ -- LEAF 1: ret
  ·
    have g1 : validF p = 0 := by simpa using h1
    obtain ⟨hs, hl, hv, _⟩ := valid_of g1
    obtain ⟨_, hok1, hok2⟩ := ivs_ok g1
    have hiv : ivF p = ivs p := by rw [ivF, if_pos g1]
    have hil : (ivF p).length = p.rg.toNat := by rw [hiv]; simp [ivs]
    obtain ⟨_, _, _, _, _, _, _, _, _, _, hr0, hr1⟩ := hs
    refine awp_skip ?_
    refine tn ?_
    refine sq ?_
    refine sg ?_
    refine mv ?_
    first | refine lnM ?_ | refine ln ?_ | refine lnO ?_ | refine lnN ?_ | refine lnW ?_ | refine lnS ?_
    first | refine ff ?_ | refine fb ?_ | refine fo ?_
    first | refine l1f ?_ | refine l1b ?_ | refine l1o ?_
    refine bo (hz := by exact rfl) ?_
    refine rNil ?_
    refine cn (fun h2 => ?_) (fun h2 => ?_)
    ·
      have g2 : (nums.length : Int) ≠ p.rg := by simpa using h2
      refine sg ?_
      refine buS ?_
      refine sA ?_
      refine as_ ?_
      refine rNil ?_
      refine awp_ret ?_
      refine tr ?_
      exact ⟨.inr rfl, _, (.cons (resC (by ((repeat apply Look.there rfl); exact Look.here)) (by exact rfl) (by exact rfl) (by ((repeat (apply All2.cons; first | exact .f (.v _) | exact .row rfl (by first | exact rfl | simp) | exact .f .nil | exact .f (.fro rfl (by first | exact rfl | simp)))); exact All2.nil))) (.cons (by first | exact .v (by ((repeat apply Look.there rfl); exact Look.here)) (.f (.v _)) | exact .v (by ((repeat apply Look.there rfl); exact Look.here)) (.row rfl (by first | exact rfl | (simp; done) | (simp; omega))) | exact .v (by ((repeat apply Look.there rfl); exact Look.here)) (.f .nil) | exact .a (by ((repeat apply Look.there rfl); exact Look.here)) | skip) .nil)), (by rw [renF, if_neg (by simpa using g1), if_pos g2]; rfl)⟩ -- LEAF 2: ret
    ·
      have g2 : (nums.length : Int) = p.rg := by simpa using h2
      have hren : renF p nums m = if badN (ivF p) nums m (ivF p).length = true then (zP, 2) else if m < 0 ∨ m > 8192 then (zP, 6) else ({ p with rg := m, code := p.code.map (rpl nums) }, 0) := by rw [renF, if_neg (by simpa using g1), if_neg (by simpa using g2)]
      rw [← hiv] at hok2
      refine awp_skip ?_
      refine tn ?_
      refine sg ?_
      first | refine lAf ?_ | refine lAb ?_ | refine lAo ?_
      refine cl (c12 p) ?_
      refine as_ ?_
      refine rNil ?_
      refine sq ?_
      refine sg ?_
      refine as_ ?_
      refine rNil ?_
      refine bk ?_
      generalize hls : ivF p = ls at *
      have hll : ls.length = nums.length := by omega
      refine lp (fun mm S => ∃ k : Nat, mm = ls.length - k ∧ k ≤ ls.length ∧ badN ls nums m k = false ∧ S = ⟨[(9, .r (I k)), (8, .r (L ls)), (7, .r (I 0)), (6, .box 1 0), (3, .box 0 0), (1, .r (L nums)), (2, .r (I m))], [bxP p, bxZ]⟩) ls.length ?_ ?_
      · exact wx 2 ⟨0, rfl, Nat.zero_le _, rfl, rfl⟩
      rintro mm S ⟨k, hmm, hk, hbk, rfl⟩
      refine sq ?_
      refine sg ?_
      refine mv ?_
      refine mv ?_
      first | refine lnM ?_ | refine ln ?_ | refine lnO ?_ | refine lnN ?_ | refine lnW ?_ | refine lnS ?_
      refine bo (hz := by exact rfl) ?_
      refine rNil ?_
      refine cn (fun h3 => ?_) (fun h3 => ?_)
      ·
        have hk' : k < ls.length := by simpa using h3
        obtain ⟨q, hq⟩ := ex_get hk'
        obtain ⟨z, hz⟩ := ex_get (a := nums) (k := k) (by omega)
        have hq' : ls[k]? = some q := by simpa using hq
        have hz' : nums[k]? = some z := by simpa using hz
        have hqy : q.y = -2 ∨ 0 ≤ q.y := by
          rcases (hok2 q (List.mem_of_getElem? hq')).2.2 with h | h
          · exact .inl h
          · exact .inr h.1
        have hbr : badR ls nums m k = (decide (q.y ≥ -1) && (decide (z < 0) || decide (z ≥ m))) := by
          unfold badR
          rw [getD_at hq', getD_of hz']
          congr 1
          rcases hqy with h | h
          · rw [h]; rfl
          · rw [show decide (q.y ≥ -1) = true from decide_eq_true (by omega)]
            exact bne_iff_ne.2 (by omega)
        refine awp_skip ?_
        refine tn ?_
        refine sq ?_
        refine bk ?_
        refine sg ?_
        refine mv ?_
        refine mv ?_
        first | refine xs_ ?_ | refine xo ?_ | refine xw ?_ | refine xsl ?_
        first | refine xf ?_ | refine xb ?_ | refine xoa ?_
        first | refine l1f ?_ | refine l1b ?_ | refine l1o ?_
        refine bo (hz := by exact rfl) ?_
        refine mv ?_
        refine gd (fun h4 => ?_) (fun h4 => ?_)
        ·
          refine mv ?_
          refine mv ?_
          first | refine xs_ ?_ | refine xo ?_ | refine xw ?_ | refine xsl ?_
          first | refine l1f ?_ | refine l1b ?_ | refine l1o ?_
          refine bo (hz := by exact rfl) ?_
          refine mv ?_
          refine gd (fun h5 => ?_) (fun h5 => ?_)
          ·
            refine no ?_
            refine no ?_
            refine no ?_
            refine no ?_
            refine no ?_
            refine no ?_
            refine pkT ?_
            refine pkT ?_
            refine rNil ?_
            refine cn (fun h6 => ?_) (fun h6 => ?_)
            ·
              refine sg ?_
              refine buS ?_
              refine sA ?_
              refine as_ ?_
              refine rNil ?_
              refine awp_ret ?_
              refine br ?_
              refine tr ?_
              refine tr ?_
              refine br ?_
              refine tr ?_
              exact ⟨.inr rfl, _, (.cons (resC (by ((repeat apply Look.there rfl); exact Look.here)) (by exact rfl) (by exact rfl) (by ((repeat (apply All2.cons; first | exact .f (.v _) | exact .row rfl (by first | exact rfl | simp) | exact .f .nil | exact .f (.fro rfl (by first | exact rfl | simp)))); exact All2.nil))) (.cons (by first | exact .v (by ((repeat apply Look.there rfl); exact Look.here)) (.f (.v _)) | exact .v (by ((repeat apply Look.there rfl); exact Look.here)) (.row rfl (by first | exact rfl | (simp; done) | (simp; omega))) | exact .v (by ((repeat apply Look.there rfl); exact Look.here)) (.f .nil) | exact .a (by ((repeat apply Look.there rfl); exact Look.here)) | skip) .nil)), (by rw [hren, if_pos (bad_of hk' (by rw [hbr, h4, h5]; rfl))]; rfl)⟩ -- LEAF 3: ret
            ·
              first | exact absurd h6 (by decide) | (exfalso; simp_all; done)
          ·
            refine mv ?_
            refine mv ?_
            first | refine xs_ ?_ | refine xo ?_ | refine xw ?_ | refine xsl ?_
            first | refine l1f ?_ | refine l1b ?_ | refine l1o ?_
            refine mv ?_
            refine bo (hz := by exact rfl) ?_
            refine pkF ?_
            refine pkT ?_
            refine rNil ?_
            refine cn (fun h7 => ?_) (fun h7 => ?_)
            ·
              refine sg ?_
              refine buS ?_
              refine sA ?_
              refine as_ ?_
              refine rNil ?_
              refine awp_ret ?_
              refine br ?_
              refine tr ?_
              refine tr ?_
              refine br ?_
              refine tr ?_
              exact ⟨.inr rfl, _, (.cons (resC (by ((repeat apply Look.there rfl); exact Look.here)) (by exact rfl) (by exact rfl) (by ((repeat (apply All2.cons; first | exact .f (.v _) | exact .row rfl (by first | exact rfl | simp) | exact .f .nil | exact .f (.fro rfl (by first | exact rfl | simp)))); exact All2.nil))) (.cons (by first | exact .v (by ((repeat apply Look.there rfl); exact Look.here)) (.f (.v _)) | exact .v (by ((repeat apply Look.there rfl); exact Look.here)) (.row rfl (by first | exact rfl | (simp; done) | (simp; omega))) | exact .v (by ((repeat apply Look.there rfl); exact Look.here)) (.f .nil) | exact .a (by ((repeat apply Look.there rfl); exact Look.here)) | skip) .nil)), (by rw [hren, if_pos (bad_of hk' (by rw [hbr, h4, h7]; simp))]; rfl)⟩ -- LEAF 4: ret
            ·
              refine awp_skip ?_
              refine bn_ ?_
              refine tn ?_
              refine rg ?_
              refine mv ?_
              refine bo (hz := by first | exact bop_add (by omega) (by omega) | exact rfl) ?_
              refine as_ ?_
              refine rNil ?_
              refine tn ?_
              exact ⟨ls.length - (k + 1), by omega, wx 2 ⟨k + 1, rfl, by omega, by rw [bad_succ, hbk, hbr, h5, h7]; simp, rfl⟩⟩ -- LEAF 5: round of loop 1
        ·
          refine no ?_
          refine no ?_
          refine no ?_
          refine no ?_
          refine no ?_
          refine no ?_
          refine noU ?_
          refine noU ?_
          refine noU ?_
          refine noU ?_
          refine noU ?_
          refine noU ?_
          refine no ?_
          refine pkF ?_
          refine rNil ?_
          refine cn (fun h8 => ?_) (fun h8 => ?_)
          ·
            first | exact absurd h8 (by decide) | (exfalso; simp_all; done)
          ·
            refine awp_skip ?_
            refine bn_ ?_
            refine tn ?_
            refine rg ?_
            refine mv ?_
            refine bo (hz := by first | exact bop_add (by omega) (by omega) | exact rfl) ?_
            refine as_ ?_
            refine rNil ?_
            refine tn ?_
            exact ⟨ls.length - (k + 1), by omega, wx 2 ⟨k + 1, rfl, by omega, by rw [bad_succ, hbk, hbr, h4]; simp, rfl⟩⟩ -- LEAF 6: round of loop 1
      ·
        have hk' : k = ls.length := by simp at h3; omega
        rw [hk'] at hbk
        rw [if_neg (by rw [hbk]; decide)] at hren
        refine awp_exit ?_
        refine te ?_
        refine te ?_
        refine xbk ?_
        refine tn ?_
        refine sq ?_
        refine sg ?_
        refine mv ?_
        refine bo (hz := by exact rfl) ?_
        refine mv ?_
        refine gd (fun h9 => ?_) (fun h9 => ?_)
        ·
          have hm0 : m < 0 := by simpa using h9
          refine no ?_
          refine no ?_
          refine pkT ?_
          refine rNil ?_
          refine cn (fun h10 => ?_) (fun h10 => ?_)
          ·
            refine sg ?_
            refine buS ?_
            refine sA ?_
            refine as_ ?_
            refine rNil ?_
            refine awp_ret ?_
            refine tr ?_
            exact ⟨.inr rfl, _, (.cons (resC (by ((repeat apply Look.there rfl); exact Look.here)) (by exact rfl) (by exact rfl) (by ((repeat (apply All2.cons; first | exact .f (.v _) | exact .row rfl (by first | exact rfl | simp) | exact .f .nil | exact .f (.fro rfl (by first | exact rfl | simp)))); exact All2.nil))) (.cons (by first | exact .v (by ((repeat apply Look.there rfl); exact Look.here)) (.f (.v _)) | exact .v (by ((repeat apply Look.there rfl); exact Look.here)) (.row rfl (by first | exact rfl | (simp; done) | (simp; omega))) | exact .v (by ((repeat apply Look.there rfl); exact Look.here)) (.f .nil) | exact .a (by ((repeat apply Look.there rfl); exact Look.here)) | skip) .nil)), (by rw [hren, if_pos (.inl hm0)]; rfl)⟩ -- LEAF 7: ret
          ·
            first | exact absurd h10 (by decide) | (exfalso; simp_all; done)
        ·
          have hm0 : ¬ m < 0 := by simpa using h9
          refine mv ?_
          refine bo (hz := by exact rfl) ?_
          refine pkF ?_
          refine rNil ?_
          refine cn (fun h11 => ?_) (fun h11 => ?_)
          ·
            have hm1 : m > 8192 := by simpa using h11
            refine sg ?_
            refine buS ?_
            refine sA ?_
            refine as_ ?_
            refine rNil ?_
            refine awp_ret ?_
            refine tr ?_
            exact ⟨.inr rfl, _, (.cons (resC (by ((repeat apply Look.there rfl); exact Look.here)) (by exact rfl) (by exact rfl) (by ((repeat (apply All2.cons; first | exact .f (.v _) | exact .row rfl (by first | exact rfl | simp) | exact .f .nil | exact .f (.fro rfl (by first | exact rfl | simp)))); exact All2.nil))) (.cons (by first | exact .v (by ((repeat apply Look.there rfl); exact Look.here)) (.f (.v _)) | exact .v (by ((repeat apply Look.there rfl); exact Look.here)) (.row rfl (by first | exact rfl | (simp; done) | (simp; omega))) | exact .v (by ((repeat apply Look.there rfl); exact Look.here)) (.f .nil) | exact .a (by ((repeat apply Look.there rfl); exact Look.here)) | skip) .nil)), (by rw [hren, if_pos (.inr hm1)]; rfl)⟩ -- LEAF 8: ret
          ·
            have hm1 : ¬ m > 8192 := by simpa using h11
            rw [if_neg (by omega)] at hren
            refine awp_skip ?_
            refine tn ?_
            refine sg ?_
            first | refine lAf ?_ | refine lAb ?_ | refine lAo ?_
            refine al _ ?_
            refine sA ?_
            refine rNil ?_
            refine sg ?_
            refine mv ?_
            first | refine ff ?_ | refine fb ?_ | refine fo ?_
            first | refine s1 ?_ | refine s1w ?_
            refine rNil ?_
            refine sg ?_
            first | refine ff ?_ | refine fb ?_ | refine fo ?_
            first | refine s1 ?_ | refine s1w ?_
            refine rNil ?_
            refine sq ?_
            refine sg ?_
            refine as_ ?_
            refine rNil ?_
            refine bk ?_
            refine adB 3 2 51 6 7 25 ?_
            refine lp (fun mm S => ∃ i : Nat, mm = p.code.length - i ∧ i ≤ p.code.length ∧ S = ⟨[(11, .r (I i)), (10, .box 2 0), (7, .r (I 0)), (6, .box 1 0), (3, .box 0 0), (1, .r (L nums))], [bxP p, bxZ, bxV p m i, .row 51 6 (((p.code.take i).map (rpl nums)).map Enc.c)]⟩) p.code.length ?_ ?_
            · exact wy 4 ⟨0, rfl, Nat.zero_le _, rfl⟩ rfl
            rintro mm S ⟨i, hmm, hi, rfl⟩
            have hml : i = (((p.code.take i).map (rpl nums)).map Enc.c).length := by rw [List.length_map, List.length_map, List.length_take]; omega
            refine sq ?_
            refine sg ?_
            refine mv ?_
            first | refine ff ?_ | refine fb ?_ | refine fo ?_
            first | refine l1f ?_ | refine l1b ?_ | refine l1o ?_
            first | refine lnM ?_ | refine ln ?_ | refine lnO ?_ | refine lnN ?_ | refine lnW ?_ | refine lnS ?_
            refine bo (hz := by exact rfl) ?_
            refine rNil ?_
            refine cn (fun h12 => ?_) (fun h12 => ?_)
            ·
              have hi' : i < p.code.length := by simpa using h12
              obtain ⟨x, hx⟩ := ex_get hi'
              have hx' : p.code[i]? = some x := by simpa using hx
              have hopn := vrun_mem hv x (List.mem_of_getElem? hx')
              refine awp_skip ?_
              refine tn ?_
              refine sq ?_
              refine bk ?_
              refine rd mixO ?_
              first | refine ff ?_ | refine fb ?_ | refine fo ?_
              first | refine l1f ?_ | refine l1b ?_ | refine l1o ?_
              first | refine ff ?_ | refine fb ?_ | refine fo ?_
              first | refine l1f ?_ | refine l1b ?_ | refine l1o ?_
              refine mv ?_
              first | refine xs_ ?_ | refine xo ?_ | refine xw ?_ | refine xsl ?_
              first | refine lAf ?_ | refine lAb ?_ | refine lAo ?_
              refine mv ?_
              refine cl (c42 x nums (fun k hk hf => by have := fld_ok hopn hk hf; omega)) ?_
              refine bs ?_
              first | refine ap ?_ | refine (apN _) ?_
              first | refine ff ?_ | refine fb ?_ | refine fo ?_
              first | refine s1 ?_ | refine s1w ?_
              refine rNil ⟨rfl, ?_⟩
              refine bn_ ?_
              refine tn ?_
              refine rg ?_
              refine mv ?_
              refine bo (hz := by first | exact bop_add (by omega) (by omega) | exact rfl) ?_
              refine as_ ?_
              refine rNil ?_
              refine tn ?_
              exact ⟨p.code.length - (i + 1), by omega, wy 4 ⟨i + 1, rfl, by omega, rfl⟩ (by
                rw [take_snoc hx', List.map_append, List.map_append]
                show [bxP p, bxZ, bxV p m (List.map Enc.c (List.map (rpl nums) (List.take i p.code)) ++ [Enc.c (rpl nums x)]).length, Ent.row 51 6 (List.map Enc.c (List.map (rpl nums) (List.take i p.code)) ++ [Enc.c (rpl nums x)])] = [bxP p, bxZ, bxV p m (i + 1), Ent.row 51 6 (List.map Enc.c (List.map (rpl nums) (List.take i p.code)) ++ [Enc.c (rpl nums x)])]
                rw [List.length_append, ← hml]; rfl)⟩ -- LEAF 9: round of loop 2
            ·
              have hi' : i = p.code.length := by simp at h12; omega
              rw [hi', List.take_length]
              refine awp_exit ?_
              refine te ?_
              refine te ?_
              refine xbk ?_
              refine tn ?_
              refine fz 3 ?_
              refine sg ?_
              refine lAbF 2 [3] ?_
              refine sA ?_
              refine as_ ?_
              refine rNil ?_
              refine awp_ret ?_
              exact ⟨.inr rfl, _, (.cons (resC (by ((repeat apply Look.there rfl); exact Look.here)) (by exact rfl) (by exact rfl) (by ((repeat (apply All2.cons; first | exact .f (.v _) | exact .row rfl (by first | exact rfl | simp) | exact .f .nil | exact .f (.fro rfl (by first | exact rfl | simp)))); exact All2.nil))) (.cons (by first | exact .v (by ((repeat apply Look.there rfl); exact Look.here)) (.f (.v _)) | exact .v (by ((repeat apply Look.there rfl); exact Look.here)) (.row rfl (by first | exact rfl | (simp; done) | (simp; omega))) | exact .v (by ((repeat apply Look.there rfl); exact Look.here)) (.f .nil) | exact .a (by ((repeat apply Look.there rfl); exact Look.here)) | skip) .nil)), (by rw [hren]; rfl)⟩ -- LEAF 10: ret

/-- frustum/frustumref22.Equal -/
theorem c22 (p : Prg) (hl : p.code.length ≤ 16384) : Fn Try.prog 22 [A p, A p] (.one (B true)) := by
  refine fnI Try.func22 Try.ntmps22 fun hb => ?_
  refine sg ?_
  refine bx _ ?_
  refine bx _ ?_
  refine as_ ?_
  refine rNil ?_
  refine sq ?_
  refine sg ?_
  first | refine ff ?_ | refine fb ?_ | refine fo ?_
  first | refine l1f ?_ | refine l1b ?_ | refine l1o ?_
  first | refine ff ?_ | refine fb ?_ | refine fo ?_
  first | refine l1f ?_ | refine l1b ?_ | refine l1o ?_
  refine bo (hz := by exact rfl) ?_
  refine mv ?_
  refine gd (fun h1 => ?_) (fun h1 => ?_)
  ·
    simp at h1 -- END
  ·
    first | refine ff ?_ | refine fb ?_ | refine fo ?_
    first | refine l1f ?_ | refine l1b ?_ | refine l1o ?_
    first | refine ff ?_ | refine fb ?_ | refine fo ?_
    first | refine l1f ?_ | refine l1b ?_ | refine l1o ?_
    refine bo (hz := by exact rfl) ?_
    refine pkF ?_
    refine mv ?_
    refine gd (fun h2 => ?_) (fun h2 => ?_)
    ·
      simp at h2 -- END
    ·
      first | refine ff ?_ | refine fb ?_ | refine fo ?_
      first | refine l1f ?_ | refine l1b ?_ | refine l1o ?_
      first | refine ff ?_ | refine fb ?_ | refine fo ?_
      first | refine l1f ?_ | refine l1b ?_ | refine l1o ?_
      refine bo (hz := by exact rfl) ?_
      refine pkF ?_
      refine mv ?_
      refine gd (fun h3 => ?_) (fun h3 => ?_)
      ·
        simp at h3 -- END
      ·
        first | refine ff ?_ | refine fb ?_ | refine fo ?_
        first | refine l1f ?_ | refine l1b ?_ | refine l1o ?_
        first | refine ff ?_ | refine fb ?_ | refine fo ?_
        first | refine l1f ?_ | refine l1b ?_ | refine l1o ?_
        refine bo (hz := by exact rfl) ?_
        refine pkF ?_
        refine mv ?_
        refine gd (fun h4 => ?_) (fun h4 => ?_)
        ·
          simp at h4 -- END
        ·
          first | refine ff ?_ | refine fb ?_ | refine fo ?_
          first | refine l1f ?_ | refine l1b ?_ | refine l1o ?_
          first | refine ff ?_ | refine fb ?_ | refine fo ?_
          first | refine l1f ?_ | refine l1b ?_ | refine l1o ?_
          refine bo (hz := by exact rfl) ?_
          refine pkF ?_
          refine mv ?_
          refine gd (fun h5 => ?_) (fun h5 => ?_)
          ·
            simp at h5 -- END
          ·
            first | refine ff ?_ | refine fb ?_ | refine fo ?_
            first | refine l1f ?_ | refine l1b ?_ | refine l1o ?_
            first | refine ff ?_ | refine fb ?_ | refine fo ?_
            first | refine l1f ?_ | refine l1b ?_ | refine l1o ?_
            refine bo (hz := by exact rfl) ?_
            refine pkF ?_
            refine mv ?_
            refine gd (fun h6 => ?_) (fun h6 => ?_)
            ·
              simp at h6 -- END
            ·
              first | refine ff ?_ | refine fb ?_ | refine fo ?_
              first | refine l1f ?_ | refine l1b ?_ | refine l1o ?_
              first | refine ff ?_ | refine fb ?_ | refine fo ?_
              first | refine l1f ?_ | refine l1b ?_ | refine l1o ?_
              refine bo (hz := by exact rfl) ?_
              refine pkF ?_
              refine mv ?_
              refine gd (fun h7 => ?_) (fun h7 => ?_)
              ·
                simp at h7 -- END
              ·
                first | refine ff ?_ | refine fb ?_ | refine fo ?_
                first | refine l1f ?_ | refine l1b ?_ | refine l1o ?_
                first | refine lnM ?_ | refine ln ?_ | refine lnO ?_ | refine lnN ?_ | refine lnW ?_ | refine lnS ?_
                first | refine ff ?_ | refine fb ?_ | refine fo ?_
                first | refine l1f ?_ | refine l1b ?_ | refine l1o ?_
                first | refine lnM ?_ | refine ln ?_ | refine lnO ?_ | refine lnN ?_ | refine lnW ?_ | refine lnS ?_
                refine bo (hz := by exact rfl) ?_
                refine pkF ?_
                refine rNil ?_
                refine cn (fun h8 => ?_) (fun h8 => ?_)
                ·
                  simp at h8 -- END
                ·
                  refine awp_skip ?_
                  refine tn ?_
                  refine sq ?_
                  refine sg ?_
                  refine as_ ?_
                  refine rNil ?_
                  refine bk ?_
                  refine lp (fun mm S => ∃ i : Nat, mm = p.code.length - i ∧ i ≤ p.code.length ∧ S = ⟨[(5, .r (I i)), (3, .box 1 0), (2, .box 0 0)], [bxP p, bxP p]⟩) p.code.length ?_ ?_
                  · exact wx 2 ⟨0, rfl, Nat.zero_le _, rfl⟩
                  rintro mm S ⟨i, hmm, hi, rfl⟩
                  refine sq ?_
                  refine sg ?_
                  refine mv ?_
                  first | refine ff ?_ | refine fb ?_ | refine fo ?_
                  first | refine l1f ?_ | refine l1b ?_ | refine l1o ?_
                  first | refine lnM ?_ | refine ln ?_ | refine lnO ?_ | refine lnN ?_ | refine lnW ?_ | refine lnS ?_
                  refine bo (hz := by exact rfl) ?_
                  refine rNil ?_
                  refine cn (fun h9 => ?_) (fun h9 => ?_)
                  ·
                    have hi' : i < p.code.length := by simpa using h9
                    obtain ⟨x, hx⟩ := ex_get hi'
                    refine awp_skip ?_
                    refine tn ?_
                    refine sq ?_
                    refine bk ?_
                    refine sd mixO ?_
                    first | refine ff ?_ | refine fb ?_ | refine fo ?_
                    first | refine l1f ?_ | refine l1b ?_ | refine l1o ?_
                    refine mv ?_
                    first | refine xs_ ?_ | refine xo ?_ | refine xw ?_ | refine xsl ?_
                    first | refine lAf ?_ | refine lAb ?_ | refine lAo ?_
                    first | refine ff ?_ | refine fb ?_ | refine fo ?_
                    first | refine l1f ?_ | refine l1b ?_ | refine l1o ?_
                    refine mv ?_
                    first | refine xs_ ?_ | refine xo ?_ | refine xw ?_ | refine xsl ?_
                    first | refine lAf ?_ | refine lAb ?_ | refine lAo ?_
                    refine ein ?_
                    refine rNil ⟨rfl, ?_⟩
                    refine cn (fun h10 => ?_) (fun h10 => ?_)
                    ·
                      simp at h10 -- END
                    ·
                      refine awp_skip ?_
                      refine bn_ ?_
                      refine tn ?_
                      refine rg ?_
                      refine mv ?_
                      refine bo (hz := by first | exact bop_add (by omega) (by omega) | exact rfl) ?_
                      refine as_ ?_
                      refine rNil ?_
                      refine tn ?_
                      exact ⟨p.code.length - (i + 1), by omega, wx 2 ⟨i + 1, rfl, by omega, rfl⟩⟩ -- LEAF 1: round of loop 1
                  ·
                    refine awp_exit ?_
                    refine te ?_
                    refine te ?_
                    refine xbk ?_
                    refine tn ?_
                    refine sg ?_
                    refine as_ ?_
                    refine rNil ?_
                    refine awp_ret ?_
                    exact ⟨.inr rfl, _, (.cons (by first | exact .v (by ((repeat apply Look.there rfl); exact Look.here)) (.f (.v _)) | exact .v (by ((repeat apply Look.there rfl); exact Look.here)) (.row rfl (by first | exact rfl | (simp; done) | (simp; omega))) | exact .v (by ((repeat apply Look.there rfl); exact Look.here)) (.f .nil) | exact .a (by ((repeat apply Look.there rfl); exact Look.here)) | skip) .nil), rfl⟩ -- LEAF 2: ret

end Go.Proofs.Ytnhljpbpfaablaa.VS
