/- YtebdkaadbakhlaaGreatDoor: part W3 of this seat's own texts. -/
import Derived.Test.YtebdkaadbakhlaaGreatDoorW2
import Derived.Test.YtebdkaadbakhlaaGreatDoorP2
import Derived.Test.YtebdkaadbakhlaaGreatDoorP4
set_option linter.unusedVariables false
set_option linter.unusedSimpArgs false
section
open Go Go.Proofs Go.SL
set_option maxRecDepth 100000
namespace Go.SL
abbrev wrH (b : Nat) (v : Value) (bs : List UInt8) : Hp := [.blk b 197 [v], Own v 5 1 bs.length (byteCells bs)]
theorem writerPut_spec (b : Nat) (v : Value) (bs : List UInt8) (n : Int) (w : World) (h : ∀ c ∈ wrH b v bs, c.holds w) (hsep : (wrH b v bs).Pairwise Disj) (hk : bs.length ≤ 1000000) :
  Calls Tryz.prog 145 #[.pointer (some ⟨b, 0, none⟩), .int .i64 n] w fun e w' => ∃ v', True ∧ e = .returned (.tuple #[]) ∧ Res w (wrH b v bs) (wrH b v' (bs ++ [ub n])) w' := by
 refine enter (mc := wrH b v bs) (N := 13) Tryz.func145 rfl rfl rfl ?_ ?_ ?_
 ·exact h
 ·exact hsep
 have hub : IntKind.u8.wrap n = ((ub n).toNat : Int) := by rw [wrap_u8, ub_toNat]
 refine e_region <| wm rfl rfl <| wm rfl rfl <| wn rfl rfl <| w_val (v_loadB 0 rfl uT197 rfl rfl rfl) rfl <| wm rfl rfl ?_
 refine w_val (v_is (v' := .int .u8 ((ub n).toNat : Int)) (v_conv uT5 (by rw [uT3]; rfl) rfl) (by rw [hub])) rfl ?_
 refine w_op rfl ?_
 refine x_buildSlice _ (byteCells [ub n]) rfl (run_buildSlice uT197 Tryz.hi5 Tryz.cz5 Tryz.zeroValue5 rfl (by kernel_rfl)) rfl (fun b10 => ?_)
 refine w_op rfl ?_
 refine x_appendI (z := .int .u8 0) (n := bs.length) (xs := byteCells bs) (size := 1) (bytes := 1) (k := 1) (news := byteCells [ub n]) 2 rfl rfl rfl uT197 (by kernel_rfl) rfl (by decide) (fun w hw => blk_rds (hw.hold _ (List.mem_cons_self ..)) rfl) (one_byteCells _) (by omega) (by simp only [maxLen]; omega) rfl (fun v' => ?_)
 refine g_shape 2 rfl fun A1 k1 hv1 hk1 => ?_
 subst hv1
 refine wn rfl rfl <| w_op rfl ?_
 refine x_store1 1 rfl rfl rfl Tryz.hi197 Tryz.cz197 rfl (by first | (simp; done) | (simp [intCells_len]; omega) | exact Nat.zero_lt_succ _) rfl ?_
 refine w_nil ?_
 refine e_endQ (q_ret0 rfl ?_)
 refine fun w' hw' => ⟨.slice A1 (bs.length + 1) k1, trivial, rfl, ?_⟩
 simp only [wrH, byteCells_app, List.length_append]
 exact (hw'.sub (.cons _ (List.Sublist.refl _))).res
theorem long8_at (n : Int) {i : Nat} (hi : i < 8) : (long8 n)[i]? = some (ub (n / 256 ^ i)) := by
 have : i = 0 ∨ i = 1 ∨ i = 2 ∨ i = 3 ∨ i = 4 ∨ i = 5 ∨ i = 6 ∨ i = 7 := by omega
 rcases this with rfl | rfl | rfl | rfl | rfl | rfl | rfl | rfl <;> simp [long8]
theorem long_byte {n : Int} (h1 : -9223372036854775808 ≤ n) (h2 : n ≤ 9223372036854775807) {i : Nat} (hi : i < 8) : IntKind.u64.wrap n / 2 ^ (8 * i) % 256 = n / 256 ^ i % 256 := by
 have hw : IntKind.u64.wrap n = n % 18446744073709551616 := by simp [IntKind.wrap, IntKind.bits, IntKind.signed]
 have : i = 0 ∨ i = 1 ∨ i = 2 ∨ i = 3 ∨ i = 4 ∨ i = 5 ∨ i = 6 ∨ i = 7 := by omega
 rw [hw]
 rcases this with rfl | rfl | rfl | rfl | rfl | rfl | rfl | rfl <;> simp <;> omega
theorem writerLong_spec (b : Nat) (v : Value) (bs : List UInt8) (n : Int) (w : World) (h : ∀ c ∈ wrH b v bs, c.holds w) (hsep : (wrH b v bs).Pairwise Disj) (hk : bs.length ≤ 900000) (hn1 : -9223372036854775808 ≤ n) (hn2 : n ≤ 9223372036854775807) :
  Calls Tryz.prog 146 #[.pointer (some ⟨b, 0, none⟩), .int .i64 n] w fun e w' => ∃ v', True ∧ e = .returned (.tuple #[]) ∧ Res w (wrH b v bs) (wrH b v' (bs ++ long8 n)) w' := by
 refine enter (mc := wrH b v bs) (N := 18) Tryz.func146 rfl rfl rfl ?_ ?_ ?_
 ·exact h
 ·exact hsep
 refine esr <| wm rfl rfl <| w_nil <| e_block ?_
 refine e_loopH (σ := Nat × Value) [0, 1] (.cons rfl (.cons rfl .nil)) (fun x => [(5, .int .i64 x.1)]) (fun x => wrH b x.2 (bs ++ (long8 n).take x.1)) (fun x => x.1 ≤ 8) (fun x => 8 - x.1) (0, v) (by dsimp only; omega) (by repeat first | exact .nil _ | refine .cons rfl ?_) (fun _ hw => by simpa using hw) ?_
 rintro ⟨i, v⟩ hi
 dsimp only at hi
 refine esr <| w_val (v_lss rfl rfl) rfl <| w_nil <| e_seq ?_
 refine e_condD rfl (fun hlt => ?_) (fun hlt => ?_)
 ·have hlt' : i < 8 := by omega
  have e1 : (8 * (i : Int)).toNat = 8 * i := by omega
  have e2 : min (8 * i) IntKind.u64.bits = 8 * i := by have : IntKind.u64.bits = 64 := rfl; omega
  have hb := long_byte hn1 hn2 hlt'
  have hm := and_mask (k := .u64) (.inr rfl) (p := IntKind.u64.wrap n / 2 ^ (8 * i)) (Int.ediv_nonneg (u64_nonneg n) (Int.pow_nonneg (by decide))) (by
   refine Int.lt_of_le_of_lt (Int.ediv_le_self _ (u64_nonneg n)) ?_
   have hw : IntKind.u64.wrap n = n % 18446744073709551616 := by simp [IntKind.wrap, IntKind.bits, IntKind.signed]
   have : IntKind.u64.bits = 64 := rfl
   rw [hw, this]
   omega) 8 (by decide)
  rw [show (2 : Int) ^ 8 = 256 from rfl, hb] at hm
  refine e_skip <| e_seq <| e_block <| esr <| wm rfl rfl <| wa rfl rfl <| wre <| wm rfl rfl <| wm rfl rfl ?_
  refine w_val (v_conv uT165 (by rw [uT2]; rfl) rfl) rfl ?_
  refine wm rfl rfl ?_
  refine w_val (v_mul rfl rfl (by omega)) rfl ?_
  refine w_val (v_is (v' := .int .u64 (IntKind.u64.wrap n / 2 ^ (8 * i))) (v_shr rfl rfl (by omega)) (by rw [e1, e2])) rfl ?_
  refine w_val (v_is (v' := .int .u64 (n / 256 ^ i % 256)) (v_and rfl rfl) (by rw [← hm]; rfl)) rfl ?_
  refine w_val (v_is (v' := .int .i64 (n / 256 ^ i % 256)) (v_conv uT3 (by rw [uT165]; rfl) rfl) (by rw [wrap_i64 (by omega) (by omega)])) rfl ?_
  refine w_op rfl ?_
  refine x_call (dst := some 16) (mc := wrH b v (bs ++ (long8 n).take i)) (mr := []) (σ := Value) (fun _ => True) (fun _ => .tuple #[]) (fun v' => wrH b v' (bs ++ (long8 n).take i ++ [ub (n / 256 ^ i % 256)])) rfl rfl rfl Tryz.call145 (fun w hw => writerPut_spec b v (bs ++ (long8 n).take i) _ w hw.part.1 hw.part.2 (by simp; omega)) rfl (fun v' _ => ?_)
  refine w_nil ?_
  have hnext : bs ++ (long8 n).take i ++ [ub (n / 256 ^ i % 256)] = bs ++ (long8 n).take (i + 1) := by
   have h1 := long8_at n hlt'
   have h2 : ub (n / 256 ^ i % 256) = ub (n / 256 ^ i) := by unfold ub; congr 2; omega
   rw [List.take_add_one, h1, h2]
   simp
  rw [hnext]
  refine e_blk <| e_region ?_
  refine w_val (v_add rfl rfl (by omega)) rfl ?_
  refine wm rfl rfl <| w_nil ?_
  exact e_round ((i + 1, v')) (by dsimp only; omega) (by dsimp only; omega) (by repeat first | exact .nil _ | refine .cons rfl ?_) (fun _ hw => by simpa using hw)
 ·obtain rfl : i = 8 := by omega
  refine e_exit rfl ?_
  refine e_endQ (q_ret0 rfl ?_)
  exact fun w' hw' => ⟨v, trivial, rfl, by have := hw'.res; rwa [show (long8 n).take 8 = long8 n from rfl] at this⟩
end Go.SL
end
section
open Go Go.Proofs Go.SL
set_option maxRecDepth 100000
namespace Go.SL
theorem opIn_n {o : OpL} (h : OpIn o) : -9223372036854775808 ≤ o.n ∧ o.n ≤ 9223372036854775807 := by
 have := h.n
 unfold In64 at this
 exact this
theorem okOp_of {o : OpL} (hf : opFaultL o = 0) (hi : OpIn o) : OkOp o := by
 obtain ⟨h1, h2, ha, hb, hc⟩ := fault_rng hf
 have hn := opIn_n hi
 have hk : o.kind = 1 ∨ o.kind = 8 ∨ o.kind = 2 ∨ o.kind = 7 ∨ o.kind = 9 ∨ (o.kind = 3 ∨ o.kind = 4 ∨ o.kind = 5 ∨ o.kind = 6) := by omega
 have hz : o.kind ≠ 1 → o.n = 0 := by
  intro hk1
  unfold opFaultL at hf
  rw [if_neg (by omega), if_neg ha, if_neg hb, if_neg hc] at hf
  by_cases h : o.n = 0
  ·exact h
  ·rw [if_pos ⟨hk1, h⟩] at hf; omega
 have hp : ∀ x most : Int, ¬ badL x most ≠ 0 → most ≤ 14 → 0 ≤ most → 0 ≤ x ∧ x ≤ 14 ∧ (most = 0 → x = 0) := by
  intro x most h h14 h0
  simp only [ne_eq, Decidable.not_not] at h
  unfold badL at h
  split at h
  ·split at h <;> omega
  ·split at h <;> omega
 have hl : ∀ k, 0 ≤ k → k ≤ 9 → ∀ j, (limL k).getD j 0 ≤ 14 ∧ 0 ≤ (limL k).getD j 0 := by
  intro k h0 h9 j
  have : k = 0 ∨ k = 1 ∨ k = 2 ∨ k = 3 ∨ k = 4 ∨ k = 5 ∨ k = 6 ∨ k = 7 ∨ k = 8 ∨ k = 9 := by omega
  rcases this with rfl | rfl | rfl | rfl | rfl | rfl | rfl | rfl | rfl | rfl <;> (rcases j with _ | _ | _ | j <;> simp [limL])
 have hA := hp _ _ ha (hl _ (by omega) (by omega) 0).1 (hl _ (by omega) (by omega) 0).2
 have hB := hp _ _ hb (hl _ (by omega) (by omega) 1).1 (hl _ (by omega) (by omega) 1).2
 have hC := hp _ _ hc (hl _ (by omega) (by omega) 2).1 (hl _ (by omega) (by omega) 2).2
 by_cases hk1 : o.kind = 1
 ·have e1 : (limL o.kind).getD 1 0 = 0 := by rw [hk1]; rfl
  have e2 : (limL o.kind).getD 2 0 = 0 := by rw [hk1]; rfl
  exact .inl ⟨hk1, by omega, by omega, hB.2.2 e1, hC.2.2 e2, hn.1, hn.2⟩
 ·exact .inr ⟨by omega, by omega, by omega, by omega, by omega, by omega, by omega, by omega, hz hk1⟩
theorem okRound_of {r : RoundL} (hf : roundFaultL r = 0) (hi : ∀ d ∈ r, ∀ o ∈ d, OpIn o) : OkRound r := by
 obtain ⟨h8, hd⟩ := roundFault_ok hf
 refine ⟨h8, fun d hdr => ?_⟩
 obtain ⟨h14, ho⟩ := checked (hd d hdr)
 refine ⟨h14, fun o hod => ?_⟩
 obtain ⟨k, hk, rfl⟩ := List.mem_iff_getElem.1 hod
 exact okOp_of (ho k hk).1 (hi d hdr _ (List.getElem_mem _))
def encodeL (r : RoundL) : List UInt8 × Int := if roundFaultL r ≠ 0 then ([], roundFaultL r) else (encL r, 0)
theorem encDeeds_at {r : RoundL} {k : Nat} (h : k < r.length) : encDeeds (r.take (k + 1)) = encDeeds (r.take k) ++ encDeed r[k] := by
 rw [List.take_succ_eq_append_getElem h]; simp only [encDeeds, List.flatMap_append, List.flatMap_singleton]
theorem encOps_at {d : DeedL} {k : Nat} (h : k < d.length) : encOps (d.take (k + 1)) = encOps (d.take k) ++ encOp d[k] := by
 rw [List.take_succ_eq_append_getElem h]; simp only [encOps, List.flatMap_append, List.flatMap_singleton]
theorem encOps_take {d : DeedL} (k : Nat) (h : d.length ≤ 14) : (encOps (d.take k)).length ≤ 140 := by
 have h1 := encOps_len (d := d.take k)
 have h2 : (d.take k).length ≤ d.length := by simp; omega
 omega
theorem encDeeds_take {r : RoundL} (k : Nat) (h : OkRound r) : (encDeeds (r.take k)).length ≤ 1128 := by
 have h1 := encDeeds_len (r := r.take k) (fun d hd => (h.2 d (List.mem_of_mem_take hd)).1)
 have h2 : (r.take k).length ≤ r.length := by simp; omega
 have := h.1
 omega
theorem Encode_spec (v : Value) (r : RoundL) (w : World) (h : IsRound w.cell? v r) (hin : ∀ d ∈ r, ∀ o ∈ d, OpIn o) : Calls Tryz.prog 124 #[v] w
  fun e w' => ∃ sl, True ∧ e = .returned (.tuple #[sl, .int .i64 (encodeL r).2]) ∧ Res w [] [Own sl 5 1 (encodeL r).1.length (byteCells (encodeL r).1)] w' := by
 have hr := h
 rw [← off_none w] at h hr
 obtain ⟨A, kp, rfl, hle, hc⟩ := h.form
 refine enter0 (N := 68) Tryz.func124 rfl rfl rfl <| esr <| wa rfl rfl <| wa rfl rfl <| w_nil <| e_seq <| esr <| wm rfl rfl <| w_op rfl ?_
 refine x_call0 (v := .int .i64 (roundFaultL r)) rfl rfl rfl Tryz.call144 rfl (fun w hw => codeRound_spec _ r w (hr.mono hw.off)) ?_
 refine wa rfl rfl <| wsr <| wm rfl rfl <| w_val (v_neq rfl rfl) rfl <| w_nil ?_
 refine e_condD rfl (fun hf => ?_) (fun hf => ?_)
 ·refine esr <| wm rfl rfl <| wa rfl rfl <| wa rfl rfl <| w_nil ?_
  refine e_retQ (q_ret2 rfl (.tmp rfl) (.tmp rfl) ?_)
  refine fun w' hw' => ⟨.slice none 0 0, trivial, by rw [encodeL, if_pos hf], ?_⟩
  rw [encodeL, if_pos hf]
  exact (hw'.ownNil _ _).res
 ·have hf0 : roundFaultL r = 0 := by omega
  have hok := okRound_of hf0 hin
  have h8 := hok.1
  have hE : encodeL r = (encL r, 0) := by rw [encodeL, if_neg (by omega)]
  rw [hE]
  refine e_skip <| esr <| w_op rfl ?_
  refine x_alloc (z := .slice none 0 0) (by intro w; exact Tryz.zeroValue197 w) rfl (fun b5 => ?_)
  refine wsr ?_
  refine w_heap (fun _ hw => (hw.ownNil 5 1).perm (.swap _ _ _)) ?_
  refine wm rfl rfl <| w_val (v_lenS uT37 rfl) rfl <| w_op rfl ?_
  refine x_call (dst := some 18) (mc := wrH b5 (.slice none 0 0) []) (mr := []) (σ := Value) (fun _ => True) (fun _ => .tuple #[]) (fun v' => wrH b5 v' [ub r.length]) rfl rfl rfl Tryz.call145 (fun w hw => writerPut_spec b5 _ [] _ w hw.part.1 hw.part.2 (by simp)) rfl (fun v1 _ => ?_)
  refine w_nil <| e_seq <| esr <| wm rfl rfl <| w_val (v_lenS uT37 rfl) rfl <| wm rfl rfl <| w_nil <| e_block ?_
  refine e_loopH (σ := Nat × Value) [0, 5, 19, 20] (.cons rfl (.cons rfl (.cons rfl (.cons rfl .nil)))) (fun x => [(21, .int .i64 x.1)]) (fun x => wrH b5 x.2 (ub r.length :: encDeeds (r.take x.1))) (fun x => x.1 ≤ r.length) (fun x => r.length - x.1) (0, v1) (by dsimp only; omega) (by repeat first | exact .nil _ | refine .cons rfl ?_) (fun _ hw => by simpa [encDeeds] using hw) ?_
  rintro ⟨k, v1⟩ hk
  dsimp only at hk
  refine esr <| w_val (v_lss rfl rfl) rfl <| w_nil <| e_seq ?_
  refine e_condD rfl (fun hlt => ?_) (fun hlt => ?_)
  ·have hlt' : k < r.length := by omega
   obtain ⟨ad, u, rfl, hcell, hd⟩ := hc k hlt'
   obtain ⟨A2, kp2, rfl, hle2, hc2⟩ := hd.form
   have hdok := hok.2 r[k] (List.getElem_mem _)
   have hdin := hin r[k] (List.getElem_mem _)
   have hpre := encDeeds_take k hok
   have hnext := encDeeds_at hlt'
   generalize encDeeds (r.take k) = pre at *
   generalize hpost : encDeeds (r.take (k + 1)) = post at *
   generalize r[k] = d at *
   refine e_skip <| e_seq <| e_block <| esr ?_
   refine w_val (v_indexS uT37 Tryz.hi80 Tryz.cz80 rfl rfl (by first | omega | decide)) rfl ?_
   refine w_val (v_loadO uT80 rfl rfl (hcell)) rfl <| wa rfl rfl <| wsr <| wm rfl rfl <| w_val (v_lenS uT80 rfl) rfl <| w_op rfl ?_
   refine x_call (dst := some 27) (mc := wrH b5 v1 (ub r.length :: pre)) (mr := []) (σ := Value) (fun _ => True) (fun _ => .tuple #[]) (fun v' => wrH b5 v' (ub r.length :: pre ++ [ub d.length])) rfl rfl rfl Tryz.call145 (fun w hw => writerPut_spec b5 _ (ub r.length :: pre) _ w hw.part.1 hw.part.2 (by simp; omega)) rfl (fun v2 _ => ?_)
   refine wsr <| wm rfl rfl <| w_val (v_lenS uT80 rfl) rfl <| wm rfl rfl <| w_nil <| e_block ?_
   refine e_loopH (σ := Nat × Value) [0, 5, 19, 20, 21, 28, 29] (.cons rfl (.cons rfl (.cons rfl (.cons rfl (.cons rfl (.cons rfl (.cons rfl .nil))))))) (fun x => [(30, .int .i64 x.1)]) (fun x => wrH b5 x.2 (ub r.length :: pre ++ [ub d.length] ++ encOps (d.take x.1))) (fun x => x.1 ≤ d.length) (fun x => d.length - x.1) (0, v2) (by dsimp only; omega) (by repeat first | exact .nil _ | refine .cons rfl ?_) (fun _ hw => by simpa [encOps] using hw) ?_
   rintro ⟨j, v2⟩ hj
   dsimp only at hj
   refine esr <| w_val (v_lss rfl rfl) rfl <| w_nil <| e_seq ?_
   refine e_condD rfl (fun hlt2 => ?_) (fun hlt2 => ?_)
   ·have hlt2' : j < d.length := by omega
    obtain ⟨ad2, rfl, hop⟩ := IsDeed.cells hc2 hlt2'
    have hoOk := hdok.2 d[j] (List.getElem_mem _)
    have hoin := opIn_n (hdin d[j] (List.getElem_mem _))
    have hpre2 := encOps_take j hdok.1
    have hnext2 := encOps_at hlt2'
    generalize encOps (d.take j) = pre2 at *
    generalize hpost2 : encOps (d.take (j + 1)) = post2 at *
    generalize d[j] = o at *
    generalize hbs : ub r.length :: pre ++ [ub d.length] ++ pre2 = bs
    have hbl : bs.length ≤ 2000 := by rw [← hbs]; simp; omega
    refine e_skip <| e_seq <| e_block <| esr ?_
    refine w_val (v_indexS uT80 Tryz.hi109 Tryz.cz109 rfl rfl (by first | omega | decide)) rfl ?_
    refine w_val (v_loadON uT109 rfl Tryz.hi109 rfl (hop) Tryz.cz109) rfl <| w_op rfl ?_
    refine x_alloc (z := .agg #[.int .i64 0, .int .i64 0, .int .i64 0, .int .i64 0, .int .i64 0]) (by intro w; exact Tryz.zeroValue109 w) rfl (fun b9 => ?_)
    refine w_op rfl ?_
    refine x_storeA 0 rfl rfl rfl Tryz.hi109 Tryz.cz109 rfl (by first | (simp [Value.oneCell', opCells]; done) | assumption | exact one_ints _ | exact one_resCells _ _ | exact one_slotC _) ?_
    refine wsr ?_
    refine w_heap (fun _ hw => hw.perm (List.perm_append_comm (l₁ := [_]) (l₂ := wrH b5 v2 bs))) ?_
    refine w_val (v_fieldAddrB (o := 0) uT109 rfl rfl Tryz.nz3 rfl) rfl <| w_val (v_loadB 2 rfl uT3 rfl rfl rfl) rfl <| w_op rfl ?_
    refine x_call (dst := some 36) (mc := wrH b5 v2 bs) (mr := [.blk b9 109 (opCells o)]) (σ := Value) (fun _ => True) (fun _ => .tuple #[]) (fun v' => wrH b5 v' (bs ++ [ub o.kind])) rfl rfl rfl Tryz.call145 (fun w hw => writerPut_spec b5 _ bs _ w hw.part.1 hw.part.2 (by omega)) rfl (fun v3 _ => ?_)
    refine w_nil <| e_seq <| esr <| w_val (v_fieldAddrB (o := 0) uT109 rfl rfl Tryz.nz3 rfl) rfl <| w_val (v_loadB 2 rfl uT3 rfl rfl rfl) rfl <| w_val (v_eql rfl rfl) rfl <| w_nil ?_
    refine e_condD rfl (fun hk1 => ?_) (fun hk1 => ?_)
    ·refine esr <| w_val (v_fieldAddrB (o := 1) uT109 rfl rfl Tryz.nz3 rfl) rfl <| w_val (v_loadB 2 rfl uT3 rfl rfl rfl) rfl <| w_op rfl ?_
     refine x_call (dst := some 42) (mc := wrH b5 v3 (bs ++ [ub o.kind])) (mr := [.blk b9 109 (opCells o)]) (σ := Value) (fun _ => True) (fun _ => .tuple #[]) (fun v' => wrH b5 v' (bs ++ [ub o.kind] ++ [ub o.a])) rfl rfl rfl Tryz.call145 (fun w hw => writerPut_spec b5 _ _ _ w hw.part.1 hw.part.2 (by simp; omega)) rfl (fun v4 _ => ?_)
     refine wsr <| w_val (v_fieldAddrB (o := 4) uT109 rfl rfl Tryz.nz2 rfl) rfl <| w_val (v_loadB 2 rfl uT2 rfl rfl rfl) rfl <| w_op rfl ?_
     refine x_call (dst := some 45) (mc := wrH b5 v4 (bs ++ [ub o.kind] ++ [ub o.a])) (mr := [.blk b9 109 (opCells o)]) (σ := Value) (fun _ => True) (fun _ => .tuple #[]) (fun v' => wrH b5 v' (bs ++ [ub o.kind] ++ [ub o.a] ++ long8 o.n)) rfl rfl rfl Tryz.call146 (fun w hw => writerLong_spec b5 _ _ _ w hw.part.1 hw.part.2 (by simp; omega) hoin.1 hoin.2) rfl (fun v5 _ => ?_)
     refine w_nil <| e_exit rfl <| e_region ?_
     refine w_val (v_add rfl rfl (by omega)) rfl ?_
     refine wm rfl rfl <| w_nil ?_
     have he : bs ++ [ub o.kind] ++ [ub o.a] ++ long8 o.n = ub r.length :: pre ++ [ub d.length] ++ post2 := by
      rw [← hbs, hnext2, encOp, if_pos hk1]; simp
     rw [he]
     exact e_round ((j + 1, v5)) (by dsimp only; omega) (by dsimp only; omega) (by repeat first | exact .nil _ | refine .cons rfl ?_) (fun _ hw => by dsimp only; rw [hpost2]; exact hw.sub (List.sublist_append_left _ _))
    ·have hob : 0 ≤ o.a ∧ o.a < 16 ∧ 0 ≤ o.b ∧ o.b < 16 := by
      rcases hoOk with h | h
      ·exact absurd h.1 hk1
      ·omega
     refine e_skip <| esr <| w_val (v_fieldAddrB (o := 1) uT109 rfl rfl Tryz.nz3 rfl) rfl <| w_val (v_loadB 2 rfl uT3 rfl rfl rfl) rfl <| w_val (v_fieldAddrB (o := 2) uT109 rfl rfl Tryz.nz3 rfl) rfl <| w_val (v_loadB 2 rfl uT3 rfl rfl rfl) rfl ?_
     refine w_val (v_is (v' := .int .i64 (16 * o.b)) (v_shl rfl rfl (by omega)) (by rw [show IntKind.i64.wrap (o.b * 2 ^ min ((4 : Int)).toNat IntKind.i64.bits) = 16 * o.b from by rw [show min ((4 : Int)).toNat IntKind.i64.bits = 4 from rfl, wrap_i64 (by omega) (by omega)]; omega])) rfl ?_
     refine w_val (v_is (v' := .int .i64 (o.a + 16 * o.b)) (v_or rfl rfl) (by rw [or_add (.inl rfl) 4 (by omega) (by omega) (by omega) (by omega) (by omega)])) rfl ?_
     refine w_op rfl ?_
     refine x_call (dst := some 52) (mc := wrH b5 v3 (bs ++ [ub o.kind])) (mr := [.blk b9 109 (opCells o)]) (σ := Value) (fun _ => True) (fun _ => .tuple #[]) (fun v' => wrH b5 v' (bs ++ [ub o.kind] ++ [ub (o.a + 16 * o.b)])) rfl rfl rfl Tryz.call145 (fun w hw => writerPut_spec b5 _ _ _ w hw.part.1 hw.part.2 (by simp; omega)) rfl (fun v4 _ => ?_)
     refine wre <| w_val (v_fieldAddrB (o := 3) uT109 rfl rfl Tryz.nz3 rfl) rfl <| w_val (v_loadB 2 rfl uT3 rfl rfl rfl) rfl <| w_op rfl ?_
     refine x_call (dst := some 55) (mc := wrH b5 v4 (bs ++ [ub o.kind] ++ [ub (o.a + 16 * o.b)])) (mr := [.blk b9 109 (opCells o)]) (σ := Value) (fun _ => True) (fun _ => .tuple #[]) (fun v' => wrH b5 v' (bs ++ [ub o.kind] ++ [ub (o.a + 16 * o.b)] ++ [ub o.c])) rfl rfl rfl Tryz.call145 (fun w hw => writerPut_spec b5 _ _ _ w hw.part.1 hw.part.2 (by simp; omega)) rfl (fun v5 _ => ?_)
     refine w_nil <| e_blk <| e_region ?_
     refine w_val (v_add rfl rfl (by omega)) rfl ?_
     refine wm rfl rfl <| w_nil ?_
     have he : bs ++ [ub o.kind] ++ [ub (o.a + 16 * o.b)] ++ [ub o.c] = ub r.length :: pre ++ [ub d.length] ++ post2 := by
      rw [← hbs, hnext2, encOp, if_neg hk1]; simp
     rw [he]
     exact e_round ((j + 1, v5)) (by dsimp only; omega) (by dsimp only; omega) (by repeat first | exact .nil _ | refine .cons rfl ?_) (fun _ hw => by dsimp only; rw [hpost2]; exact hw.sub (List.sublist_append_left _ _))
   ·obtain rfl : j = d.length := by omega
    have he : ub r.length :: pre ++ [ub d.length] ++ encOps (d.take d.length) = ub r.length :: post := by
     rw [hnext, List.take_length, encDeed]; simp
    rw [he]
    refine e_exit rfl <| e_blk <| e_region ?_
    refine w_val (v_add rfl rfl (by omega)) rfl ?_
    refine wm rfl rfl <| w_nil ?_
    exact e_round ((k + 1, v2)) (by dsimp only; omega) (by dsimp only; omega) (by repeat first | exact .nil _ | refine .cons rfl ?_) (fun _ hw => by dsimp only; rw [hpost]; exact hw)
  ·obtain rfl : k = r.length := by omega
   have he : ub r.length :: encDeeds (r.take r.length) = encBody r := by rw [List.take_length, encBody]
   rw [he]
   have hbl := encBody_len hok
   dsimp only
   refine g_shape 1 rfl fun A1 k1 hv1 hk1 => ?_
   subst hv1
   refine e_exit rfl <| esr <| w_val (v_loadB 0 rfl uT197 rfl rfl rfl) rfl <| w_val (v_lenS uT197 rfl) rfl <| wa rfl rfl <| wsr <| wm rfl rfl ?_
   refine w_val (v_is (v' := .int .u8 ((ub (encBody r).length).toNat : Int)) (v_conv uT5 (by rw [uT3]; rfl) rfl) (by rw [wrap_u8, ub_toNat])) rfl ?_
   refine wm rfl rfl ?_
   refine w_val (v_is (v' := .int .i64 (((encBody r).length : Int) / 256)) (v_shr rfl rfl (by omega)) (by rfl)) rfl ?_
   refine w_val (v_is (v' := .int .u8 ((ub (((encBody r).length : Int) / 256)).toNat : Int)) (v_conv uT5 (by rw [uT3]; rfl) rfl) (by rw [wrap_u8, ub_toNat])) rfl ?_
   refine w_op rfl ?_
   refine x_buildSlice _ (byteCells [ub (encBody r).length, ub (((encBody r).length : Int) / 256)]) rfl (run_buildSlice uT51 Tryz.hi5 Tryz.cz5 Tryz.zeroValue5 rfl (by kernel_rfl)) rfl (fun b65 => ?_)
   refine w_val (v_loadB 1 rfl uT197 rfl rfl rfl) rfl ?_
   refine g_own (size := 1) (n := 2) 0 rfl rfl (by decide) ?_
   refine w_op rfl ?_
   refine x_appendJ (z := .int .u8 0) (n := 2) (xs := byteCells [ub (encBody r).length, ub (((encBody r).length : Int) / 256)]) (size := 1) (bytes := 1) (k := (encBody r).length) (news := byteCells (encBody r)) 0 rfl rfl rfl uT51 uT197 (by kernel_rfl) rfl (by decide) (fun w hw => own_rds (hw.mem (i := 2) rfl)) (one_byteCells _) (by omega) (by simp only [maxLen]; omega) rfl (fun v' => ?_)
   refine wa rfl rfl <| wa rfl rfl <| w_nil ?_
   refine e_retQ (q_ret2 rfl (.tmp rfl) (.tmp rfl) ?_)
   refine fun w' hw' => ⟨v', trivial, rfl, ?_⟩
   have e1 : (encL r).length = 2 + (encBody r).length := by rw [encL_len]; omega
   have e2 : byteCells (encL r) = byteCells [ub (encBody r).length, ub (((encBody r).length : Int) / 256)] ++ byteCells (encBody r) := by rw [← byteCells_app]; rfl
   rw [e1, e2]
   simp only [List.set_cons_zero] at hw'
   exact (hw'.sub (m' := [_]) (.cons_cons _ (List.nil_sublist _))).res
end Go.SL
end
section
open Go Go.Proofs Go.SL
set_option maxRecDepth 100000
namespace Go.SL
abbrev rdB (b : Nat) (v : Value) : Chunk := .blk b 237 [v]
def Tail (v : Value) (bs : List UInt8) (v' : Value) (rest : List UInt8) : Prop := ∀ c : View, IsBytes c v bs → IsBytes c v' rest
theorem Tail.refl (v : Value) (bs : List UInt8) : Tail v bs v bs := fun _ h => h
theorem Tail.trans {v v' v'' : Value} {a b c : List UInt8} (h : Tail v a v' b) (h' : Tail v' b v'' c) : Tail v a v'' c := fun x hx => h' x (h x hx)
abbrev gone3 : Value := .iface 233 (.int .i64 3)
theorem readerByte_spec (b : Nat) (v : Value) (bs : List UInt8) (w : World) (hb : (rdB b v).holds w) (h : IsBytes (ofb w b) v bs) :
  Calls Tryz.prog 179 #[.pointer (some ⟨b, 0, none⟩)] w fun e w' =>
   (∃ s : Value × UInt8 × List UInt8, (bs = s.2.1 :: s.2.2 ∧ Tail v bs s.1 s.2.2) ∧ e = .returned (.int .i64 (s.2.1.toNat : Int)) ∧ Res w [rdB b v] [rdB b s.1] w') ∨
   (∃ _u : Unit, bs = [] ∧ e = .panicked [{ v := gone3, recovered := false }] ∧ Res w [rdB b v] [] w') := by
 rw [ofb_eq w b 237 [v]] at h
 obtain ⟨A, k, rfl, hk, hl, hc⟩ := h
 refine enter (mc := [rdB b (.slice A bs.length k)]) (N := 27) Tryz.func179 rfl rfl rfl ?_ ?_ ?_
 ·intro c hc; simp only [List.mem_singleton] at hc; subst hc; exact hb
 ·simp
 refine esr <| wa rfl rfl <| w_nil <| e_seq <| esr <| wm rfl rfl <| wn rfl rfl <| w_val (v_fieldAddrB (o := 0) uT237 rfl rfl Tryz.nz51 rfl) rfl <| w_val (v_loadB 0 rfl uT51 rfl rfl rfl) rfl <| w_val (v_lenS uT51 rfl) rfl <| w_val (v_eql rfl rfl) rfl <| w_nil ?_
 refine e_condD rfl (fun h0 => ?_) (fun h0 => ?_)
 ·have hnil : bs = [] := List.eq_nil_of_length_eq_zero (by omega)
  refine e_region ?_
  refine w_val (v_makeIface (by kernel_rfl) rfl) rfl ?_
  refine w_op rfl ?_
  refine x_panic rfl (g_panic (q_panic ?_))
  exact fun w' hw' => .inr ⟨(), hnil, rfl, hw'.res.nil⟩
 ·obtain ⟨x, rest, rfl⟩ : ∃ x rest, bs = x :: rest := by
   cases bs with
   | nil => simp at h0
   | cons x rest => exact ⟨x, rest, rfl⟩
  obtain ⟨ad, rfl, hcl⟩ := hc (by simp)
  have hcell : off w (feet [rdB b (.slice (some ad) (x :: rest).length k)]) (ad.add (((0 : Int)).toNat * 1)) = some (.int .u8 (x.toNat : Int)) := hcl 0 _ (by simp [byteCells])
  have hlen : 0 < (x :: rest).length := by simp
  have hx := x.toNat_lt
  refine e_skip <| esr <| wm rfl rfl <| wn rfl rfl <| w_val (v_fieldAddrB (o := 0) uT237 rfl rfl Tryz.nz51 rfl) rfl <| w_val (v_loadB 0 rfl uT51 rfl rfl rfl) rfl ?_
  refine w_val (v_indexS uT51 Tryz.hi5 Tryz.cz5 rfl rfl (by first | omega | decide)) rfl ?_
  refine w_val (v_loadO uT5 rfl rfl (hcell)) rfl <| wa rfl rfl <| wsr <| wm rfl rfl <| wm rfl rfl <| wn rfl rfl <| w_val (v_fieldAddrB (o := 0) uT237 rfl rfl Tryz.nz51 rfl) rfl <| w_val (v_loadB 0 rfl uT51 rfl rfl rfl) rfl ?_
  refine w_val (v_sliceL uT51 Tryz.hi5 Tryz.cz5 rfl rfl (by omega)) rfl ?_
  refine wn rfl rfl <| w_val (v_fieldAddrB (o := 0) uT237 rfl rfl Tryz.nz51 rfl) rfl <| w_op rfl ?_
  refine x_store1 0 rfl rfl rfl Tryz.hi51 Tryz.cz51 rfl (by first | (simp; done) | (simp [intCells_len]; omega) | exact Nat.zero_lt_succ _) rfl ?_
  refine wsr <| wm rfl rfl ?_
  refine w_val (v_is (v' := .int .i64 (x.toNat : Int)) (v_conv uT3 (by rw [uT5]; rfl) rfl) (by rw [wrap_i64 (by omega) (by omega)])) rfl ?_
  refine wa rfl rfl <| w_nil ?_
  refine e_retQ (q_ret1 rfl (.tmp rfl) ?_)
  exact fun w' hw' => .inl ⟨(slV (some ad) 1 (x :: rest).length k 1, x, rest), ⟨rfl, fun _ h => h.tail⟩, rfl, hw'.res⟩
def le : List UInt8 → Int
 | [] => 0
 | x :: l => x.toNat + 256 * le l
theorem le_app (l : List UInt8) (x : UInt8) : le (l ++ [x]) = le l + x.toNat * 2 ^ (8 * l.length) := by
 induction l with
 | nil => simp [le]
 | cons y l ih =>
  simp only [List.cons_append, le, ih, List.length_cons]
  rw [show 8 * (l.length + 1) = 8 * l.length + 8 from by omega, Int.pow_add, Int.mul_add, Int.add_assoc]
  congr 2
  rw [show (2 : Int) ^ 8 = 256 from rfl, Int.mul_left_comm, Int.mul_comm (2 ^ (8 * l.length))]
theorem le_range (l : List UInt8) : 0 ≤ le l ∧ le l < 2 ^ (8 * l.length) := by
 induction l with
 | nil => simp [le]
 | cons y l ih =>
  have hy := toNat_lt' y
  simp only [le, List.length_cons]
  rw [show 8 * (l.length + 1) = 8 * l.length + 8 from by omega, Int.pow_add, show (2 : Int) ^ 8 = 256 from rfl]
  omega
theorem num8_le (a b c d e f g h : UInt8) : IntKind.i64.wrap (le [a, b, c, d, e, f, g, h]) = num8 a b c d e f g h := by
 unfold num8
 congr 1
 simp only [le]
 omega
def numOf (l : List UInt8) : Int := IntKind.i64.wrap (le l)
theorem readerLong_spec (b : Nat) (v : Value) (bs : List UInt8) (w : World) (hb : (rdB b v).holds w) (h : IsBytes (ofb w b) v bs) :
  Calls Tryz.prog 186 #[.pointer (some ⟨b, 0, none⟩)] w fun e w' =>
   (∃ v', (8 ≤ bs.length ∧ Tail v bs v' (bs.drop 8)) ∧ e = .returned (.int .i64 (numOf (bs.take 8))) ∧ Res w [rdB b v] [rdB b v'] w') ∨
   (∃ _u : Unit, bs.length < 8 ∧ e = .panicked [{ v := gone3, recovered := false }] ∧ Res w [rdB b v] [] w') := by
 rw [ofb_eq w b 237 [v]] at h
 refine enter (mc := [rdB b v]) (N := 19) Tryz.func186 rfl rfl rfl ?_ ?_ ?_
 ·intro c hc; simp only [List.mem_singleton] at hc; subst hc; exact hb
 ·simp
 refine esr <| wa rfl rfl <| wsr <| wa rfl rfl <| w_nil <| e_seq <| esr <| wm rfl rfl <| w_nil <| e_block ?_
 refine e_loopH (σ := Nat × Value) [0] (.cons rfl .nil) (fun x => [(3, .int .u64 (le (bs.take x.1))), (5, .int .i64 x.1)]) (fun x => [rdB b x.2]) (fun x => x.1 ≤ 8 ∧ x.1 ≤ bs.length ∧ Tail v bs x.2 (bs.drop x.1)) (fun x => 8 - x.1) (0, v) ⟨by dsimp only; omega, by dsimp only; omega, Tail.refl _ _⟩ (by repeat first | exact .nil _ | refine .cons rfl ?_) (fun _ hw => hw) ?_
 rintro ⟨i, v1⟩ ⟨hi, hib, ht⟩
 dsimp only at hi hib ht
 refine esr <| w_val (v_lss rfl rfl) rfl <| w_nil <| e_seq ?_
 refine e_condD rfl (fun hlt => ?_) (fun hlt => ?_)
 ·have hlt' : i < 8 := by omega
  refine e_skip <| e_seq <| e_block <| esr <| wm rfl rfl <| wa rfl rfl <| wre <| wm rfl rfl <| wm rfl rfl <| w_op rfl ?_
  refine x_callP (dst := some 10) (mc := [rdB b v1]) (mr := []) (σ := Value × UInt8 × List UInt8) (τ := Unit) (fun s => bs.drop i = s.2.1 :: s.2.2 ∧ Tail v1 (bs.drop i) s.1 s.2.2) (fun s => .int .i64 (s.2.1.toNat : Int)) (fun s => [rdB b s.1]) (fun _ => bs.drop i = []) (fun _ => gone3) (fun _ => []) rfl rfl rfl Tryz.call179 (fun w hw => readerByte_spec b v1 (bs.drop i) w (hw.mem (i := 0) rfl) ((ht _ h).mono (hw.ofb 0 rfl))) rfl (fun _ hn => g_panic (q_panic fun w' hw' => .inr ⟨(), ?_, rfl, hw'.res.nil⟩)) ?_
  ·have := congrArg List.length hn; simp at this; omega
  rintro ⟨v2, x, rest⟩ ⟨hx, ht2⟩
  dsimp only at hx ht2 ⊢
  have hx8 := toNat_lt' x
  have hil : i < bs.length := by have := congrArg List.length hx; simp at this; omega
  have hxi : bs.take (i + 1) = bs.take i ++ [x] := by
   rw [List.take_succ_eq_append_getElem hil]
   rw [List.drop_eq_getElem_cons hil] at hx
   injection hx with h1 h2
   rw [h1]
  have hrest : rest = bs.drop (i + 1) := by
   rw [List.drop_eq_getElem_cons hil] at hx
   injection hx with h1 h2
   exact h2.symm
  have hle := le_app (bs.take i) x
  rw [← hxi] at hle
  have hr1 := le_range (bs.take i)
  have hr2 := le_range (bs.take (i + 1))
  have el : (bs.take i).length = i := by simp; omega
  have el2 : (bs.take (i + 1)).length = i + 1 := by simp; omega
  rw [el] at hle hr1
  rw [el2] at hr2
  have hp64 : (2 : Int) ^ (8 * (i + 1)) ≤ 18446744073709551616 := by
   have : i = 0 ∨ i = 1 ∨ i = 2 ∨ i = 3 ∨ i = 4 ∨ i = 5 ∨ i = 6 ∨ i = 7 := by omega
   rcases this with rfl | rfl | rfl | rfl | rfl | rfl | rfl | rfl <;> decide
  have hq0 : 0 ≤ (x.toNat : Int) * 2 ^ (8 * i) := Int.mul_nonneg (by omega) (Int.pow_nonneg (by decide))
  have e1 : (8 * (i : Int)).toNat = 8 * i := by omega
  have e2 : min (8 * i) IntKind.u64.bits = 8 * i := by have : IntKind.u64.bits = 64 := rfl; omega
  refine w_val (v_is (v' := .int .u64 (x.toNat : Int)) (v_conv uT165 (by rw [uT3]; rfl) rfl) (by rw [wrap_u64 (by omega) (by omega)])) rfl ?_
  refine wm rfl rfl ?_
  refine w_val (v_mul rfl rfl (by omega)) rfl ?_
  refine w_val (v_is (v' := .int .u64 ((x.toNat : Int) * 2 ^ (8 * i))) (v_shl rfl rfl (by omega)) (by rw [e1, e2, wrap_u64 hq0 (by omega)])) rfl ?_
  refine w_val (v_is (v' := .int .u64 (le (bs.take (i + 1)))) (v_or rfl rfl) (by rw [or_addU (8 * i) hr1.1 hr1.2 hq0 (Int.mul_emod_left _ _) (by omega), hle])) rfl ?_
  refine wa rfl rfl <| w_nil <| e_blk <| e_region ?_
  refine w_val (v_add rfl rfl (by omega)) rfl ?_
  refine wm rfl rfl <| w_nil ?_
  exact e_round ((i + 1, v2)) (⟨by dsimp only; omega, by dsimp only; omega, by dsimp only; rw [← hrest]; exact ht.trans ht2⟩) (by dsimp only; omega) (by repeat first | exact .nil _ | refine .cons rfl ?_) (fun _ hw => hw)
 ·obtain rfl : i = 8 := by omega
  refine e_exit rfl <| esr <| wm rfl rfl ?_
  refine w_val (v_is (v' := .int .i64 (numOf (bs.take 8))) (v_conv uT2 (by rw [uT165]; rfl) rfl) rfl) rfl ?_
  refine wa rfl rfl <| w_nil ?_
  refine e_retQ (q_ret1 rfl (.tmp rfl) ?_)
  exact fun w' hw' => .inl ⟨v1, ⟨hib, ht⟩, rfl, hw'.res⟩
end Go.SL
end
section
open Go Go.Proofs Go.SL
set_option maxRecDepth 100000
namespace Go.SL
theorem list8 {α : Type} {l : List α} (h : 8 ≤ l.length) : ∃ a b c d e f g h' r, l = a :: b :: c :: d :: e :: f :: g :: h' :: r := by
 match l, h with
 | a :: b :: c :: d :: e :: f :: g :: h' :: r, _ => exact ⟨a, b, c, d, e, f, g, h', r, rfl⟩
theorem getOp_num {a : UInt8} {rest : List UInt8} (h : 8 ≤ rest.length) : getOp (1 :: a :: rest) = some (⟨1, a.toNat, 0, 0, numOf (rest.take 8)⟩, rest.drop 8) := by
 obtain ⟨b0, b1, b2, b3, b4, b5, b6, b7, r, rfl⟩ := list8 h
 simp only [getOp, if_true, List.take_succ_cons, List.take_zero, List.drop_succ_cons, List.drop_zero, numOf, num8_le]
theorem getOp_short {a : UInt8} {rest : List UInt8} (h : rest.length < 8) : getOp (1 :: a :: rest) = none := by
 simp only [getOp, if_true]
 split
 ·rename_i heq
  simp only [List.cons.injEq] at heq
  obtain ⟨_, rfl⟩ := heq
  simp at h
  omega
 ·rfl
theorem is1 {x : UInt8} (h : (x.toNat : Int) = 1) : x = 1 := by
 rw [← UInt8.toNat_inj]
 have : (1 : UInt8).toNat = 1 := rfl
 omega
theorem readerOp_spec (b : Nat) (v : Value) (bs : List UInt8) (w : World) (hb : (rdB b v).holds w) (h : IsBytes (ofb w b) v bs) :
  Calls Tryz.prog 180 #[.pointer (some ⟨b, 0, none⟩)] w fun e w' =>
   (∃ s : Value × OpL × List UInt8, (getOp bs = some (s.2.1, s.2.2) ∧ Tail v bs s.1 s.2.2) ∧ e = .returned (opV s.2.1) ∧ Res w [rdB b v] [rdB b s.1] w') ∨
   (∃ _u : Unit, getOp bs = none ∧ e = .panicked [{ v := gone3, recovered := false }] ∧ Res w [rdB b v] [] w') := by
 rw [ofb_eq w b 237 [v]] at h
 refine enter (mc := [rdB b v]) (N := 30) Tryz.func180 rfl rfl rfl ?_ ?_ ?_
 ·intro c hc; simp only [List.mem_singleton] at hc; subst hc; exact hb
 ·simp
 refine esr <| w_op rfl ?_
 refine x_alloc (z := .agg #[.int .i64 0, .int .i64 0, .int .i64 0, .int .i64 0, .int .i64 0]) (by intro w; exact Tryz.zeroValue109 w) rfl (fun b2 => ?_)
 refine wsr <| wm rfl rfl ?_
 refine w_heap (fun _ hw => hw.perm (.swap _ _ _)) ?_
 refine w_op rfl ?_
 refine x_callP (dst := some 6) (mc := [rdB b v]) (mr := [_]) (σ := Value × UInt8 × List UInt8) (τ := Unit) (fun s => bs = s.2.1 :: s.2.2 ∧ Tail v bs s.1 s.2.2) (fun s => .int .i64 (s.2.1.toNat : Int)) (fun s => [rdB b s.1]) (fun _ => bs = []) (fun _ => gone3) (fun _ => []) rfl rfl rfl Tryz.call179 (fun w hw => readerByte_spec b v bs w (hw.mem (i := 0) rfl) (h.mono (hw.ofb 0 rfl))) rfl (fun _ hn => g_panic (q_panic fun w' hw' => .inr ⟨(), by rw [hn]; rfl, rfl, hw'.res.nil⟩)) ?_
 rintro ⟨v1, k, b1⟩ ⟨rfl, ht1⟩
 dsimp only at ht1 ⊢
 have hk8 := k.toNat_lt
 have h1 := ht1 _ h
 refine w_val (v_build _ rfl (by intro _; simp [Instr.build, Instr.fill, Tryz.zeroValue109, go_sem]; rfl)) rfl ?_
 refine w_op rfl ?_
 refine x_alloc (z := .agg #[.int .i64 0, .int .i64 0, .int .i64 0, .int .i64 0, .int .i64 0]) (by intro w; exact Tryz.zeroValue109 w) rfl (fun b3 => ?_)
 refine w_op rfl ?_
 refine x_storeA 0 rfl rfl rfl Tryz.hi109 Tryz.cz109 rfl (by first | (simp [Value.oneCell', opCells]; done) | assumption | exact one_ints _ | exact one_resCells _ _ | exact one_slotC _) ?_
 refine w_nil <| e_seq <| esr <| w_val (v_fieldAddrB (o := 0) uT109 rfl rfl Tryz.nz3 rfl) rfl <| w_val (v_loadB 0 rfl uT3 rfl rfl rfl) rfl <| w_val (v_eql rfl rfl) rfl <| w_nil ?_
 refine e_condD rfl (fun hk1 => ?_) (fun hk1 => ?_)
 ·have hk1' := is1 hk1
  subst hk1'
  refine esr <| wm rfl rfl ?_
  refine w_heap (fun _ hw => hw.perm (.swap _ _ _)) ?_
  refine w_op rfl ?_
  refine x_callP (dst := some 12) (mc := [rdB b v1]) (mr := [_, _]) (σ := Value × UInt8 × List UInt8) (τ := Unit) (fun s => b1 = s.2.1 :: s.2.2 ∧ Tail v1 b1 s.1 s.2.2) (fun s => .int .i64 (s.2.1.toNat : Int)) (fun s => [rdB b s.1]) (fun _ => b1 = []) (fun _ => gone3) (fun _ => []) rfl rfl rfl Tryz.call179 (fun w hw => readerByte_spec b v1 b1 w (hw.mem (i := 0) rfl) (h1.mono (hw.ofb 0 rfl))) rfl (fun _ hn => g_panic (q_panic fun w' hw' => .inr ⟨(), by rw [hn]; rfl, rfl, hw'.res.nil⟩)) ?_
  rintro ⟨v2, a, b2⟩ ⟨rfl, ht2⟩
  dsimp only at ht2 ⊢
  have h2 := ht2 _ h1
  refine w_val (v_fieldAddrB (o := 1) uT109 rfl rfl Tryz.nz3 rfl) rfl <| w_op rfl ?_
  refine x_store1 1 rfl rfl rfl Tryz.hi3 Tryz.cz3 rfl (by first | (simp; done) | (simp [intCells_len]; omega) | exact Nat.zero_lt_succ _) rfl ?_
  refine wsr <| wm rfl rfl <| w_op rfl ?_
  refine x_callP (dst := some 15) (mc := [rdB b v2]) (mr := [_, _]) (σ := Value) (τ := Unit) (fun s => 8 ≤ b2.length ∧ Tail v2 b2 s (b2.drop 8)) (fun s => .int .i64 (numOf (b2.take 8))) (fun s => [rdB b s]) (fun _ => b2.length < 8) (fun _ => gone3) (fun _ => []) rfl rfl rfl Tryz.call186 (fun w hw => readerLong_spec b v2 b2 w (hw.mem (i := 0) rfl) (h2.mono (hw.ofb 0 rfl))) rfl (fun _ hn => g_panic (q_panic fun w' hw' => .inr ⟨(), getOp_short hn, rfl, hw'.res.nil⟩)) ?_
  rintro v3 ⟨h8, ht3⟩
  dsimp only
  refine w_val (v_fieldAddrB (o := 4) uT109 rfl rfl Tryz.nz2 rfl) rfl <| w_op rfl ?_
  refine x_store1 1 rfl rfl rfl Tryz.hi2 Tryz.cz2 rfl (by first | (simp; done) | (simp [intCells_len]; omega) | exact Nat.zero_lt_succ _) rfl ?_
  refine wsr <| w_val (v_loadBA 1 rfl uT109 rfl Tryz.hi109 Tryz.cz109 rfl) rfl <| w_op rfl ?_
  refine x_storeA 2 rfl rfl rfl Tryz.hi109 Tryz.cz109 rfl (by first | (simp [Value.oneCell', opCells]; done) | assumption | exact one_ints _ | exact one_resCells _ _ | exact one_slotC _) ?_
  refine w_nil ?_
  refine e_retQ (q_ret1 rfl (ResV.agg 2 rfl rfl (by rw [isAggD, uT109]; rfl) (Tryz.cz109) Tryz.hi109) ?_)
  exact fun w' hw' => .inl ⟨(v3, ⟨1, a.toNat, 0, 0, numOf (b2.take 8)⟩, b2.drop 8), ⟨getOp_num h8, (ht1.trans ht2).trans ht3⟩, rfl, (hw'.sub (m' := [rdB b v3]) (.cons_cons _ (List.nil_sublist _))).res⟩
 ·have hk1' : ¬ k = 1 := fun h => hk1 (by rw [h]; rfl)
  refine e_skip <| esr <| wm rfl rfl ?_
  refine w_heap (fun _ hw => hw.perm (.swap _ _ _)) ?_
  refine w_op rfl ?_
  refine x_callP (dst := some 19) (mc := [rdB b v1]) (mr := [_, _]) (σ := Value × UInt8 × List UInt8) (τ := Unit) (fun s => b1 = s.2.1 :: s.2.2 ∧ Tail v1 b1 s.1 s.2.2) (fun s => .int .i64 (s.2.1.toNat : Int)) (fun s => [rdB b s.1]) (fun _ => b1 = []) (fun _ => gone3) (fun _ => []) rfl rfl rfl Tryz.call179 (fun w hw => readerByte_spec b v1 b1 w (hw.mem (i := 0) rfl) (h1.mono (hw.ofb 0 rfl))) rfl (fun _ hn => g_panic (q_panic fun w' hw' => .inr ⟨(), by rw [hn]; simp [getOp, hk1'], rfl, hw'.res.nil⟩)) ?_
  rintro ⟨v2, x, b2⟩ ⟨rfl, ht2⟩
  dsimp only at ht2 ⊢
  have h2 := ht2 _ h1
  have hx8 := x.toNat_lt
  refine wa rfl rfl <| wsr <| wm rfl rfl ?_
  refine w_val (v_is (v' := .int .i64 ((x.toNat : Int) % 16)) (v_and rfl rfl) (by rw [show (15 : Int) = ((2 ^ 4 - 1 : Nat) : Int) from rfl, and_mask (.inl rfl) (by omega) (by rw [show IntKind.i64.bits = 64 from rfl]; omega) 4 (by decide)]; rfl)) rfl ?_
  refine wm rfl rfl ?_
  refine w_val (v_is (v' := .int .i64 ((x.toNat : Int) / 16)) (v_shr rfl rfl (by omega)) (by rfl)) rfl ?_
  refine wm rfl rfl <| w_op rfl ?_
  refine x_callP (dst := some 25) (mc := [rdB b v2]) (mr := [_, _]) (σ := Value × UInt8 × List UInt8) (τ := Unit) (fun s => b2 = s.2.1 :: s.2.2 ∧ Tail v2 b2 s.1 s.2.2) (fun s => .int .i64 (s.2.1.toNat : Int)) (fun s => [rdB b s.1]) (fun _ => b2 = []) (fun _ => gone3) (fun _ => []) rfl rfl rfl Tryz.call179 (fun w hw => readerByte_spec b v2 b2 w (hw.mem (i := 0) rfl) (h2.mono (hw.ofb 0 rfl))) rfl (fun _ hn => g_panic (q_panic fun w' hw' => .inr ⟨(), by rw [hn]; simp [getOp, hk1'], rfl, hw'.res.nil⟩)) ?_
  rintro ⟨v3, c, b3'⟩ ⟨rfl, ht3⟩
  dsimp only at ht3 ⊢
  refine w_val (v_fieldAddrB (o := 1) uT109 rfl rfl Tryz.nz3 rfl) rfl <| w_op rfl ?_
  refine x_store1 1 rfl rfl rfl Tryz.hi3 Tryz.cz3 rfl (by first | (simp; done) | (simp [intCells_len]; omega) | exact Nat.zero_lt_succ _) rfl ?_
  refine w_val (v_fieldAddrB (o := 2) uT109 rfl rfl Tryz.nz3 rfl) rfl <| w_op rfl ?_
  refine x_store1 1 rfl rfl rfl Tryz.hi3 Tryz.cz3 rfl (by first | (simp; done) | (simp [intCells_len]; omega) | exact Nat.zero_lt_succ _) rfl ?_
  refine w_val (v_fieldAddrB (o := 3) uT109 rfl rfl Tryz.nz3 rfl) rfl <| w_op rfl ?_
  refine x_store1 1 rfl rfl rfl Tryz.hi3 Tryz.cz3 rfl (by first | (simp; done) | (simp [intCells_len]; omega) | exact Nat.zero_lt_succ _) rfl ?_
  refine wsr <| w_val (v_loadBA 1 rfl uT109 rfl Tryz.hi109 Tryz.cz109 rfl) rfl <| w_op rfl ?_
  refine x_storeA 2 rfl rfl rfl Tryz.hi109 Tryz.cz109 rfl (by first | (simp [Value.oneCell', opCells]; done) | assumption | exact one_ints _ | exact one_resCells _ _ | exact one_slotC _) ?_
  refine w_nil ?_
  refine e_retQ (q_ret1 rfl (ResV.agg 2 rfl rfl (by rw [isAggD, uT109]; rfl) (Tryz.cz109) Tryz.hi109) ?_)
  exact fun w' hw' => .inl ⟨(v3, ⟨k.toNat, (x.toNat : Int) % 16, (x.toNat : Int) / 16, c.toNat, 0⟩, b3'), ⟨by simp [getOp, hk1'], (ht1.trans ht2).trans ht3⟩, rfl, (hw'.sub (m' := [rdB b v3]) (.cons_cons _ (List.nil_sublist _))).res⟩
end Go.SL
end
section
open Go Go.Proofs Go.SL
set_option maxRecDepth 100000
namespace Go.SL
theorem readerRound_spec (b : Nat) (v : Value) (bs : List UInt8) (w : World) (hb : (rdB b v).holds w) (h : IsBytes (ofb w b) v bs) :
  Calls Tryz.prog 170 #[.pointer (some ⟨b, 0, none⟩)] w fun e w' =>
   (∃ s : Value × Value × RoundL × List UInt8 × (Nat → Prop), (getRound bs = some (s.2.2.1, s.2.2.2.1) ∧ Tail v bs s.1 s.2.2.2.1) ∧ e = .returned s.2.1 ∧ Res w [rdB b v] [rdB b s.1, Keep s.2.2.2.2 (fun c => IsRound c s.2.1 s.2.2.1)] w') ∨
   (∃ _u : Unit, getRound bs = none ∧ e = .panicked [{ v := gone3, recovered := false }] ∧ Res w [rdB b v] [] w') := by
 rw [ofb_eq w b 237 [v]] at h
 refine enter (mc := [rdB b v]) (N := 25) Tryz.func170 rfl rfl rfl ?_ ?_ ?_
 ·intro c hc; simp only [List.mem_singleton] at hc; subst hc; exact hb
 ·simp
 refine esr <| wa rfl rfl <| wsr <| wa rfl rfl <| w_nil <| e_seq <| esr <| wm rfl rfl <| w_op rfl ?_
 refine x_callP (dst := some 6) (mc := [rdB b v]) (mr := []) (σ := Value × UInt8 × List UInt8) (τ := Unit) (fun s => bs = s.2.1 :: s.2.2 ∧ Tail v bs s.1 s.2.2) (fun s => .int .i64 (s.2.1.toNat : Int)) (fun s => [rdB b s.1]) (fun _ => bs = []) (fun _ => gone3) (fun _ => []) rfl rfl rfl Tryz.call179 (fun w hw => readerByte_spec b v bs w (hw.mem (i := 0) rfl) (h.mono (hw.ofb 0 rfl))) rfl (fun _ hn => g_panic (q_panic fun w' hw' => .inr ⟨(), by rw [hn]; rfl, rfl, hw'.res.nil⟩)) ?_
 rintro ⟨v1, nb, b1⟩ ⟨rfl, ht1⟩
 dsimp only at ht1 ⊢
 have hn8 := nb.toNat_lt
 have h1 := ht1 _ h
 generalize hN : nb.toNat = N at *
 have hgr : getRound (nb :: b1) = getDeeds N b1 := by simp only [getRound, hN]
 rw [hgr]
 refine wm rfl rfl <| w_nil ?_
 refine g_heap (m' := [rdB b v1, Own (.slice none 0 0) 80 1 0 [], Keep (feet []) (Deeds [] [])]) (fun _ hw => ((hw.keep0 (Deeds [] []) Deeds.nil).ownNil 80 1).perm ?_) ?_
 ·exact (List.perm_append_comm (l₁ := [_, _]) (l₂ := [_]))
 refine e_block ?_
 refine e_loopH (σ := Nat × Value × Value × List Value × RoundL × List UInt8 × (Nat → Prop)) [0, 6] (.cons rfl (.cons rfl .nil)) (fun x => [(3, x.2.2.1), (7, .int .i64 x.1)]) (fun x => [rdB b x.2.1, Own x.2.2.1 80 1 x.1 x.2.2.2.1, Keep x.2.2.2.2.2.2 (Deeds x.2.2.2.1 x.2.2.2.2.1)]) (fun x => x.1 ≤ N ∧ x.2.2.2.2.1.length = x.1 ∧ Tail v1 b1 x.2.1 x.2.2.2.2.2.1 ∧ getDeeds N b1 = (getDeeds (N - x.1) x.2.2.2.2.2.1).map (fun p => (x.2.2.2.2.1 ++ p.1, p.2))) (fun x => N - x.1) (0, v1, .slice none 0 0, [], [], b1, feet []) ⟨by dsimp only; omega, rfl, Tail.refl _ _, by dsimp only; cases getDeeds N b1 <;> simp⟩ (by repeat first | exact .nil _ | refine .cons rfl ?_) (fun _ hw => hw) ?_
 rintro ⟨k, v2, vo, vs, r, rest, F⟩ ⟨hk, hrl, ht2, hrel⟩
 dsimp only at hk hrl ht2 hrel ⊢
 have h2 := ht2 _ h1
 refine esr <| w_val (v_lss rfl rfl) rfl <| w_nil <| e_seq ?_
 refine e_condD rfl (fun hlt => ?_) (fun hlt => ?_)
 ·have hlt' : k < N := by omega
  refine e_skip <| e_seq <| e_block <| esr <| wa rfl rfl <| w_nil <| e_seq <| esr <| wm rfl rfl <| w_op rfl ?_
  refine x_callP (dst := some 10) (mc := [rdB b v2]) (mr := [_, _]) (σ := Value × UInt8 × List UInt8) (τ := Unit) (fun s => rest = s.2.1 :: s.2.2 ∧ Tail v2 rest s.1 s.2.2) (fun s => .int .i64 (s.2.1.toNat : Int)) (fun s => [rdB b s.1]) (fun _ => rest = []) (fun _ => gone3) (fun _ => []) rfl rfl rfl Tryz.call179 (fun w hw => readerByte_spec b v2 rest w (hw.mem (i := 0) rfl) (h2.mono (hw.ofb 0 rfl))) rfl (fun _ hn => g_panic (q_panic fun w' hw' => .inr ⟨(), by rw [hrel, hn, getDeeds_none hlt' rfl]; rfl, rfl, hw'.res.nil⟩)) ?_
  rintro ⟨v3, mb, b3⟩ ⟨rfl, ht3⟩
  dsimp only at ht3 ⊢
  have hm8 := mb.toNat_lt
  have h3 := ht3 _ h2
  generalize hM : mb.toNat = M at *
  have hgd : getDeed (mb :: b3) = getOps M b3 := by simp only [getDeed, hM]
  refine wm rfl rfl <| w_nil ?_
  refine g_heap (m' := [rdB b v3, Own (.slice none 0 0) 109 5 0 [], Own vo 80 1 k vs, Keep F (Deeds vs r)]) (fun _ hw => (hw.ownNil 109 5).perm (.swap _ _ _)) ?_
  refine e_block ?_
  refine e_loopH (σ := Nat × Value × Value × DeedL × List UInt8) [0, 3, 6, 7, 10] (.cons rfl (.cons rfl (.cons rfl (.cons rfl (.cons rfl .nil))))) (fun x => [(4, x.2.2.1), (11, .int .i64 x.1)]) (fun x => [rdB b x.2.1, Own x.2.2.1 109 5 x.1 (deedCells x.2.2.2.1), Own vo 80 1 k vs, Keep F (Deeds vs r)]) (fun x => x.1 ≤ M ∧ x.2.2.2.1.length = x.1 ∧ Tail v3 b3 x.2.1 x.2.2.2.2 ∧ getOps M b3 = (getOps (M - x.1) x.2.2.2.2).map (fun p => (x.2.2.2.1 ++ p.1, p.2))) (fun x => M - x.1) (0, v3, .slice none 0 0, [], b3) ⟨by dsimp only; omega, rfl, Tail.refl _ _, by dsimp only; cases getOps M b3 <;> simp⟩ (by repeat first | exact .nil _ | refine .cons rfl ?_) (fun _ hw => hw) ?_
  rintro ⟨j, v4, vd, d, rest2⟩ ⟨hj, hdl, ht4, hrel2⟩
  dsimp only at hj hdl ht4 hrel2 ⊢
  have h4 := ht4 _ h3
  refine esr <| w_val (v_lss rfl rfl) rfl <| w_nil <| e_seq ?_
  refine e_condD rfl (fun hlt2 => ?_) (fun hlt2 => ?_)
  ·have hlt2' : j < M := by omega
   refine e_skip <| e_seq <| e_block <| e_region <| wm rfl rfl <| wm rfl rfl <| w_op rfl ?_
   refine x_callP (dst := some 15) (mc := [rdB b v4]) (mr := [_, _, _]) (σ := Value × OpL × List UInt8) (τ := Unit) (fun s => getOp rest2 = some (s.2.1, s.2.2) ∧ Tail v4 rest2 s.1 s.2.2) (fun s => opV s.2.1) (fun s => [rdB b s.1]) (fun _ => getOp rest2 = none) (fun _ => gone3) (fun _ => []) rfl rfl rfl Tryz.call180 (fun w hw => readerOp_spec b v4 rest2 w (hw.mem (i := 0) rfl) (h4.mono (hw.ofb 0 rfl))) rfl (fun _ hn => g_panic (q_panic fun w' hw' => .inr ⟨(), by rw [hrel, getDeeds_none hlt' (by rw [hgd, hrel2, getOps_none hlt2' hn]; rfl)]; rfl, rfl, hw'.res.nil⟩)) ?_
   rintro ⟨v5, o, b5⟩ ⟨hgo, ht5⟩
   dsimp only at hgo ht5 ⊢
   refine w_op rfl ?_
   refine x_buildSlice _ (opCells o) rfl (run_buildSlice uT80 Tryz.hi109 Tryz.cz109 Tryz.zeroValue109 rfl (by kernel_rfl)) rfl (fun b16 => ?_)
   refine w_op rfl ?_
   refine x_appendI (z := .agg #[.int .i64 0, .int .i64 0, .int .i64 0, .int .i64 0, .int .i64 0]) (n := j) (xs := deedCells d) (size := 5) (bytes := 40) (k := 1) (news := opCells o) 2 rfl rfl rfl uT80 (by kernel_rfl) rfl (by decide) (fun w hw => blk_rds (hw.hold _ (List.mem_cons_self ..)) rfl) (by intro u hu; simp only [opCells, List.mem_cons, List.not_mem_nil, or_false] at hu; rcases hu with rfl | rfl | rfl | rfl | rfl <;> rfl) (by omega) (by simp only [maxLen]; omega) rfl (fun vd' => ?_)
   refine wa rfl rfl <| w_nil <| e_blk <| e_region ?_
   refine w_val (v_add rfl rfl (by omega)) rfl ?_
   refine wm rfl rfl <| w_nil ?_
   refine e_round ((j + 1, v5, vd', d ++ [o], b5)) (⟨by dsimp only; omega, by simp [hdl], ht4.trans ht5, by rw [hrel2]; exact getOps_step hlt2' hgo d⟩) (by dsimp only; omega) (by repeat first | exact .nil _ | refine .cons rfl ?_) (fun _ hw => ?_)
   dsimp only
   rw [deedCells_snoc]
   exact hw.sub (.cons _ (List.Sublist.refl _))
  ·obtain rfl : j = M := by omega
   have hgd2 : getDeed (mb :: b3) = some (d, rest2) := by rw [hgd, hrel2, Nat.sub_self]; simp [getOps]
   refine g_shape 1 rfl fun A1 k1 hv1 hk1 => ?_
   subst hv1
   refine e_exit rfl <| e_region <| wm rfl rfl <| wm rfl rfl <| w_op rfl ?_
   refine x_buildSlice _ ([.slice A1 j k1]) rfl (run_buildSlice uT37 Tryz.hi80 Tryz.cz80 Tryz.zeroValue80 rfl (by kernel_rfl)) rfl (fun b21 => ?_)
   refine w_op rfl ?_
   refine x_appendI (z := .slice none 0 0) (n := k) (xs := vs) (size := 1) (bytes := 24) (k := 1) (news := [.slice A1 j k1]) 3 rfl rfl rfl uT37 (by kernel_rfl) rfl (by decide) (fun w hw => blk_rds (hw.hold _ (List.mem_cons_self ..)) rfl) (by intro u hu; simp only [List.mem_singleton] at hu; subst hu; rfl) (by omega) (by simp only [maxLen]; omega) rfl (fun vo' => ?_)
   refine wa rfl rfl <| w_nil <| e_blk <| e_region ?_
   refine w_val (v_add rfl rfl (by omega)) rfl ?_
   refine wm rfl rfl <| w_nil ?_
   refine e_round ((k + 1, v4, vo', vs ++ [.slice A1 j k1], r ++ [d], rest2, feet [Own (.slice A1 j k1) 109 5 j (deedCells d), Keep F (Deeds vs r)])) (⟨by dsimp only; omega, by simp [hrl], ht2.trans (ht3.trans ht4), by rw [hrel]; exact getDeeds_step hlt' hgd2 r⟩) (by dsimp only; omega) (by repeat first | exact .nil _ | refine .cons rfl ?_) (fun _ hw => ?_)
   dsimp only
   have h5 : St w (feet [rdB b v]) (Own (.slice A1 j k1) 109 5 j (deedCells d) :: Keep F (Deeds vs r) :: [rdB b v4, Own vo' 80 1 (k + 1) (vs ++ [.slice A1 j k1])]) _ := (hw.sub (.cons _ (List.Sublist.refl _))).perm (m' := [Own (.slice A1 j k1) 109 5 j (deedCells d), Keep F (Deeds vs r), rdB b v4, Own vo' 80 1 (k + 1) (vs ++ [.slice A1 j k1])]) (by
    refine (List.Perm.swap _ _ _).trans (.cons _ ?_)
    exact List.perm_append_comm (l₁ := [_, _]) (l₂ := [_]))
   exact (h5.deedIn hdl.symm).perm (List.perm_append_comm (l₁ := [_]) (l₂ := [_, _]))
 ·obtain rfl : k = N := by omega
  have hfin : getDeeds k b1 = some (r, rest) := by rw [hrel, Nat.sub_self]; simp [getDeeds]
  refine e_exit rfl <| esr <| wm rfl rfl <| wa rfl rfl <| w_nil ?_
  refine e_retQ (q_ret1 rfl (.tmp rfl) ?_)
  refine fun w' hw' => .inl ⟨(v2, vo, r, rest, feet [Own vo 80 1 k vs, Keep F (Deeds vs r)]), ⟨hfin, ht1.trans ht2⟩, rfl, ?_⟩
  have h5 := (hw'.perm (m' := [Own vo 80 1 k vs, Keep F (Deeds vs r), rdB b v2]) (List.perm_append_comm (l₁ := [_]) (l₂ := [_, _]))).roundIn hrl.symm
  exact (h5.perm (.swap _ _ _)).res
end Go.SL
end
