/- Ytebdkaadbakhlaa: part D2 of this seat's own texts. -/
import Derived.Test.YtebdkaadbakhlaaD1
import Derived.Test.YtebdkaadbakhlaaRow
set_option linter.unusedVariables false
set_option linter.unusedSimpArgs false
open Go Go.Proofs Go.SL
set_option maxRecDepth 100000
namespace Go.SL
theorem opIn_n {o : OpL} (h : OpIn o) : -9223372036854775808 ≤ o.n ∧ o.n ≤ 9223372036854775807 := by
  have := h.n
  unfold In64 at this
  exact this
theorem okOp_of {o : OpL} (hf : opFaultL o = 0) (hi : OpIn o) : OkOp o := by
  obtain ⟨h1, h2, ha, hb, hc⟩ := fault_rng hf
  have hn := opIn_n hi
  have hk : o.kind = 1 ∨ o.kind = 8 ∨ o.kind = 2 ∨ o.kind = 7 ∨ o.kind = 9 ∨ (o.kind = 3 ∨ o.kind = 4 ∨ o.kind = 5 ∨ o.kind = 6) := by omega
  have hz : o.kind ≠ 1 → o.n = 0 := by
    intro hk1
    unfold opFaultL at hf
    rw [if_neg (by omega), if_neg ha, if_neg hb, if_neg hc] at hf
    by_cases h : o.n = 0
    · exact h
    · rw [if_pos ⟨hk1, h⟩] at hf; omega
  have hp : ∀ x most : Int, ¬ badL x most ≠ 0 → most ≤ 14 → 0 ≤ most → 0 ≤ x ∧ x ≤ 14 ∧ (most = 0 → x = 0) := by
    intro x most h h14 h0
    simp only [ne_eq, Decidable.not_not] at h
    unfold badL at h
    split at h
    · split at h <;> omega
    · split at h <;> omega
  have hl : ∀ k, 0 ≤ k → k ≤ 9 → ∀ j, (limL k).getD j 0 ≤ 14 ∧ 0 ≤ (limL k).getD j 0 := by
    intro k h0 h9 j
    have : k = 0 ∨ k = 1 ∨ k = 2 ∨ k = 3 ∨ k = 4 ∨ k = 5 ∨ k = 6 ∨ k = 7 ∨ k = 8 ∨ k = 9 := by omega
    rcases this with rfl | rfl | rfl | rfl | rfl | rfl | rfl | rfl | rfl | rfl <;> (rcases j with _ | _ | _ | j <;> simp [limL])
  have hA := hp _ _ ha (hl _ (by omega) (by omega) 0).1 (hl _ (by omega) (by omega) 0).2
  have hB := hp _ _ hb (hl _ (by omega) (by omega) 1).1 (hl _ (by omega) (by omega) 1).2
  have hC := hp _ _ hc (hl _ (by omega) (by omega) 2).1 (hl _ (by omega) (by omega) 2).2
  by_cases hk1 : o.kind = 1
  · have e1 : (limL o.kind).getD 1 0 = 0 := by rw [hk1]; rfl
    have e2 : (limL o.kind).getD 2 0 = 0 := by rw [hk1]; rfl
    exact .inl ⟨hk1, by omega, by omega, hB.2.2 e1, hC.2.2 e2, hn.1, hn.2⟩
  · exact .inr ⟨by omega, by omega, by omega, by omega, by omega, by omega, by omega, by omega, hz hk1⟩
theorem okRound_of {r : RoundL} (hf : roundFaultL r = 0) (hi : ∀ d ∈ r, ∀ o ∈ d, OpIn o) : OkRound r := by
  obtain ⟨h8, hd⟩ := roundFault_ok hf
  refine ⟨h8, fun d hdr => ?_⟩
  obtain ⟨h14, ho⟩ := checked (hd d hdr)
  refine ⟨h14, fun o hod => ?_⟩
  obtain ⟨k, hk, rfl⟩ := List.mem_iff_getElem.1 hod
  exact okOp_of (ho k hk).1 (hi d hdr _ (List.getElem_mem _))
def encodeL (r : RoundL) : List UInt8 × Int := if roundFaultL r ≠ 0 then ([], roundFaultL r) else (encL r, 0)
theorem encDeeds_at {r : RoundL} {k : Nat} (h : k < r.length) : encDeeds (r.take (k + 1)) = encDeeds (r.take k) ++ encDeed r[k] := by
  rw [List.take_succ_eq_append_getElem h]; simp only [encDeeds, List.flatMap_append, List.flatMap_singleton]
theorem encOps_at {d : DeedL} {k : Nat} (h : k < d.length) : encOps (d.take (k + 1)) = encOps (d.take k) ++ encOp d[k] := by
  rw [List.take_succ_eq_append_getElem h]; simp only [encOps, List.flatMap_append, List.flatMap_singleton]
theorem encOps_take {d : DeedL} (k : Nat) (h : d.length ≤ 14) : (encOps (d.take k)).length ≤ 140 := by
  have h1 := encOps_len (d := d.take k)
  have h2 : (d.take k).length ≤ d.length := by simp; omega
  omega
theorem encDeeds_take {r : RoundL} (k : Nat) (h : OkRound r) : (encDeeds (r.take k)).length ≤ 1128 := by
  have h1 := encDeeds_len (r := r.take k) (fun d hd => (h.2 d (List.mem_of_mem_take hd)).1)
  have h2 : (r.take k).length ≤ r.length := by simp; omega
  have := h.1
  omega
theorem Encode_spec (v : Value) (r : RoundL) (w : World) (h : IsRound w.cell? v r) (hin : ∀ d ∈ r, ∀ o ∈ d, OpIn o) : Calls Try.prog 29 #[v] w
    fun e w' => ∃ sl, True ∧ e = .returned (.tuple #[sl, .int .i64 (encodeL r).2]) ∧ Res w [] [Own sl 5 1 (encodeL r).1.length (byteCells (encodeL r).1)] w' := by
  have hr := h
  rw [← off_none w] at h hr
  obtain ⟨A, kp, rfl, hle, hc⟩ := h.form
  refine enter0 (N := 68) Try.func29 rfl rfl rfl ?_
  refine e_seq ?_
  refine e_region ?_
  refine w_val (v_assign rfl) rfl ?_
  refine w_val (v_assign rfl) rfl ?_
  refine w_nil ?_
  refine e_seq ?_
  refine e_seq ?_
  refine e_region ?_
  refine w_val (v_move rfl) rfl ?_
  refine w_op rfl ?_
  refine x_call0 (v := .int .i64 (roundFaultL r)) rfl rfl rfl Try.call49 rfl (fun w hw => codeRound_spec _ r w (hr.mono hw.off)) ?_
  refine w_val (v_assign rfl) rfl ?_
  refine w_nil ?_
  refine e_seq ?_
  refine e_region ?_
  refine w_val (v_move rfl) rfl ?_
  refine w_val (v_neq rfl rfl) rfl ?_
  refine w_nil ?_
  refine e_condD rfl (fun hf => ?_) (fun hf => ?_)
  · refine e_seq ?_
    refine e_region ?_
    refine w_val (v_move rfl) rfl ?_
    refine w_val (v_assign rfl) rfl ?_
    refine w_val (v_assign rfl) rfl ?_
    refine w_nil ?_
    refine e_retQ (q_ret2 rfl (.tmp rfl) (.tmp rfl) ?_)
    refine fun w' hw' => ⟨.slice none 0 0, trivial, by rw [encodeL, if_pos hf], ?_⟩
    rw [encodeL, if_pos hf]
    exact (hw'.ownNil _ _).res
  · have hf0 : roundFaultL r = 0 := by omega
    have hok := okRound_of hf0 hin
    have h8 := hok.1
    have hE : encodeL r = (encL r, 0) := by rw [encodeL, if_neg (by omega)]
    rw [hE]
    refine e_skip ?_
    refine e_seq ?_
    refine e_region ?_
    refine w_op rfl ?_
    refine x_alloc (z := .slice none 0 0) (by intro w; exact Try.zeroValue95 w) rfl (fun b5 => ?_)
    refine w_nil ?_
    refine e_seq ?_
    refine e_region ?_
    refine w_heap (fun _ hw => (hw.ownNil 5 1).perm (.swap _ _ _)) ?_
    refine w_val (v_move rfl) rfl ?_
    refine w_val (v_lenS Try.underlying40 rfl) rfl ?_
    refine w_op rfl ?_
    refine x_call (dst := some 18) (mc := wrH b5 (.slice none 0 0) []) (mr := []) (σ := Value) (fun _ => True) (fun _ => .tuple #[]) (fun v' => wrH b5 v' [ub r.length]) rfl rfl rfl Try.call50 (fun w hw => writerPut_spec b5 _ [] _ w hw.part.1 hw.part.2 (by simp)) rfl (fun v1 _ => ?_)
    refine w_nil ?_
    refine e_seq ?_
    refine e_seq ?_
    refine e_region ?_
    refine w_val (v_move rfl) rfl ?_
    refine w_val (v_lenS Try.underlying40 rfl) rfl ?_
    refine w_val (v_move rfl) rfl ?_
    refine w_nil ?_
    refine e_block ?_
    refine e_loopH (σ := Nat × Value) [0, 5, 19, 20] (.cons rfl (.cons rfl (.cons rfl (.cons rfl .nil)))) (fun x => [(21, .int .i64 x.1)]) (fun x => wrH b5 x.2 (ub r.length :: encDeeds (r.take x.1))) (fun x => x.1 ≤ r.length) (fun x => r.length - x.1) (0, v1) (by dsimp only; omega) (by repeat (first | exact Sub.nil _ | refine Sub.cons rfl ?_)) (fun _ hw => by simpa [encDeeds] using hw) ?_
    rintro ⟨k, v1⟩ hk
    dsimp only at hk
    refine e_seq ?_
    refine e_region ?_
    refine w_val (v_lss rfl rfl) rfl ?_
    refine w_nil ?_
    refine e_seq ?_
    refine e_condD rfl (fun hlt => ?_) (fun hlt => ?_)
    · have hlt' : k < r.length := by omega
      obtain ⟨ad, u, rfl, hcell, hd⟩ := hc k hlt'
      obtain ⟨A2, kp2, rfl, hle2, hc2⟩ := hd.form
      have hdok := hok.2 r[k] (List.getElem_mem _)
      have hdin := hin r[k] (List.getElem_mem _)
      have hpre := encDeeds_take k hok
      have hnext := encDeeds_at hlt'
      generalize encDeeds (r.take k) = pre at *
      generalize hpost : encDeeds (r.take (k + 1)) = post at *
      generalize r[k] = d at *
      refine e_skip ?_
      refine e_seq ?_
      refine e_block ?_
      refine e_seq ?_
      refine e_region ?_
      first | refine w_val (v_indexSB Try.underlying40 Try.hi25 Try.cz25 rfl rfl (by first | omega | decide)) rfl ?_ | refine w_val (v_indexS Try.underlying40 Try.hi25 Try.cz25 rfl rfl (by first | omega | decide)) rfl ?_
      first | refine w_val (v_loadO Try.underlying25 rfl rfl (hcell)) rfl ?_ | refine w_val (v_loadB 0 rfl Try.underlying25 rfl rfl rfl) rfl ?_ | refine w_val (v_loadB 1 rfl Try.underlying25 rfl rfl rfl) rfl ?_ | refine w_val (v_loadB 2 rfl Try.underlying25 rfl rfl rfl) rfl ?_ | refine w_val (v_loadB 3 rfl Try.underlying25 rfl rfl rfl) rfl ?_ | refine w_val (v_loadB 4 rfl Try.underlying25 rfl rfl rfl) rfl ?_ | refine w_val (v_loadB 5 rfl Try.underlying25 rfl rfl rfl) rfl ?_ | refine w_val (v_loadB 6 rfl Try.underlying25 rfl rfl rfl) rfl ?_ | refine w_val (v_loadB 7 rfl Try.underlying25 rfl rfl rfl) rfl ?_
      refine w_val (v_assign rfl) rfl ?_
      refine w_nil ?_
      refine e_seq ?_
      refine e_region ?_
      refine w_val (v_move rfl) rfl ?_
      refine w_val (v_lenS Try.underlying25 rfl) rfl ?_
      refine w_op rfl ?_
      refine x_call (dst := some 27) (mc := wrH b5 v1 (ub r.length :: pre)) (mr := []) (σ := Value) (fun _ => True) (fun _ => .tuple #[]) (fun v' => wrH b5 v' (ub r.length :: pre ++ [ub d.length])) rfl rfl rfl Try.call50 (fun w hw => writerPut_spec b5 _ (ub r.length :: pre) _ w hw.part.1 hw.part.2 (by simp; omega)) rfl (fun v2 _ => ?_)
      refine w_nil ?_
      refine e_seq ?_
      refine e_region ?_
      refine w_val (v_move rfl) rfl ?_
      refine w_val (v_lenS Try.underlying25 rfl) rfl ?_
      refine w_val (v_move rfl) rfl ?_
      refine w_nil ?_
      refine e_block ?_
      refine e_loopH (σ := Nat × Value) [0, 5, 19, 20, 21, 28, 29] (.cons rfl (.cons rfl (.cons rfl (.cons rfl (.cons rfl (.cons rfl (.cons rfl .nil))))))) (fun x => [(30, .int .i64 x.1)]) (fun x => wrH b5 x.2 (ub r.length :: pre ++ [ub d.length] ++ encOps (d.take x.1))) (fun x => x.1 ≤ d.length) (fun x => d.length - x.1) (0, v2) (by dsimp only; omega) (by repeat (first | exact Sub.nil _ | refine Sub.cons rfl ?_)) (fun _ hw => by simpa [encOps] using hw) ?_
      rintro ⟨j, v2⟩ hj
      dsimp only at hj
      refine e_seq ?_
      refine e_region ?_
      refine w_val (v_lss rfl rfl) rfl ?_
      refine w_nil ?_
      refine e_seq ?_
      refine e_condD rfl (fun hlt2 => ?_) (fun hlt2 => ?_)
      · have hlt2' : j < d.length := by omega
        obtain ⟨ad2, rfl, hop⟩ := IsDeed.cells hc2 hlt2'
        have hoOk := hdok.2 d[j] (List.getElem_mem _)
        have hoin := opIn_n (hdin d[j] (List.getElem_mem _))
        have hpre2 := encOps_take j hdok.1
        have hnext2 := encOps_at hlt2'
        generalize encOps (d.take j) = pre2 at *
        generalize hpost2 : encOps (d.take (j + 1)) = post2 at *
        generalize d[j] = o at *
        generalize hbs : ub r.length :: pre ++ [ub d.length] ++ pre2 = bs
        have hbl : bs.length ≤ 2000 := by rw [← hbs]; simp; omega
        refine e_skip ?_
        refine e_seq ?_
        refine e_block ?_
        refine e_seq ?_
        refine e_region ?_
        first | refine w_val (v_indexSB Try.underlying25 Try.hi36 Try.cz36 rfl rfl (by first | omega | decide)) rfl ?_ | refine w_val (v_indexS Try.underlying25 Try.hi36 Try.cz36 rfl rfl (by first | omega | decide)) rfl ?_
        first | refine w_val (v_loadON Try.underlying36 rfl Try.hi36 rfl (hop) Try.cz36) rfl ?_ | refine w_val (v_loadBA 0 rfl Try.underlying36 rfl Try.hi36 Try.cz36 rfl) rfl ?_ | refine w_val (v_loadBA 1 rfl Try.underlying36 rfl Try.hi36 Try.cz36 rfl) rfl ?_ | refine w_val (v_loadBA 2 rfl Try.underlying36 rfl Try.hi36 Try.cz36 rfl) rfl ?_ | refine w_val (v_loadBA 3 rfl Try.underlying36 rfl Try.hi36 Try.cz36 rfl) rfl ?_ | refine w_val (v_loadBA 4 rfl Try.underlying36 rfl Try.hi36 Try.cz36 rfl) rfl ?_ | refine w_val (v_loadBA 5 rfl Try.underlying36 rfl Try.hi36 Try.cz36 rfl) rfl ?_ | refine w_val (v_loadBA 6 rfl Try.underlying36 rfl Try.hi36 Try.cz36 rfl) rfl ?_ | refine w_val (v_loadBA 7 rfl Try.underlying36 rfl Try.hi36 Try.cz36 rfl) rfl ?_ | refine w_val (v_loadBN 0 rfl Try.underlying36 rfl Try.hi36 Try.cz36 rfl rfl rfl) rfl ?_ | refine w_val (v_loadBN 1 rfl Try.underlying36 rfl Try.hi36 Try.cz36 rfl rfl rfl) rfl ?_ | refine w_val (v_loadBN 2 rfl Try.underlying36 rfl Try.hi36 Try.cz36 rfl rfl rfl) rfl ?_ | refine w_val (v_loadBN 3 rfl Try.underlying36 rfl Try.hi36 Try.cz36 rfl rfl rfl) rfl ?_ | refine w_val (v_loadBN 4 rfl Try.underlying36 rfl Try.hi36 Try.cz36 rfl rfl rfl) rfl ?_ | refine w_val (v_loadBN 5 rfl Try.underlying36 rfl Try.hi36 Try.cz36 rfl rfl rfl) rfl ?_ | refine w_val (v_loadBN 6 rfl Try.underlying36 rfl Try.hi36 Try.cz36 rfl rfl rfl) rfl ?_ | refine w_val (v_loadBN 7 rfl Try.underlying36 rfl Try.hi36 Try.cz36 rfl rfl rfl) rfl ?_
        refine w_op rfl ?_
        refine x_alloc (z := .agg #[.int .i64 0, .int .i64 0, .int .i64 0, .int .i64 0, .int .i64 0]) (by intro w; exact Try.zeroValue36 w) rfl (fun b9 => ?_)
        refine w_op rfl ?_
        first | refine x_storeA 0 rfl rfl rfl Try.hi36 Try.cz36 rfl (by first | (simp [Value.oneCell', opCells]; done) | assumption | exact one_ints _ | exact one_resCells _ _) ?_ | refine x_storeA 1 rfl rfl rfl Try.hi36 Try.cz36 rfl (by first | (simp [Value.oneCell', opCells]; done) | assumption | exact one_ints _ | exact one_resCells _ _) ?_ | refine x_storeA 2 rfl rfl rfl Try.hi36 Try.cz36 rfl (by first | (simp [Value.oneCell', opCells]; done) | assumption | exact one_ints _ | exact one_resCells _ _) ?_ | refine x_storeA 3 rfl rfl rfl Try.hi36 Try.cz36 rfl (by first | (simp [Value.oneCell', opCells]; done) | assumption | exact one_ints _ | exact one_resCells _ _) ?_ | refine x_storeA 4 rfl rfl rfl Try.hi36 Try.cz36 rfl (by first | (simp [Value.oneCell', opCells]; done) | assumption | exact one_ints _ | exact one_resCells _ _) ?_ | refine x_storeA 5 rfl rfl rfl Try.hi36 Try.cz36 rfl (by first | (simp [Value.oneCell', opCells]; done) | assumption | exact one_ints _ | exact one_resCells _ _) ?_ | refine x_storeA 6 rfl rfl rfl Try.hi36 Try.cz36 rfl (by first | (simp [Value.oneCell', opCells]; done) | assumption | exact one_ints _ | exact one_resCells _ _) ?_ | refine x_storeA 7 rfl rfl rfl Try.hi36 Try.cz36 rfl (by first | (simp [Value.oneCell', opCells]; done) | assumption | exact one_ints _ | exact one_resCells _ _) ?_
        refine w_nil ?_
        refine e_seq ?_
        refine e_region ?_
        refine w_heap (fun _ hw => hw.perm (List.perm_append_comm (l₁ := [_]) (l₂ := wrH b5 v2 bs))) ?_
        first | refine w_val (v_fieldAddrB (o := 0) Try.underlying36 rfl rfl Try.nz3 rfl) rfl ?_ | refine w_val (v_fieldAddr (o := 0) Try.underlying36 rfl rfl Try.nz3 rfl) rfl ?_
        first | refine w_val (v_loadO Try.underlying3 rfl rfl ((hop) _ _ rfl)) rfl ?_ | refine w_val (v_loadB 0 rfl Try.underlying3 rfl rfl rfl) rfl ?_ | refine w_val (v_loadB 1 rfl Try.underlying3 rfl rfl rfl) rfl ?_ | refine w_val (v_loadB 2 rfl Try.underlying3 rfl rfl rfl) rfl ?_ | refine w_val (v_loadB 3 rfl Try.underlying3 rfl rfl rfl) rfl ?_ | refine w_val (v_loadB 4 rfl Try.underlying3 rfl rfl rfl) rfl ?_ | refine w_val (v_loadB 5 rfl Try.underlying3 rfl rfl rfl) rfl ?_ | refine w_val (v_loadB 6 rfl Try.underlying3 rfl rfl rfl) rfl ?_ | refine w_val (v_loadB 7 rfl Try.underlying3 rfl rfl rfl) rfl ?_
        refine w_op rfl ?_
        refine x_call (dst := some 36) (mc := wrH b5 v2 bs) (mr := [.blk b9 36 (opCells o)]) (σ := Value) (fun _ => True) (fun _ => .tuple #[]) (fun v' => wrH b5 v' (bs ++ [ub o.kind])) rfl rfl rfl Try.call50 (fun w hw => writerPut_spec b5 _ bs _ w hw.part.1 hw.part.2 (by omega)) rfl (fun v3 _ => ?_)
        refine w_nil ?_
        refine e_seq ?_
        refine e_seq ?_
        refine e_region ?_
        first | refine w_val (v_fieldAddrB (o := 0) Try.underlying36 rfl rfl Try.nz3 rfl) rfl ?_ | refine w_val (v_fieldAddr (o := 0) Try.underlying36 rfl rfl Try.nz3 rfl) rfl ?_
        first | refine w_val (v_loadO Try.underlying3 rfl rfl ((hop) _ _ rfl)) rfl ?_ | refine w_val (v_loadB 0 rfl Try.underlying3 rfl rfl rfl) rfl ?_ | refine w_val (v_loadB 1 rfl Try.underlying3 rfl rfl rfl) rfl ?_ | refine w_val (v_loadB 2 rfl Try.underlying3 rfl rfl rfl) rfl ?_ | refine w_val (v_loadB 3 rfl Try.underlying3 rfl rfl rfl) rfl ?_ | refine w_val (v_loadB 4 rfl Try.underlying3 rfl rfl rfl) rfl ?_ | refine w_val (v_loadB 5 rfl Try.underlying3 rfl rfl rfl) rfl ?_ | refine w_val (v_loadB 6 rfl Try.underlying3 rfl rfl rfl) rfl ?_ | refine w_val (v_loadB 7 rfl Try.underlying3 rfl rfl rfl) rfl ?_
        refine w_val (v_eql rfl rfl) rfl ?_
        refine w_nil ?_
        refine e_condD rfl (fun hk1 => ?_) (fun hk1 => ?_)
        · refine e_seq ?_
          refine e_region ?_
          first | refine w_val (v_fieldAddrB (o := 1) Try.underlying36 rfl rfl Try.nz3 rfl) rfl ?_ | refine w_val (v_fieldAddr (o := 1) Try.underlying36 rfl rfl Try.nz3 rfl) rfl ?_
          first | refine w_val (v_loadO Try.underlying3 rfl rfl ((hop) _ _ rfl)) rfl ?_ | refine w_val (v_loadB 0 rfl Try.underlying3 rfl rfl rfl) rfl ?_ | refine w_val (v_loadB 1 rfl Try.underlying3 rfl rfl rfl) rfl ?_ | refine w_val (v_loadB 2 rfl Try.underlying3 rfl rfl rfl) rfl ?_ | refine w_val (v_loadB 3 rfl Try.underlying3 rfl rfl rfl) rfl ?_ | refine w_val (v_loadB 4 rfl Try.underlying3 rfl rfl rfl) rfl ?_ | refine w_val (v_loadB 5 rfl Try.underlying3 rfl rfl rfl) rfl ?_ | refine w_val (v_loadB 6 rfl Try.underlying3 rfl rfl rfl) rfl ?_ | refine w_val (v_loadB 7 rfl Try.underlying3 rfl rfl rfl) rfl ?_
          refine w_op rfl ?_
          refine x_call (dst := some 42) (mc := wrH b5 v3 (bs ++ [ub o.kind])) (mr := [.blk b9 36 (opCells o)]) (σ := Value) (fun _ => True) (fun _ => .tuple #[]) (fun v' => wrH b5 v' (bs ++ [ub o.kind] ++ [ub o.a])) rfl rfl rfl Try.call50 (fun w hw => writerPut_spec b5 _ _ _ w hw.part.1 hw.part.2 (by simp; omega)) rfl (fun v4 _ => ?_)
          refine w_nil ?_
          refine e_seq ?_
          refine e_region ?_
          first | refine w_val (v_fieldAddrB (o := 4) Try.underlying36 rfl rfl Try.nz2 rfl) rfl ?_ | refine w_val (v_fieldAddr (o := 4) Try.underlying36 rfl rfl Try.nz2 rfl) rfl ?_
          first | refine w_val (v_loadO Try.underlying2 rfl rfl ((hop) _ _ rfl)) rfl ?_ | refine w_val (v_loadB 0 rfl Try.underlying2 rfl rfl rfl) rfl ?_ | refine w_val (v_loadB 1 rfl Try.underlying2 rfl rfl rfl) rfl ?_ | refine w_val (v_loadB 2 rfl Try.underlying2 rfl rfl rfl) rfl ?_ | refine w_val (v_loadB 3 rfl Try.underlying2 rfl rfl rfl) rfl ?_ | refine w_val (v_loadB 4 rfl Try.underlying2 rfl rfl rfl) rfl ?_ | refine w_val (v_loadB 5 rfl Try.underlying2 rfl rfl rfl) rfl ?_ | refine w_val (v_loadB 6 rfl Try.underlying2 rfl rfl rfl) rfl ?_ | refine w_val (v_loadB 7 rfl Try.underlying2 rfl rfl rfl) rfl ?_
          refine w_op rfl ?_
          refine x_call (dst := some 45) (mc := wrH b5 v4 (bs ++ [ub o.kind] ++ [ub o.a])) (mr := [.blk b9 36 (opCells o)]) (σ := Value) (fun _ => True) (fun _ => .tuple #[]) (fun v' => wrH b5 v' (bs ++ [ub o.kind] ++ [ub o.a] ++ long8 o.n)) rfl rfl rfl Try.call51 (fun w hw => writerLong_spec b5 _ _ _ w hw.part.1 hw.part.2 (by simp; omega) hoin.1 hoin.2) rfl (fun v5 _ => ?_)
          refine w_nil ?_
          refine e_exit rfl ?_
          refine e_region ?_
          first | refine w_val (v_add rfl rfl (by omega)) rfl ?_ | refine w_val (v_addw rfl rfl) rfl ?_
          refine w_val (v_move rfl) rfl ?_
          refine w_nil ?_
          have he : bs ++ [ub o.kind] ++ [ub o.a] ++ long8 o.n = ub r.length :: pre ++ [ub d.length] ++ post2 := by
            rw [← hbs, hnext2, encOp, if_pos hk1]; simp
          rw [he]
          exact e_round ((j + 1, v5)) (by dsimp only; omega) (by dsimp only; omega) (by repeat (first | exact Sub.nil _ | refine Sub.cons rfl ?_)) (fun _ hw => by dsimp only; rw [hpost2]; exact hw.sub (List.sublist_append_left _ _))
        · have hob : 0 ≤ o.a ∧ o.a < 16 ∧ 0 ≤ o.b ∧ o.b < 16 := by
            rcases hoOk with h | h
            · exact absurd h.1 hk1
            · omega
          refine e_skip ?_
          refine e_seq ?_
          refine e_region ?_
          first | refine w_val (v_fieldAddrB (o := 1) Try.underlying36 rfl rfl Try.nz3 rfl) rfl ?_ | refine w_val (v_fieldAddr (o := 1) Try.underlying36 rfl rfl Try.nz3 rfl) rfl ?_
          first | refine w_val (v_loadO Try.underlying3 rfl rfl ((hop) _ _ rfl)) rfl ?_ | refine w_val (v_loadB 0 rfl Try.underlying3 rfl rfl rfl) rfl ?_ | refine w_val (v_loadB 1 rfl Try.underlying3 rfl rfl rfl) rfl ?_ | refine w_val (v_loadB 2 rfl Try.underlying3 rfl rfl rfl) rfl ?_ | refine w_val (v_loadB 3 rfl Try.underlying3 rfl rfl rfl) rfl ?_ | refine w_val (v_loadB 4 rfl Try.underlying3 rfl rfl rfl) rfl ?_ | refine w_val (v_loadB 5 rfl Try.underlying3 rfl rfl rfl) rfl ?_ | refine w_val (v_loadB 6 rfl Try.underlying3 rfl rfl rfl) rfl ?_ | refine w_val (v_loadB 7 rfl Try.underlying3 rfl rfl rfl) rfl ?_
          first | refine w_val (v_fieldAddrB (o := 2) Try.underlying36 rfl rfl Try.nz3 rfl) rfl ?_ | refine w_val (v_fieldAddr (o := 2) Try.underlying36 rfl rfl Try.nz3 rfl) rfl ?_
          first | refine w_val (v_loadO Try.underlying3 rfl rfl ((hop) _ _ rfl)) rfl ?_ | refine w_val (v_loadB 0 rfl Try.underlying3 rfl rfl rfl) rfl ?_ | refine w_val (v_loadB 1 rfl Try.underlying3 rfl rfl rfl) rfl ?_ | refine w_val (v_loadB 2 rfl Try.underlying3 rfl rfl rfl) rfl ?_ | refine w_val (v_loadB 3 rfl Try.underlying3 rfl rfl rfl) rfl ?_ | refine w_val (v_loadB 4 rfl Try.underlying3 rfl rfl rfl) rfl ?_ | refine w_val (v_loadB 5 rfl Try.underlying3 rfl rfl rfl) rfl ?_ | refine w_val (v_loadB 6 rfl Try.underlying3 rfl rfl rfl) rfl ?_ | refine w_val (v_loadB 7 rfl Try.underlying3 rfl rfl rfl) rfl ?_
          refine w_val (v_is (v' := .int .i64 (16 * o.b)) (v_shl rfl rfl (by omega)) (by rw [show IntKind.i64.wrap (o.b * 2 ^ min ((4 : Int)).toNat IntKind.i64.bits) = 16 * o.b from by rw [show min ((4 : Int)).toNat IntKind.i64.bits = 4 from rfl, wrap_i64 (by omega) (by omega)]; omega])) rfl ?_
          refine w_val (v_is (v' := .int .i64 (o.a + 16 * o.b)) (v_or rfl rfl) (by rw [or_add (.inl rfl) 4 (by omega) (by omega) (by omega) (by omega) (by omega)])) rfl ?_
          refine w_op rfl ?_
          refine x_call (dst := some 52) (mc := wrH b5 v3 (bs ++ [ub o.kind])) (mr := [.blk b9 36 (opCells o)]) (σ := Value) (fun _ => True) (fun _ => .tuple #[]) (fun v' => wrH b5 v' (bs ++ [ub o.kind] ++ [ub (o.a + 16 * o.b)])) rfl rfl rfl Try.call50 (fun w hw => writerPut_spec b5 _ _ _ w hw.part.1 hw.part.2 (by simp; omega)) rfl (fun v4 _ => ?_)
          refine w_nil ?_
          refine e_region ?_
          first | refine w_val (v_fieldAddrB (o := 3) Try.underlying36 rfl rfl Try.nz3 rfl) rfl ?_ | refine w_val (v_fieldAddr (o := 3) Try.underlying36 rfl rfl Try.nz3 rfl) rfl ?_
          first | refine w_val (v_loadO Try.underlying3 rfl rfl ((hop) _ _ rfl)) rfl ?_ | refine w_val (v_loadB 0 rfl Try.underlying3 rfl rfl rfl) rfl ?_ | refine w_val (v_loadB 1 rfl Try.underlying3 rfl rfl rfl) rfl ?_ | refine w_val (v_loadB 2 rfl Try.underlying3 rfl rfl rfl) rfl ?_ | refine w_val (v_loadB 3 rfl Try.underlying3 rfl rfl rfl) rfl ?_ | refine w_val (v_loadB 4 rfl Try.underlying3 rfl rfl rfl) rfl ?_ | refine w_val (v_loadB 5 rfl Try.underlying3 rfl rfl rfl) rfl ?_ | refine w_val (v_loadB 6 rfl Try.underlying3 rfl rfl rfl) rfl ?_ | refine w_val (v_loadB 7 rfl Try.underlying3 rfl rfl rfl) rfl ?_
          refine w_op rfl ?_
          refine x_call (dst := some 55) (mc := wrH b5 v4 (bs ++ [ub o.kind] ++ [ub (o.a + 16 * o.b)])) (mr := [.blk b9 36 (opCells o)]) (σ := Value) (fun _ => True) (fun _ => .tuple #[]) (fun v' => wrH b5 v' (bs ++ [ub o.kind] ++ [ub (o.a + 16 * o.b)] ++ [ub o.c])) rfl rfl rfl Try.call50 (fun w hw => writerPut_spec b5 _ _ _ w hw.part.1 hw.part.2 (by simp; omega)) rfl (fun v5 _ => ?_)
          refine w_nil ?_
          refine e_blk ?_
          refine e_region ?_
          first | refine w_val (v_add rfl rfl (by omega)) rfl ?_ | refine w_val (v_addw rfl rfl) rfl ?_
          refine w_val (v_move rfl) rfl ?_
          refine w_nil ?_
          have he : bs ++ [ub o.kind] ++ [ub (o.a + 16 * o.b)] ++ [ub o.c] = ub r.length :: pre ++ [ub d.length] ++ post2 := by
            rw [← hbs, hnext2, encOp, if_neg hk1]; simp
          rw [he]
          exact e_round ((j + 1, v5)) (by dsimp only; omega) (by dsimp only; omega) (by repeat (first | exact Sub.nil _ | refine Sub.cons rfl ?_)) (fun _ hw => by dsimp only; rw [hpost2]; exact hw.sub (List.sublist_append_left _ _))
      · obtain rfl : j = d.length := by omega
        have he : ub r.length :: pre ++ [ub d.length] ++ encOps (d.take d.length) = ub r.length :: post := by
          rw [hnext, List.take_length, encDeed]; simp
        rw [he]
        refine e_exit rfl ?_
        refine e_blk ?_
        refine e_region ?_
        first | refine w_val (v_add rfl rfl (by omega)) rfl ?_ | refine w_val (v_addw rfl rfl) rfl ?_
        refine w_val (v_move rfl) rfl ?_
        refine w_nil ?_
        exact e_round ((k + 1, v2)) (by dsimp only; omega) (by dsimp only; omega) (by repeat (first | exact Sub.nil _ | refine Sub.cons rfl ?_)) (fun _ hw => by dsimp only; rw [hpost]; exact hw)
    · obtain rfl : k = r.length := by omega
      have he : ub r.length :: encDeeds (r.take r.length) = encBody r := by rw [List.take_length, encBody]
      rw [he]
      have hbl := encBody_len hok
      dsimp only
      refine g_shape 1 rfl fun A1 k1 hv1 hk1 => ?_
      subst hv1
      refine e_exit rfl ?_
      refine e_seq ?_
      refine e_region ?_
      first | refine w_val (v_loadO Try.underlying95 rfl rfl ((hop) _ _ rfl)) rfl ?_ | refine w_val (v_loadB 0 rfl Try.underlying95 rfl rfl rfl) rfl ?_ | refine w_val (v_loadB 1 rfl Try.underlying95 rfl rfl rfl) rfl ?_ | refine w_val (v_loadB 2 rfl Try.underlying95 rfl rfl rfl) rfl ?_ | refine w_val (v_loadB 3 rfl Try.underlying95 rfl rfl rfl) rfl ?_ | refine w_val (v_loadB 4 rfl Try.underlying95 rfl rfl rfl) rfl ?_ | refine w_val (v_loadB 5 rfl Try.underlying95 rfl rfl rfl) rfl ?_ | refine w_val (v_loadB 6 rfl Try.underlying95 rfl rfl rfl) rfl ?_ | refine w_val (v_loadB 7 rfl Try.underlying95 rfl rfl rfl) rfl ?_
      refine w_val (v_lenS Try.underlying95 rfl) rfl ?_
      refine w_val (v_assign rfl) rfl ?_
      refine w_nil ?_
      refine e_seq ?_
      refine e_region ?_
      refine w_val (v_move rfl) rfl ?_
      refine w_val (v_is (v' := .int .u8 ((ub (encBody r).length).toNat : Int)) (v_conv Try.underlying5 (by rw [Try.underlying3]; rfl) rfl) (by rw [wrap_u8, ub_toNat])) rfl ?_
      refine w_val (v_move rfl) rfl ?_
      refine w_val (v_is (v' := .int .i64 (((encBody r).length : Int) / 256)) (v_shr rfl rfl (by omega)) (by rfl)) rfl ?_
      refine w_val (v_is (v' := .int .u8 ((ub (((encBody r).length : Int) / 256)).toNat : Int)) (v_conv Try.underlying5 (by rw [Try.underlying3]; rfl) rfl) (by rw [wrap_u8, ub_toNat])) rfl ?_
      refine w_op rfl ?_
      refine x_buildSlice _ (byteCells [ub (encBody r).length, ub (((encBody r).length : Int) / 256)]) rfl (run_buildSlice Try.underlying58 Try.hi5 Try.cz5 Try.zeroValue5 rfl (by kernel_rfl)) rfl (fun b65 => ?_)
      first | refine w_val (v_loadO Try.underlying95 rfl rfl ((hop) _ _ rfl)) rfl ?_ | refine w_val (v_loadB 0 rfl Try.underlying95 rfl rfl rfl) rfl ?_ | refine w_val (v_loadB 1 rfl Try.underlying95 rfl rfl rfl) rfl ?_ | refine w_val (v_loadB 2 rfl Try.underlying95 rfl rfl rfl) rfl ?_ | refine w_val (v_loadB 3 rfl Try.underlying95 rfl rfl rfl) rfl ?_ | refine w_val (v_loadB 4 rfl Try.underlying95 rfl rfl rfl) rfl ?_ | refine w_val (v_loadB 5 rfl Try.underlying95 rfl rfl rfl) rfl ?_ | refine w_val (v_loadB 6 rfl Try.underlying95 rfl rfl rfl) rfl ?_ | refine w_val (v_loadB 7 rfl Try.underlying95 rfl rfl rfl) rfl ?_
      refine g_own (size := 1) (n := 2) 0 rfl rfl (by decide) ?_
      refine w_op rfl ?_
      refine x_appendJ (z := .int .u8 0) (n := 2) (xs := byteCells [ub (encBody r).length, ub (((encBody r).length : Int) / 256)]) (size := 1) (bytes := 1) (k := (encBody r).length) (news := byteCells (encBody r)) 0 rfl rfl rfl Try.underlying58 Try.underlying95 (by kernel_rfl) rfl (by decide) (fun w hw => own_rds (hw.mem (i := 2) rfl)) (one_byteCells _) (by omega) (by simp only [maxLen]; omega) rfl (fun v' => ?_)
      refine w_val (v_assign rfl) rfl ?_
      refine w_val (v_assign rfl) rfl ?_
      refine w_nil ?_
      refine e_retQ (q_ret2 rfl (.tmp rfl) (.tmp rfl) ?_)
      refine fun w' hw' => ⟨v', trivial, rfl, ?_⟩
      have e1 : (encL r).length = 2 + (encBody r).length := by rw [encL_len]; omega
      have e2 : byteCells (encL r) = byteCells [ub (encBody r).length, ub (((encBody r).length : Int) / 256)] ++ byteCells (encBody r) := by rw [← byteCells_app]; rfl
      rw [e1, e2]
      simp only [List.set_cons_zero] at hw'
      exact (hw'.sub (m' := [_]) (.cons_cons _ (List.nil_sublist _))).res
end Go.SL
