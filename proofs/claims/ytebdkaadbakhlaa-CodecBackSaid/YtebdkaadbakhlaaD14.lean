/- Ytebdkaadbakhlaa: part D14 of this seat's own texts. -/
import Derived.Test.YtebdkaadbakhlaaD13
set_option linter.unusedVariables false
set_option linter.unusedSimpArgs false
open Go Go.Proofs Go.SL
set_option maxRecDepth 100000
namespace Go.SL
theorem CodecJoins_spec (v vq : Value) (r q : RoundL) (w : World) (h : IsRound w.cell? v r) (hin : ∀ d ∈ r, ∀ o ∈ d, OpIn o) (hl : ∀ d ∈ r, d.length ≤ 4398046511104) (hq : IsRound w.cell? vq q) (hqin : ∀ d ∈ q, ∀ o ∈ d, OpIn o) (hql : ∀ d ∈ q, d.length ≤ 4398046511104) :
    Calls Try.prog 11 #[v, vq] w fun e w' => e = .returned (.bool true) ∧ Res w [] [] w' := by
  have hr := h
  rw [← off_none w] at h hr hq
  obtain ⟨A, kp, rfl, hle, hc⟩ := h.form
  obtain ⟨Aq, kq, rfl, hleq, _⟩ := hq.form
  refine enter0 (N := 85) Try.func11 rfl rfl rfl ?_
  refine e_seq ?_
  refine e_region ?_
  refine w_val (v_assign rfl) rfl ?_
  refine w_nil ?_
  refine e_seq ?_
  refine e_seq ?_
  refine e_region ?_
  refine w_op rfl ?_
  refine x_call0 (v := .bool true) rfl rfl rfl Try.call27 rfl (fun w hw => codecBegun_spec w) ?_
  refine w_val (v_not rfl) rfl ?_
  refine w_nil ?_
  refine e_condF rfl ?_
  refine e_skip ?_
  refine e_seq ?_
  refine e_seq ?_
  by_cases hg : greatL r = true
  · refine e_region ?_
    refine w_val (v_move rfl) rfl ?_
    refine w_op rfl ?_
    refine x_call0 (v := .bool true) rfl rfl rfl Try.call18 rfl (fun w hw => by have := great_spec _ r w (hr.mono hw.off) hl; rwa [hg] at this) ?_
    refine w_val (v_move rfl) rfl ?_
    refine w_skip rfl rfl rfl rfl ?_
    refine w_skip rfl rfl rfl rfl ?_
    first | refine w_val (v_pickT rfl rfl) rfl ?_ | refine w_val (v_pickF rfl rfl) rfl ?_
    refine w_nil ?_
    first | refine e_condDT rfl (by omega) ?_ | refine e_condT rfl ?_
    refine e_seq ?_
    refine e_region ?_
    refine w_val (v_assign rfl) rfl ?_
    refine w_nil ?_
    refine e_retQ (q_ret1 rfl (.tmp rfl) ?_)
    exact fun w' hw' => ⟨rfl, hw'.res.nil⟩
  · have hg' : greatL r = false := by simpa using hg
    refine e_region ?_
    refine w_val (v_move rfl) rfl ?_
    refine w_op rfl ?_
    refine x_call0 (v := .bool false) rfl rfl rfl Try.call18 rfl (fun w hw => by have := great_spec _ r w (hr.mono hw.off) hl; rwa [hg'] at this) ?_
    refine w_val (v_move rfl) rfl ?_
    refine w_want rfl rfl ?_
    refine w_val (v_move rfl) rfl ?_
    refine w_want rfl rfl ?_
    refine w_op rfl ?_
    refine x_call0 (v := .bool (greatL q)) rfl rfl rfl Try.call18 rfl (fun w hw => great_spec _ q w (hq.mono hw.off) hql) ?_
    first | refine w_val (v_pickT rfl rfl) rfl ?_ | refine w_val (v_pickF rfl rfl) rfl ?_
    refine w_nil ?_
    refine e_cond rfl (fun hg2 => ?_) (fun hg2 => ?_)
    · refine e_seq ?_
      refine e_region ?_
      refine w_val (v_assign rfl) rfl ?_
      refine w_nil ?_
      refine e_retQ (q_ret1 rfl (.tmp rfl) ?_)
      exact fun w' hw' => ⟨rfl, hw'.res.nil⟩
    · refine e_skip ?_
      refine e_seq ?_
      refine e_region ?_
      refine w_val (v_move rfl) rfl ?_
      refine w_op rfl ?_
      refine x_call (dst := some 26) (mc := []) (σ := Value) (fun _ => True) (fun sl => .tuple #[sl, .int .i64 (encodeL r).2]) (fun sl => [Own sl 5 1 (encodeL r).1.length (byteCells (encodeL r).1)]) rfl rfl rfl Try.call29 (fun w hw => Encode_spec _ r w (hr.mono hw.off) hin) rfl (fun vx _ => ?_)
      refine g_shape 0 rfl fun A1 k1 hv1 hk1 => ?_
      subst hv1
      refine w_val (v_move rfl) rfl ?_
      refine w_val (v_extract rfl rfl) rfl ?_
      refine w_val (v_extract rfl rfl) rfl ?_
      refine w_val (v_assign rfl) rfl ?_
      refine w_val (v_assign rfl) rfl ?_
      refine w_nil ?_
      refine e_seq ?_
      refine e_region ?_
      refine w_val (v_move rfl) rfl ?_
      refine w_op rfl ?_
      refine x_call (dst := some 31) (mc := []) (σ := Value) (fun _ => True) (fun sl => .tuple #[sl, .int .i64 (encodeL q).2]) (fun sl => [Own sl 5 1 (encodeL q).1.length (byteCells (encodeL q).1)]) rfl rfl rfl Try.call29 (fun w hw => Encode_spec _ q w (hq.mono hw.off) hqin) rfl (fun vy _ => ?_)
      refine g_shape 0 rfl fun A2 k2 hv2 hk2 => ?_
      subst hv2
      rw [encodeL_code, encodeL_code]
      by_cases hf : roundFaultL r ≠ 0
      · refine w_val (v_move rfl) rfl ?_
        refine w_val (v_extract rfl rfl) rfl ?_
        refine w_val (v_extract rfl rfl) rfl ?_
        refine w_val (v_assign rfl) rfl ?_
        refine w_val (v_assign rfl) rfl ?_
        refine w_nil ?_
        refine e_seq ?_
        refine e_seq ?_
        refine e_region ?_
        refine w_val (v_move rfl) rfl ?_
        refine w_val (v_is (v' := .bool true) (v_neq rfl rfl) (by rw [decide_eq_true hf])) rfl ?_
        refine w_val (v_move rfl) rfl ?_
        refine w_skip rfl rfl rfl rfl ?_
        refine w_skip rfl rfl rfl rfl ?_
        first | refine w_val (v_pickT rfl rfl) rfl ?_ | refine w_val (v_pickF rfl rfl) rfl ?_
        refine w_nil ?_
        first | refine e_condDT rfl (by omega) ?_ | refine e_condT rfl ?_
        refine e_seq ?_
        refine e_region ?_
        refine w_val (v_assign rfl) rfl ?_
        refine w_nil ?_
        refine e_retQ (q_ret1 rfl (.tmp rfl) ?_)
        exact fun w' hw' => ⟨rfl, hw'.res.nil⟩
      · by_cases hfq : roundFaultL q ≠ 0
        · refine w_val (v_move rfl) rfl ?_
          refine w_val (v_extract rfl rfl) rfl ?_
          refine w_val (v_extract rfl rfl) rfl ?_
          refine w_val (v_assign rfl) rfl ?_
          refine w_val (v_assign rfl) rfl ?_
          refine w_nil ?_
          refine e_seq ?_
          refine e_seq ?_
          refine e_region ?_
          refine w_val (v_move rfl) rfl ?_
          refine w_val (v_is (v' := .bool false) (v_neq rfl rfl) (by rw [decide_eq_false hf])) rfl ?_
          refine w_val (v_move rfl) rfl ?_
          refine w_want rfl rfl ?_
          refine w_val (v_move rfl) rfl ?_
          refine w_want rfl rfl ?_
          refine w_val (v_is (v' := .bool true) (v_neq rfl rfl) (by rw [decide_eq_true hfq])) rfl ?_
          first | refine w_val (v_pickT rfl rfl) rfl ?_ | refine w_val (v_pickF rfl rfl) rfl ?_
          refine w_nil ?_
          first | refine e_condDT rfl (by omega) ?_ | refine e_condT rfl ?_
          refine e_seq ?_
          refine e_region ?_
          refine w_val (v_assign rfl) rfl ?_
          refine w_nil ?_
          refine e_retQ (q_ret1 rfl (.tmp rfl) ?_)
          exact fun w' hw' => ⟨rfl, hw'.res.nil⟩
        · have hf0 : roundFaultL r = 0 := by omega
          have hfq0 : roundFaultL q = 0 := by omega
          have hok := okRound_of hf0 hin
          have hokq := okRound_of hfq0 hqin
          have hE : encodeL r = (encL r, 0) := by rw [encodeL, if_neg hf]
          have hEq : encodeL q = (encL q, 0) := by rw [encodeL, if_neg hfq]
          have hlen := encL_len r
          have hlen2 := encBody_len hok
          have hlenq := encL_len q
          have hlenq2 := encBody_len hokq
          have hlA : (encL r ++ encL q).length = (encL r).length + (encL q).length := by simp
          rw [hE, hEq] at *
          dsimp only at *
          have hd1 := dec_enc roundFaultL hok hf0 (encL q)
          have hd2 := dec_enc roundFaultL hokq hfq0 []
          rw [List.append_nil] at hd2
          have hcD := fun (v : Value) (w : World) (h : IsBytes w.cell? v (encL r ++ encL q)) => Decode_spec v (encL r ++ encL q) w h
          rw [hd1] at hcD
          have hcD2 := fun (v : Value) (w : World) (h : IsBytes w.cell? v (encL q)) => Decode_spec v (encL q) w h
          rw [hd2] at hcD2
          dsimp only at hcD hcD2
          refine w_val (v_move rfl) rfl ?_
          refine w_val (v_extract rfl rfl) rfl ?_
          refine w_val (v_extract rfl rfl) rfl ?_
          refine w_val (v_assign rfl) rfl ?_
          refine w_val (v_assign rfl) rfl ?_
          refine w_nil ?_
          refine e_seq ?_
          refine e_seq ?_
          refine e_region ?_
          refine w_val (v_move rfl) rfl ?_
          refine w_val (v_is (v' := .bool false) (v_neq rfl rfl) (by rw [decide_eq_false hf])) rfl ?_
          refine w_val (v_move rfl) rfl ?_
          refine w_want rfl rfl ?_
          refine w_val (v_move rfl) rfl ?_
          refine w_want rfl rfl ?_
          refine w_val (v_is (v' := .bool false) (v_neq rfl rfl) (by rw [decide_eq_false hfq])) rfl ?_
          first | refine w_val (v_pickT rfl rfl) rfl ?_ | refine w_val (v_pickF rfl rfl) rfl ?_
          refine w_nil ?_
          refine e_condF rfl ?_
          refine e_skip ?_
          refine e_seq ?_
          refine e_region ?_
          refine w_val (v_move rfl) rfl ?_
          refine w_heap (fun _ hw => hw.ownNil 5 1) ?_
          refine w_op rfl ?_
          refine x_appendI (z := .int .u8 0) (n := 0) (xs := []) (size := 1) (bytes := 1) (k := (encL r).length) (news := byteCells (encL r)) 0 rfl rfl rfl Try.underlying58 (by kernel_rfl) rfl (by decide) (fun w hw => own_rds (hw.mem (i := 2) rfl)) (one_byteCells _) (by omega) (by simp only [maxLen]; omega) rfl (fun v41 => ?_)
          refine w_val (v_move rfl) rfl ?_
          refine w_op rfl ?_
          refine x_appendI (z := .int .u8 0) (n := 0 + (encL r).length) (xs := [] ++ byteCells (encL r)) (size := 1) (bytes := 1) (k := (encL q).length) (news := byteCells (encL q)) 0 rfl rfl rfl Try.underlying58 (by kernel_rfl) rfl (by decide) (fun w hw => own_rds (hw.mem (i := 1) rfl)) (one_byteCells _) (by omega) (by simp only [maxLen]; omega) rfl (fun v43 => ?_)
          refine g_heap (m' := [Own v43 5 1 (encL r ++ encL q).length (byteCells (encL r ++ encL q))]) (fun _ hw => by
            simp only [List.set_cons_zero, List.nil_append, Nat.zero_add] at hw
            rw [byteCells_app, List.length_append]
            exact hw.sub (.cons_cons _ (List.nil_sublist _))) ?_
          refine g_shape 0 rfl fun A3 k3 hv3 hk3 => ?_
          subst hv3
          refine w_val (v_assign rfl) rfl ?_
          refine w_nil ?_
          refine e_seq ?_
          refine e_region ?_
          refine w_val (v_move rfl) rfl ?_
          refine w_op rfl ?_
          refine x_call (dst := some 46) (mc := []) (σ := Value × (Nat → Prop)) (fun _ => True) (fun s => .tuple #[s.1, .int .i64 (encL r).length, .int .i64 0]) (fun s => [Keep s.2 (fun c => IsRound c s.1 r)]) rfl rfl rfl Try.call31 (fun w hw => hcD _ w (own_rds (hw.mem (i := 0) rfl))) rfl (fun s _ => ?_)
          obtain ⟨sl, G⟩ := s
          dsimp only
          refine w_val (v_move rfl) rfl ?_
          refine w_val (v_extract rfl rfl) rfl ?_
          refine w_val (v_extract rfl rfl) rfl ?_
          refine w_val (v_extract rfl rfl) rfl ?_
          refine w_val (v_assign rfl) rfl ?_
          refine w_val (v_assign rfl) rfl ?_
          refine w_val (v_assign rfl) rfl ?_
          refine w_nil ?_
          refine e_seq ?_
          refine e_seq ?_
          refine e_region ?_
          refine w_val (v_move rfl) rfl ?_
          refine w_val (v_is (v' := .bool false) (v_neq rfl rfl) (by rw [decide_eq_false (fun h => h rfl)])) rfl ?_
          refine w_val (v_move rfl) rfl ?_
          refine w_want rfl rfl ?_
          refine w_val (v_move rfl) rfl ?_
          refine w_want rfl rfl ?_
          refine w_val (v_move rfl) rfl ?_
          refine w_want rfl rfl ?_
          refine w_val (v_lenS Try.underlying58 rfl) rfl ?_
          refine w_want rfl rfl ?_
          refine w_val (v_is (v' := .bool false) (v_neq rfl rfl) (by rw [decide_eq_false (fun h => h rfl)])) rfl ?_
          first | refine w_val (v_pickT rfl rfl) rfl ?_ | refine w_val (v_pickF rfl rfl) rfl ?_
          refine w_val (v_move rfl) rfl ?_
          refine w_want rfl rfl ?_
          refine w_val (v_move rfl) rfl ?_
          refine w_want rfl rfl ?_
          refine w_val (v_move rfl) rfl ?_
          refine w_want rfl rfl ?_
          refine w_op rfl ?_
          refine x_call0 (v := .bool true) rfl rfl rfl Try.call34 rfl (fun w hw => Calls.boolT rfl (sameRound_spec _ _ r r w (keep_all (IsRound.up _ _) (hw.mem (i := 0) rfl)) (hr.mono hw.off) (by have := hok.1; omega) hl)) ?_
          refine w_want rfl rfl ?_
          refine w_val (v_is (v' := .bool false) (v_not rfl) (by rfl)) rfl ?_
          first | refine w_val (v_pickT rfl rfl) rfl ?_ | refine w_val (v_pickF rfl rfl) rfl ?_
          refine w_nil ?_
          refine e_condF rfl ?_
          refine e_skip ?_
          refine e_seq ?_
          refine e_region ?_
          refine w_val (v_move rfl) rfl ?_
          refine w_val (v_move rfl) rfl ?_
          refine w_val (v_sliceL Try.underlying58 Try.hi5 Try.cz5 rfl rfl (by omega)) rfl ?_
          refine w_op rfl ?_
          refine x_call (dst := some 68) (mc := []) (σ := Value × (Nat → Prop)) (fun _ => True) (fun s => .tuple #[s.1, .int .i64 (encL q).length, .int .i64 0]) (fun s => [Keep s.2 (fun c => IsRound c s.1 q)]) rfl rfl rfl Try.call31 (fun w hw => hcD2 _ w (by
            have := IsBytes.slice (lo := (encL r).length) (hi := (encL r ++ encL q).length) (own_rds (hw.mem (i := 1) rfl)) (by simp) (Nat.le_refl _)
            simpa using this)) rfl (fun s2 _ => ?_)
          obtain ⟨sl2, G2⟩ := s2
          dsimp only
          refine w_val (v_move rfl) rfl ?_
          refine w_val (v_extract rfl rfl) rfl ?_
          refine w_val (v_extract rfl rfl) rfl ?_
          refine w_val (v_extract rfl rfl) rfl ?_
          refine w_val (v_assign rfl) rfl ?_
          refine w_val (v_assign rfl) rfl ?_
          refine w_val (v_assign rfl) rfl ?_
          refine w_nil ?_
          refine e_seq ?_
          refine e_region ?_
          refine w_val (v_move rfl) rfl ?_
          refine w_val (v_is (v' := .bool true) (v_eql rfl rfl) (by rfl)) rfl ?_
          refine w_val (v_move rfl) rfl ?_
          refine w_want rfl rfl ?_
          refine w_val (v_move rfl) rfl ?_
          refine w_want rfl rfl ?_
          refine w_val (v_move rfl) rfl ?_
          refine w_want rfl rfl ?_
          refine w_val (v_lenS Try.underlying58 rfl) rfl ?_
          refine w_want rfl rfl ?_
          refine w_val (v_is (v' := .bool true) (v_eql rfl rfl) (by rw [decide_eq_true rfl])) rfl ?_
          first | refine w_val (v_pickT rfl rfl) rfl ?_ | refine w_val (v_pickF rfl rfl) rfl ?_
          refine w_val (v_move rfl) rfl ?_
          refine w_want rfl rfl ?_
          refine w_val (v_move rfl) rfl ?_
          refine w_want rfl rfl ?_
          refine w_val (v_move rfl) rfl ?_
          refine w_want rfl rfl ?_
          refine w_op rfl ?_
          refine x_call0 (v := .bool true) rfl rfl rfl Try.call34 rfl (fun w hw => Calls.boolT rfl (sameRound_spec _ _ q q w (keep_all (IsRound.up _ _) (hw.mem (i := 0) rfl)) (hq.mono hw.off) (by have := hokq.1; omega) hql)) ?_
          first | refine w_val (v_pickT rfl rfl) rfl ?_ | refine w_val (v_pickF rfl rfl) rfl ?_
          refine w_val (v_assign rfl) rfl ?_
          refine w_nil ?_
          refine e_retQ (q_ret1 rfl (.tmp rfl) ?_)
          exact fun w' hw' => ⟨rfl, hw'.res.nil⟩
end Go.SL
