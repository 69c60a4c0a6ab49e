/- Ytebdkaadbakhlaa: part D13 of this seat's own texts. -/
import Derived.Test.YtebdkaadbakhlaaD12
set_option linter.unusedVariables false
set_option linter.unusedSimpArgs false
open Go Go.Proofs Go.SL
set_option maxRecDepth 100000
namespace Go.SL
theorem u64_rem' (x : Int) {m : Nat} (hm : 0 < m) : ∃ k : Nat, k < m ∧ (IntKind.u64.wrap x).tmod m = k := by
  have h0 := u64_nonneg x
  have h1 := Int.tmod_nonneg (m : Int) h0
  have h2 := Int.tmod_lt_of_pos (IntKind.u64.wrap x) (show (0 : Int) < m by omega)
  exact ⟨((IntKind.u64.wrap x).tmod m).toNat, by omega, by omega⟩
theorem CodecCut_spec (v : Value) (r : RoundL) (n : Int) (w : World) (h : IsRound w.cell? v r) (hin : ∀ d ∈ r, ∀ o ∈ d, OpIn o) (hl : ∀ d ∈ r, d.length ≤ 4398046511104) :
    Calls Try.prog 10 #[v, .int .i64 n] w fun e w' => e = .returned (.bool true) ∧ Res w [] [] w' := by
  have hr := h
  rw [← off_none w] at h hr
  obtain ⟨A, kp, rfl, hle, hc⟩ := h.form
  refine enter0 (N := 48) Try.func10 rfl rfl rfl ?_
  refine e_seq ?_
  refine e_region ?_
  refine w_val (v_assign rfl) rfl ?_
  refine w_nil ?_
  refine e_seq ?_
  refine e_seq ?_
  refine e_region ?_
  refine w_op rfl ?_
  refine x_call0 (v := .bool true) rfl rfl rfl Try.call27 rfl (fun w hw => codecBegun_spec w) ?_
  refine w_val (v_not rfl) rfl ?_
  refine w_nil ?_
  refine e_condF rfl ?_
  refine e_skip ?_
  refine e_seq ?_
  refine e_seq ?_
  refine e_region ?_
  refine w_val (v_move rfl) rfl ?_
  refine w_op rfl ?_
  refine x_call0 (v := .bool (greatL r)) rfl rfl rfl Try.call18 rfl (fun w hw => great_spec _ r w (hr.mono hw.off) hl) ?_
  refine w_nil ?_
  refine e_cond rfl (fun hg => ?_) (fun hg => ?_)
  · refine e_seq ?_
    refine e_region ?_
    refine w_val (v_assign rfl) rfl ?_
    refine w_nil ?_
    refine e_retQ (q_ret1 rfl (.tmp rfl) ?_)
    exact fun w' hw' => ⟨rfl, hw'.res.nil⟩
  · refine e_skip ?_
    refine e_seq ?_
    refine e_region ?_
    refine w_val (v_move rfl) rfl ?_
    refine w_op rfl ?_
    refine x_call (dst := some 16) (mc := []) (σ := Value) (fun _ => True) (fun sl => .tuple #[sl, .int .i64 (encodeL r).2]) (fun sl => [Own sl 5 1 (encodeL r).1.length (byteCells (encodeL r).1)]) rfl rfl rfl Try.call29 (fun w hw => Encode_spec _ r w (hr.mono hw.off) hin) rfl (fun vx _ => ?_)
    refine g_shape 0 rfl fun A1 k1 hv1 hk1 => ?_
    subst hv1
    by_cases hf : roundFaultL r ≠ 0
    · have hE : encodeL r = ([], roundFaultL r) := by rw [encodeL, if_pos hf]
      rw [hE]
      dsimp only
      refine w_val (v_move rfl) rfl ?_
      refine w_val (v_extract rfl rfl) rfl ?_
      refine w_val (v_extract rfl rfl) rfl ?_
      refine w_val (v_assign rfl) rfl ?_
      refine w_val (v_assign rfl) rfl ?_
      refine w_nil ?_
      refine e_seq ?_
      refine e_seq ?_
      refine e_region ?_
      refine w_val (v_move rfl) rfl ?_
      refine w_val (v_is (v' := .bool true) (v_neq rfl rfl) (by rw [decide_eq_true hf])) rfl ?_
      refine w_val (v_move rfl) rfl ?_
      refine w_skip rfl rfl rfl rfl ?_
      refine w_skip rfl rfl rfl rfl ?_
      refine w_skip rfl rfl rfl rfl ?_
      first | refine w_val (v_pickT rfl rfl) rfl ?_ | refine w_val (v_pickF rfl rfl) rfl ?_
      refine w_nil ?_
      first | refine e_condDT rfl (by omega) ?_ | refine e_condT rfl ?_
      refine e_seq ?_
      refine e_region ?_
      refine w_val (v_move rfl) rfl ?_
      refine w_val (v_is (v' := .bool true) (v_neq rfl rfl) (by rw [decide_eq_true hf])) rfl ?_
      refine w_val (v_assign rfl) rfl ?_
      refine w_nil ?_
      refine e_retQ (q_ret1 rfl (.tmp rfl) ?_)
      exact fun w' hw' => ⟨rfl, hw'.res.nil⟩
    · have hf0 : roundFaultL r = 0 := by omega
      have hok := okRound_of hf0 hin
      have hE : encodeL r = (encL r, 0) := by rw [encodeL, if_neg hf]
      have hlen := encL_len r
      have hlen2 := encBody_len hok
      rw [hE] at hk1 ⊢
      dsimp only at hk1 ⊢
      obtain ⟨k, hk, hkm⟩ := u64_rem' n (show 0 < (encL r).length by omega)
      have hcut := dec_cut roundFaultL hok hk
      have hcD := fun (v : Value) (w : World) (h : IsBytes w.cell? v ((encL r).take k)) => Decode_spec v ((encL r).take k) w h
      rw [hcut] at hcD
      dsimp only at hcD
      refine w_val (v_move rfl) rfl ?_
      refine w_val (v_extract rfl rfl) rfl ?_
      refine w_val (v_extract rfl rfl) rfl ?_
      refine w_val (v_assign rfl) rfl ?_
      refine w_val (v_assign rfl) rfl ?_
      refine w_nil ?_
      refine e_seq ?_
      refine e_seq ?_
      refine e_region ?_
      refine w_val (v_move rfl) rfl ?_
      refine w_val (v_is (v' := .bool false) (v_neq rfl rfl) (by rw [decide_eq_false (fun h => h rfl)])) rfl ?_
      refine w_val (v_move rfl) rfl ?_
      refine w_want rfl rfl ?_
      refine w_val (v_move rfl) rfl ?_
      refine w_want rfl rfl ?_
      refine w_val (v_lenS Try.underlying58 rfl) rfl ?_
      refine w_want rfl rfl ?_
      refine w_val (v_is (v' := .bool false) (v_eql rfl rfl) (by rw [decide_eq_false (by omega)])) rfl ?_
      first | refine w_val (v_pickT rfl rfl) rfl ?_ | refine w_val (v_pickF rfl rfl) rfl ?_
      refine w_nil ?_
      first | refine e_condDF rfl (by omega) ?_ | refine e_condF rfl ?_
      refine e_skip ?_
      refine e_seq ?_
      refine e_region ?_
      refine w_val (v_move rfl) rfl ?_
      refine w_val (v_move rfl) rfl ?_
      refine w_val (v_conv Try.underlying56 (by rw [Try.underlying3]; rfl) rfl) rfl ?_
      refine w_val (v_move rfl) rfl ?_
      refine w_val (v_lenS Try.underlying58 rfl) rfl ?_
      refine w_val (v_is (v' := .int .u64 ((encL r).length : Int)) (v_conv Try.underlying56 (by rw [Try.underlying3]; rfl) rfl) (by rw [wrap_u64 (by omega) (by omega)])) rfl ?_
      refine w_val (v_is (v' := .int .u64 (k : Int)) (v_rem rfl rfl (by omega)) (by rw [hkm])) rfl ?_
      refine w_val (v_is (v' := .int .i64 (k : Int)) (v_conv Try.underlying3 (by rw [Try.underlying56]; rfl) rfl) (by rw [wrap_i64 (by omega) (by omega)])) rfl ?_
      refine w_val (v_sliceH Try.underlying58 Try.hi5 Try.cz5 rfl rfl (by omega)) rfl ?_
      refine w_op rfl ?_
      refine x_call (dst := some 38) (mc := []) (σ := Value × (Nat → Prop)) (fun _ => True) (fun s => .tuple #[s.1, .int .i64 0, .int .i64 6]) (fun s => [Keep s.2 (fun c => IsRound c s.1 [])]) rfl rfl rfl Try.call31 (fun w hw => hcD _ w (by have := IsBytes.slice (lo := 0) (hi := k) (own_rds (hw.mem (i := 0) rfl)) (by omega) (by omega); simpa using this)) rfl (fun s _ => ?_)
      obtain ⟨sl, G⟩ := s
      dsimp only
      refine w_val (v_move rfl) rfl ?_
      refine w_val (v_extract rfl rfl) rfl ?_
      refine w_val (v_extract rfl rfl) rfl ?_
      refine w_val (v_extract rfl rfl) rfl ?_
      refine w_val (v_assign rfl) rfl ?_
      refine w_val (v_assign rfl) rfl ?_
      refine w_val (v_assign rfl) rfl ?_
      refine w_nil ?_
      refine e_seq ?_
      refine e_region ?_
      refine w_val (v_move rfl) rfl ?_
      refine w_val (v_is (v' := .bool true) (v_eql rfl rfl) (by rfl)) rfl ?_
      refine w_val (v_move rfl) rfl ?_
      refine w_want rfl rfl ?_
      refine w_val (v_move rfl) rfl ?_
      refine w_want rfl rfl ?_
      refine w_val (v_is (v' := .bool true) (v_eql rfl rfl) (by rfl)) rfl ?_
      first | refine w_val (v_pickT rfl rfl) rfl ?_ | refine w_val (v_pickF rfl rfl) rfl ?_
      refine w_val (v_assign rfl) rfl ?_
      refine w_nil ?_
      refine e_retQ (q_ret1 rfl (.tmp rfl) ?_)
      exact fun w' hw' => ⟨rfl, hw'.res.nil⟩
end Go.SL
