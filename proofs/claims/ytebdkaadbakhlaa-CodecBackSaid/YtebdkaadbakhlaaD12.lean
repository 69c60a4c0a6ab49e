/- Ytebdkaadbakhlaa: part D12 of this seat's own texts. -/
import Derived.Test.YtebdkaadbakhlaaD11
set_option linter.unusedVariables false
set_option linter.unusedSimpArgs false
open Go Go.Proofs Go.SL
set_option maxRecDepth 100000
namespace Go.SL
theorem Calls.boolT {P : Program} {f : FuncId} {args : Array Value} {w : World} {p : Prop} [Decidable p] (hp : p) (h : Calls P f args w fun e w' => e = .returned (.bool (decide p)) ∧ Res w [] [] w') : Calls P f args w fun e w' => e = .returned (.bool true) ∧ Res w [] [] w' := by
  rw [decide_eq_true hp] at h
  exact h
theorem Calls.boolF {P : Program} {f : FuncId} {args : Array Value} {w : World} {p : Prop} [Decidable p] (hp : ¬ p) (h : Calls P f args w fun e w' => e = .returned (.bool (decide p)) ∧ Res w [] [] w') : Calls P f args w fun e w' => e = .returned (.bool false) ∧ Res w [] [] w' := by
  rw [decide_eq_false hp] at h
  exact h
theorem encodeL_code (r : RoundL) : (encodeL r).2 = roundFaultL r := by
  unfold encodeL
  by_cases h : roundFaultL r ≠ 0
  · rw [if_pos h]
  · rw [if_neg h]; simp only [ne_eq, Decidable.not_not] at h; rw [h]
theorem encodeL_len (r : RoundL) (hin : ∀ d ∈ r, ∀ o ∈ d, OpIn o) : (encodeL r).1.length ≤ 1131 := by
  unfold encodeL
  by_cases h : roundFaultL r ≠ 0
  · rw [if_pos h]; simp
  · rw [if_neg h, encL_len]
    have := encBody_len (okRound_of (by omega) hin)
    omega
theorem small_of {z : RoundL} (h : roundFaultL z = 0) : z.length ≤ 8 ∧ ∀ d ∈ z, d.length ≤ 14 := by
  obtain ⟨h8, hd⟩ := roundFault_ok h
  exact ⟨h8, fun d hdz => (checked (hd d hdz)).1⟩
theorem decL_small (bs : List UInt8) : (decL roundFaultL bs).1.length ≤ 8 ∧ ∀ d ∈ (decL roundFaultL bs).1, d.length ≤ 14 := by
  by_cases hc : (decL roundFaultL bs).2.2 ≠ 0
  · rw [(dec_bad roundFaultL hc).1]; exact ⟨by simp, fun d hd => by simp at hd⟩
  · have h0 : decL roundFaultL bs = ((decL roundFaultL bs).1, (decL roundFaultL bs).2.1, 0) := by
      simp only [ne_eq, Decidable.not_not] at hc
      rw [← hc]
    exact small_of (enc_dec roundFaultL h0).1
theorem great_not {r : RoundL} (h : greatL r = false) : r.length ≤ 60 ∧ ∀ d ∈ r, d.length ≤ 500 := by
  unfold greatL at h
  have h := of_decide_eq_false h
  have h60 : r.length ≤ 60 := by omega
  exact ⟨h60, great_small h60 (by unfold lens at h; omega)⟩
theorem CodecDoes_spec (v vb : Value) (r : RoundL) (bs : List UInt8) (w : World) (h : IsRound w.cell? v r) (hin : ∀ d ∈ r, ∀ o ∈ d, OpIn o) (hl : ∀ d ∈ r, d.length ≤ 4398046511104) (hb : IsBytes w.cell? vb bs) (hbl : bs.length ≤ 140737488355328) :
    Calls Try.prog 8 #[v, vb] w fun e w' => e = .returned (.bool true) ∧ Res w [] [] w' := by
  have hr := h
  rw [← off_none w] at h hr hb
  obtain ⟨A, kp, rfl, hle, hc⟩ := h.form
  have hb0 := hb
  obtain ⟨Ab, kb, rfl, hkb, _, _⟩ := hb0
  refine enter0 (N := 78) Try.func8 rfl rfl rfl ?_
  refine e_seq ?_
  refine e_region ?_
  refine w_val (v_assign rfl) rfl ?_
  refine w_nil ?_
  refine e_seq ?_
  refine e_seq ?_
  refine e_region ?_
  refine w_op rfl ?_
  refine x_call0 (v := .bool true) rfl rfl rfl Try.call27 rfl (fun w hw => codecBegun_spec w) ?_
  refine w_val (v_not rfl) rfl ?_
  refine w_nil ?_
  refine e_condF rfl ?_
  by_cases hg : greatL r = true
  · refine e_skip ?_
    refine e_seq ?_
    refine e_seq ?_
    refine e_region ?_
    refine w_val (v_move rfl) rfl ?_
    refine w_op rfl ?_
    refine x_call0 (v := .bool true) rfl rfl rfl Try.call18 rfl (fun w hw => by have := great_spec _ r w (hr.mono hw.off) hl; rwa [hg] at this) ?_
    refine w_val (v_move rfl) rfl ?_
    refine w_skip rfl rfl rfl rfl ?_
    refine w_skip rfl rfl rfl rfl ?_
    refine w_skip rfl rfl rfl rfl ?_
    first | refine w_val (v_pickT rfl rfl) rfl ?_ | refine w_val (v_pickF rfl rfl) rfl ?_
    refine w_nil ?_
    first | refine e_condDT rfl (by omega) ?_ | refine e_condT rfl ?_
    refine e_seq ?_
    refine e_region ?_
    refine w_val (v_assign rfl) rfl ?_
    refine w_nil ?_
    refine e_retQ (q_ret1 rfl (.tmp rfl) ?_)
    exact fun w' hw' => ⟨rfl, hw'.res.nil⟩
  · have hg' : greatL r = false := by simpa using hg
    obtain ⟨h60, h500⟩ := great_not hg'
    refine e_skip ?_
    refine e_seq ?_
    refine e_seq ?_
    refine e_region ?_
    refine w_val (v_move rfl) rfl ?_
    refine w_op rfl ?_
    refine x_call0 (v := .bool false) rfl rfl rfl Try.call18 rfl (fun w hw => by have := great_spec _ r w (hr.mono hw.off) hl; rwa [hg'] at this) ?_
    refine w_val (v_move rfl) rfl ?_
    refine w_want rfl rfl ?_
    refine w_val (v_move rfl) rfl ?_
    refine w_want rfl rfl ?_
    refine w_val (v_lenS Try.underlying58 rfl) rfl ?_
    refine w_want rfl rfl ?_
    refine w_val (v_gtr rfl rfl) rfl ?_
    first | refine w_val (v_pickT rfl rfl) rfl ?_ | refine w_val (v_pickF rfl rfl) rfl ?_
    refine w_nil ?_
    refine e_condD rfl (fun h5000 => ?_) (fun h5000 => ?_)
    · refine e_seq ?_
      refine e_region ?_
      refine w_val (v_assign rfl) rfl ?_
      refine w_nil ?_
      refine e_retQ (q_ret1 rfl (.tmp rfl) ?_)
      exact fun w' hw' => ⟨rfl, hw'.res.nil⟩
    · refine e_skip ?_
      refine e_seq ?_
      refine e_region ?_
      refine w_val (v_move rfl) rfl ?_
      refine w_op rfl ?_
      refine x_call (dst := some 26) (mc := []) (σ := Value × (Nat → Prop)) (fun _ => True) (fun s => s.1) (fun s => [Keep s.2 (fun c => IsRound c s.1 r)]) rfl rfl rfl Try.call28 (fun w hw => refOwn_spec _ r w (hr.mono hw.off) h60 h500) rfl (fun s _ => ?_)
      obtain ⟨vo, G⟩ := s
      dsimp only
      refine w_val (v_assign rfl) rfl ?_
      refine w_nil ?_
      refine e_seq ?_
      refine e_region ?_
      refine w_val (v_move rfl) rfl ?_
      refine w_op rfl ?_
      refine x_call (dst := some 29) (mc := []) (σ := Value) (fun _ => True) (fun sl => .tuple #[sl, .int .i64 (encodeL r).2]) (fun sl => [Own sl 5 1 (encodeL r).1.length (byteCells (encodeL r).1)]) rfl rfl rfl Try.call29 (fun w hw => Encode_spec _ r w (keep_all (IsRound.up _ _) (hw.mem (i := 0) rfl)) hin) rfl (fun vx _ => ?_)
      rw [encodeL_code]
      refine w_val (v_move rfl) rfl ?_
      refine w_val (v_extract rfl rfl) rfl ?_
      refine w_val (v_extract rfl rfl) rfl ?_
      refine w_val (v_assign rfl) rfl ?_
      refine w_val (v_assign rfl) rfl ?_
      refine w_nil ?_
      refine e_seq ?_
      refine e_region ?_
      refine w_val (v_move rfl) rfl ?_
      refine w_op rfl ?_
      refine x_call0 (v := .int .i64 (roundFaultL r)) rfl rfl rfl Try.call24 rfl (fun w hw => RoundFault_spec _ r w (hr.mono hw.off)) ?_
      refine w_val (v_assign rfl) rfl ?_
      refine w_nil ?_
      refine e_seq ?_
      refine e_region ?_
      refine w_val (v_assign rfl) rfl ?_
      refine w_nil ?_
      refine e_seq ?_
      refine e_seq ?_
      refine e_region ?_
      refine w_val (v_move rfl) rfl ?_
      refine w_val (v_eql rfl rfl) rfl ?_
      refine w_nil ?_
      refine e_cutH (σ := Value) [0, 1, 5, 6, 7, 8] (.cons rfl (.cons rfl (.cons rfl (.cons rfl (.cons rfl (.cons rfl .nil)))))) (fun y => [(9, y)]) (fun y => [Own y 5 1 (encodeL r).1.length (byteCells (encodeL r).1), Own vx 5 1 (encodeL r).1.length (byteCells (encodeL r).1), Keep G (fun c => IsRound c vo r)]) (fun _ => True) ?_ ?_
      · refine e_condD rfl (fun hf0 => ?_) (fun hf0 => ?_)
        · have hE : encodeL r = (encL r, 0) := by rw [encodeL, if_neg (by omega)]
          rw [hE]
          refine e_region ?_
          refine w_val (v_move rfl) rfl ?_
          refine w_op rfl ?_
          refine x_call (dst := some 37) (mc := []) (σ := Value) (fun _ => True) (fun sl => sl) (fun sl => [Own sl 5 1 (encL r).length (byteCells (encL r))]) rfl rfl rfl Try.call30 (fun w hw => bytesOf_spec _ r w (hr.mono hw.off) (okRound_of hf0 hin) hin) rfl (fun vy _ => ?_)
          refine w_val (v_assign rfl) rfl ?_
          refine w_nil ?_
          exact e_cutEnd (vy) (trivial) (by repeat (first | exact Sub.nil _ | refine Sub.cons rfl ?_)) (fun _ hw => hw)
        · have hE : encodeL r = ([], roundFaultL r) := by rw [encodeL, if_pos hf0]
          rw [hE]
          refine e_skip ?_
          exact e_cutEnd (.slice none 0 0) (trivial) (by repeat (first | exact Sub.nil _ | refine Sub.cons rfl ?_)) (fun _ hw => hw.ownNil _ _)
      · rintro vy -
        refine e_seq ?_
        refine e_region ?_
        refine w_val (v_move rfl) rfl ?_
        refine w_op rfl ?_
        refine x_call (dst := some 40) (mc := []) (σ := Value × (Nat → Prop)) (fun _ => True) (fun s => .tuple #[s.1, .int .i64 (decL roundFaultL bs).2.1, .int .i64 (decL roundFaultL bs).2.2]) (fun s => [Keep s.2 (fun c => IsRound c s.1 (decL roundFaultL bs).1)]) rfl rfl rfl Try.call31 (fun w hw => Decode_spec _ bs w (hb.mono hw.off)) rfl (fun s2 _ => ?_)
        obtain ⟨v2, G2⟩ := s2
        dsimp only
        refine w_val (v_move rfl) rfl ?_
        refine w_val (v_extract rfl rfl) rfl ?_
        refine w_val (v_extract rfl rfl) rfl ?_
        refine w_val (v_extract rfl rfl) rfl ?_
        refine w_val (v_assign rfl) rfl ?_
        refine w_val (v_assign rfl) rfl ?_
        refine w_val (v_assign rfl) rfl ?_
        refine w_nil ?_
        refine e_seq ?_
        refine e_region ?_
        refine w_val (v_move rfl) rfl ?_
        refine w_op rfl ?_
        refine x_call (dst := some 46) (mc := []) (σ := Value × (Nat → Prop)) (fun _ => True) (fun s => .tuple #[s.1, .int .i64 (decL roundFaultL bs).2.1, .int .i64 (decL roundFaultL bs).2.2]) (fun s => [Keep s.2 (fun c => IsRound c s.1 (decL roundFaultL bs).1)]) rfl rfl rfl Try.call32 (fun w hw => roundOf_spec _ bs w (hb.mono hw.off)) rfl (fun s3 _ => ?_)
        obtain ⟨v3, G3⟩ := s3
        dsimp only
        obtain ⟨hs8, hs14⟩ := decL_small bs
        refine w_val (v_move rfl) rfl ?_
        refine w_val (v_extract rfl rfl) rfl ?_
        refine w_val (v_extract rfl rfl) rfl ?_
        refine w_val (v_extract rfl rfl) rfl ?_
        refine w_val (v_assign rfl) rfl ?_
        refine w_val (v_assign rfl) rfl ?_
        refine w_val (v_assign rfl) rfl ?_
        refine w_nil ?_
        refine e_seq ?_
        refine e_region ?_
        refine w_val (v_move rfl) rfl ?_
        refine w_val (v_move rfl) rfl ?_
        refine w_val (v_is (v' := .bool true) (v_eql rfl rfl) (by rw [decide_eq_true rfl])) rfl ?_
        refine w_val (v_move rfl) rfl ?_
        refine w_want rfl rfl ?_
        refine w_val (v_move rfl) rfl ?_
        refine w_want rfl rfl ?_
        refine w_val (v_move rfl) rfl ?_
        refine w_want rfl rfl ?_
        refine w_op rfl ?_
        refine x_call0 (v := .bool true) rfl rfl rfl Try.call33 rfl (fun w hw => Calls.boolT rfl (sameBytes_spec _ _ (encodeL r).1 (encodeL r).1 w (own_rds (hw.mem (i := 3) rfl)) (own_rds (hw.mem (i := 2) rfl)))) ?_
        first | refine w_val (v_pickT rfl rfl) rfl ?_ | refine w_val (v_pickF rfl rfl) rfl ?_
        refine w_val (v_move rfl) rfl ?_
        refine w_want rfl rfl ?_
        refine w_val (v_move rfl) rfl ?_
        refine w_want rfl rfl ?_
        refine w_val (v_move rfl) rfl ?_
        refine w_want rfl rfl ?_
        refine w_op rfl ?_
        refine x_call0 (v := .bool true) rfl rfl rfl Try.call34 rfl (fun w hw => Calls.boolT rfl (sameRound_spec _ _ (decL roundFaultL bs).1 (decL roundFaultL bs).1 w (keep_all (IsRound.up _ _) (hw.mem (i := 1) rfl)) (keep_all (IsRound.up _ _) (hw.mem (i := 0) rfl)) (by omega) (fun d hd => by have := hs14 d hd; omega))) ?_
        first | refine w_val (v_pickT rfl rfl) rfl ?_ | refine w_val (v_pickF rfl rfl) rfl ?_
        refine w_val (v_move rfl) rfl ?_
        refine w_want rfl rfl ?_
        refine w_val (v_move rfl) rfl ?_
        refine w_want rfl rfl ?_
        refine w_val (v_move rfl) rfl ?_
        refine w_want rfl rfl ?_
        refine w_val (v_is (v' := .bool true) (v_eql rfl rfl) (by rw [decide_eq_true rfl])) rfl ?_
        first | refine w_val (v_pickT rfl rfl) rfl ?_ | refine w_val (v_pickF rfl rfl) rfl ?_
        refine w_val (v_move rfl) rfl ?_
        refine w_want rfl rfl ?_
        refine w_val (v_move rfl) rfl ?_
        refine w_want rfl rfl ?_
        refine w_val (v_move rfl) rfl ?_
        refine w_want rfl rfl ?_
        refine w_val (v_is (v' := .bool true) (v_eql rfl rfl) (by rw [decide_eq_true rfl])) rfl ?_
        first | refine w_val (v_pickT rfl rfl) rfl ?_ | refine w_val (v_pickF rfl rfl) rfl ?_
        refine w_val (v_move rfl) rfl ?_
        refine w_want rfl rfl ?_
        refine w_val (v_move rfl) rfl ?_
        refine w_want rfl rfl ?_
        refine w_val (v_move rfl) rfl ?_
        refine w_want rfl rfl ?_
        refine w_op rfl ?_
        refine x_call0 (v := .bool true) rfl rfl rfl Try.call34 rfl (fun w hw => Calls.boolT rfl (sameRound_spec _ _ r r w (keep_all (IsRound.up _ _) (hw.mem (i := 4) rfl)) (hr.mono hw.off) (by omega) hl)) ?_
        first | refine w_val (v_pickT rfl rfl) rfl ?_ | refine w_val (v_pickF rfl rfl) rfl ?_
        refine w_val (v_assign rfl) rfl ?_
        refine w_nil ?_
        refine e_retQ (q_ret1 rfl (.tmp rfl) ?_)
        exact fun w' hw' => ⟨rfl, hw'.res.nil⟩
end Go.SL
