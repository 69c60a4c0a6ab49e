/- Ytebdkaadbakhlaa: part D15 of this seat's own texts. -/
import Derived.Test.YtebdkaadbakhlaaD14
set_option linter.unusedVariables false
set_option linter.unusedSimpArgs false
open Go Go.Proofs Go.SL
set_option maxRecDepth 100000
namespace Go.SL
theorem in64_byte (x : UInt8) : In64 (x.toNat : Int) := by have := x.toNat_lt; unfold In64; omega
theorem in64_wrap (m : Int) : In64 (IntKind.i64.wrap m) := by have := w64_range m; unfold In64; omega
theorem getOp_in : ∀ {b b' : List UInt8} {o : OpL}, getOp b = some (o, b') → OpIn o
  | [], _, _, h => by simp [getOp] at h
  | k :: b, b', o, h => by
    simp only [getOp] at h
    by_cases hk : k = 1
    · subst hk
      simp only [if_true] at h
      split at h
      · simp only [Option.some.injEq, Prod.mk.injEq] at h
        obtain ⟨rfl, rfl⟩ := h
        exact ⟨by unfold In64; dsimp only; omega, in64_byte _, by unfold In64; dsimp only; omega, by unfold In64; dsimp only; omega, in64_wrap _⟩
      · cases h
    · rw [if_neg hk] at h
      split at h
      · rename_i x c rest
        simp only [Option.some.injEq, Prod.mk.injEq] at h
        obtain ⟨rfl, rfl⟩ := h
        have := x.toNat_lt
        exact ⟨in64_byte _, by unfold In64; dsimp only; omega, by unfold In64; dsimp only; omega, in64_byte _, by unfold In64; dsimp only; omega⟩
      · cases h
theorem getOps_in : ∀ {n : Nat} {b b' : List UInt8} {d : DeedL}, getOps n b = some (d, b') → ∀ o ∈ d, OpIn o
  | 0, b, b', d, h => by
    simp only [getOps, Option.some.injEq, Prod.mk.injEq] at h
    obtain ⟨rfl, rfl⟩ := h
    intro o ho; simp at ho
  | n + 1, b, b', d, h => by
    simp only [getOps] at h
    cases h1 : getOp b with
    | none => rw [h1] at h; cases h
    | some p =>
      obtain ⟨o, b1⟩ := p
      rw [h1] at h
      dsimp only at h
      cases h2 : getOps n b1 with
      | none => rw [h2] at h; cases h
      | some p =>
        obtain ⟨d', b2⟩ := p
        rw [h2] at h
        simp only [Option.some.injEq, Prod.mk.injEq] at h
        obtain ⟨rfl, rfl⟩ := h
        intro o' ho'
        rcases List.mem_cons.1 ho' with rfl | ho'
        · exact getOp_in h1
        · exact getOps_in h2 o' ho'
theorem getDeeds_in : ∀ {n : Nat} {b b' : List UInt8} {r : RoundL}, getDeeds n b = some (r, b') → ∀ d ∈ r, ∀ o ∈ d, OpIn o
  | 0, b, b', d, h => by
    simp only [getDeeds, Option.some.injEq, Prod.mk.injEq] at h
    obtain ⟨rfl, rfl⟩ := h
    intro o ho; simp at ho
  | n + 1, b, b', d, h => by
    simp only [getDeeds] at h
    cases h1 : getDeed b with
    | none => rw [h1] at h; cases h
    | some p =>
      obtain ⟨o, b1⟩ := p
      rw [h1] at h
      dsimp only at h
      cases h2 : getDeeds n b1 with
      | none => rw [h2] at h; cases h
      | some p =>
        obtain ⟨d', b2⟩ := p
        rw [h2] at h
        simp only [Option.some.injEq, Prod.mk.injEq] at h
        obtain ⟨rfl, rfl⟩ := h
        intro o' ho'
        rcases List.mem_cons.1 ho' with rfl | ho'
        · cases b with
          | nil => cases h1
          | cons x b => exact getOps_in h1
        · exact getDeeds_in h2 o' ho'
theorem getRound_in {b b' : List UInt8} {r : RoundL} (h : getRound b = some (r, b')) : ∀ d ∈ r, ∀ o ∈ d, OpIn o := by
  cases b with
  | nil => cases h
  | cons x b => exact getDeeds_in h
theorem decL_in (bs : List UInt8) : ∀ d ∈ (decL roundFaultL bs).1, ∀ o ∈ d, OpIn o := by
  have hB : ∀ b : List UInt8, ∀ d ∈ (bodyL roundFaultL b).1, ∀ o ∈ d, OpIn o := by
    intro b
    unfold bodyL
    cases h : getRound b with
    | none => intro d hd; simp at hd
    | some p =>
      obtain ⟨r, rest⟩ := p
      dsimp only
      by_cases h1 : rest ≠ []
      · rw [if_pos h1]; intro d hd; simp at hd
      · rw [if_neg h1]
        by_cases h2 : roundFaultL r ≠ 0
        · rw [if_pos h2]; intro d hd; simp at hd
        · rw [if_neg h2]; exact getRound_in h
  unfold decL
  by_cases h1 : bs.length < 2
  · rw [if_pos h1]; intro d hd; simp at hd
  · rw [if_neg h1]
    by_cases h2 : bs.length < headN bs
    · rw [if_pos h2]; intro d hd; simp at hd
    · rw [if_neg h2]
      by_cases h3 : (bodyL roundFaultL ((bs.take (headN bs)).drop 2)).2 ≠ 0
      · rw [if_pos h3]; intro d hd; simp at hd
      · rw [if_neg h3]; exact hB _
theorem CodecBack_spec (v vq vb : Value) (r q : RoundL) (bs : List UInt8) (w : World) (h : IsRound w.cell? v r) (hin : ∀ d ∈ r, ∀ o ∈ d, OpIn o) (hl : ∀ d ∈ r, d.length ≤ 4398046511104) (hq : IsRound w.cell? vq q) (hqin : ∀ d ∈ q, ∀ o ∈ d, OpIn o) (hql : ∀ d ∈ q, d.length ≤ 4398046511104)
    (hb : IsBytes w.cell? vb bs) (hbl : bs.length ≤ 140737488355328) :
    Calls Try.prog 9 #[v, vq, vb] w fun e w' => e = .returned (.bool true) ∧ Res w [] [] w' := by
  have hr := h
  rw [← off_none w] at h hr hq hb
  obtain ⟨A, kp, rfl, hle, hc⟩ := h.form
  obtain ⟨Aq, kq, rfl, hleq, _⟩ := hq.form
  have hb0 := hb
  obtain ⟨Ab, kb, rfl, hkb, _, _⟩ := hb0
  refine enter0 (N := 121) Try.func9 rfl rfl rfl ?_
  refine e_seq ?_
  refine e_region ?_
  refine w_val (v_assign rfl) rfl ?_
  refine w_nil ?_
  refine e_seq ?_
  refine e_seq ?_
  refine e_region ?_
  refine w_op rfl ?_
  refine x_call0 (v := .bool true) rfl rfl rfl Try.call27 rfl (fun w hw => codecBegun_spec w) ?_
  refine w_val (v_not rfl) rfl ?_
  refine w_nil ?_
  refine e_condF rfl ?_
  refine e_skip ?_
  refine e_seq ?_
  refine e_seq ?_
  by_cases hg : greatL r = true
  · refine e_region ?_
    refine w_val (v_move rfl) rfl ?_
    refine w_op rfl ?_
    refine x_call0 (v := .bool true) rfl rfl rfl Try.call18 rfl (fun w hw => by have := great_spec _ r w (hr.mono hw.off) hl; rwa [hg] at this) ?_
    refine w_val (v_move rfl) rfl ?_
    refine w_skip rfl rfl rfl rfl ?_
    refine w_skip rfl rfl rfl rfl ?_
    first | refine w_val (v_pickT rfl rfl) rfl ?_ | refine w_val (v_pickF rfl rfl) rfl ?_
    refine w_val (v_move rfl) rfl ?_
    refine w_skip rfl rfl rfl rfl ?_
    refine w_skip rfl rfl rfl rfl ?_
    refine w_skip rfl rfl rfl rfl ?_
    first | refine w_val (v_pickT rfl rfl) rfl ?_ | refine w_val (v_pickF rfl rfl) rfl ?_
    refine w_nil ?_
    first | refine e_condDT rfl (by omega) ?_ | refine e_condT rfl ?_
    refine e_seq ?_
    refine e_region ?_
    refine w_val (v_assign rfl) rfl ?_
    refine w_nil ?_
    refine e_retQ (q_ret1 rfl (.tmp rfl) ?_)
    exact fun w' hw' => ⟨rfl, hw'.res.nil⟩
  · have hg' : greatL r = false := by simpa using hg
    by_cases hg2 : greatL q = true
    · refine e_region ?_
      refine w_val (v_move rfl) rfl ?_
      refine w_op rfl ?_
      refine x_call0 (v := .bool false) rfl rfl rfl Try.call18 rfl (fun w hw => by have := great_spec _ r w (hr.mono hw.off) hl; rwa [hg'] at this) ?_
      refine w_val (v_move rfl) rfl ?_
      refine w_want rfl rfl ?_
      refine w_val (v_move rfl) rfl ?_
      refine w_want rfl rfl ?_
      refine w_op rfl ?_
      refine x_call0 (v := .bool true) rfl rfl rfl Try.call18 rfl (fun w hw => by have := great_spec _ q w (hq.mono hw.off) hql; rwa [hg2] at this) ?_
      first | refine w_val (v_pickT rfl rfl) rfl ?_ | refine w_val (v_pickF rfl rfl) rfl ?_
      refine w_val (v_move rfl) rfl ?_
      refine w_skip rfl rfl rfl rfl ?_
      refine w_skip rfl rfl rfl rfl ?_
      refine w_skip rfl rfl rfl rfl ?_
      first | refine w_val (v_pickT rfl rfl) rfl ?_ | refine w_val (v_pickF rfl rfl) rfl ?_
      refine w_nil ?_
      first | refine e_condDT rfl (by omega) ?_ | refine e_condT rfl ?_
      refine e_seq ?_
      refine e_region ?_
      refine w_val (v_assign rfl) rfl ?_
      refine w_nil ?_
      refine e_retQ (q_ret1 rfl (.tmp rfl) ?_)
      exact fun w' hw' => ⟨rfl, hw'.res.nil⟩
    · have hg2' : greatL q = false := by simpa using hg2
      refine e_region ?_
      refine w_val (v_move rfl) rfl ?_
      refine w_op rfl ?_
      refine x_call0 (v := .bool false) rfl rfl rfl Try.call18 rfl (fun w hw => by have := great_spec _ r w (hr.mono hw.off) hl; rwa [hg'] at this) ?_
      refine w_val (v_move rfl) rfl ?_
      refine w_want rfl rfl ?_
      refine w_val (v_move rfl) rfl ?_
      refine w_want rfl rfl ?_
      refine w_op rfl ?_
      refine x_call0 (v := .bool false) rfl rfl rfl Try.call18 rfl (fun w hw => by have := great_spec _ q w (hq.mono hw.off) hql; rwa [hg2'] at this) ?_
      first | refine w_val (v_pickT rfl rfl) rfl ?_ | refine w_val (v_pickF rfl rfl) rfl ?_
      refine w_val (v_move rfl) rfl ?_
      refine w_want rfl rfl ?_
      refine w_val (v_move rfl) rfl ?_
      refine w_want rfl rfl ?_
      refine w_val (v_lenS Try.underlying58 rfl) rfl ?_
      refine w_want rfl rfl ?_
      refine w_val (v_gtr rfl rfl) rfl ?_
      first | refine w_val (v_pickT rfl rfl) rfl ?_ | refine w_val (v_pickF rfl rfl) rfl ?_
      refine w_nil ?_
      refine e_condD rfl (fun h5000 => ?_) (fun h5000 => ?_)
      · refine e_seq ?_
        refine e_region ?_
        refine w_val (v_assign rfl) rfl ?_
        refine w_nil ?_
        refine e_retQ (q_ret1 rfl (.tmp rfl) ?_)
        exact fun w' hw' => ⟨rfl, hw'.res.nil⟩
      · refine e_skip ?_
        refine e_seq ?_
        refine e_region ?_
        refine w_val (v_move rfl) rfl ?_
        refine w_op rfl ?_
        refine x_call (dst := some 34) (mc := []) (σ := Value) (fun _ => True) (fun sl => .tuple #[sl, .int .i64 (encodeL r).2]) (fun sl => [Own sl 5 1 (encodeL r).1.length (byteCells (encodeL r).1)]) rfl rfl rfl Try.call29 (fun w hw => Encode_spec _ r w (hr.mono hw.off) hin) rfl (fun vx _ => ?_)
        refine g_shape 0 rfl fun A1 k1 hv1 hk1 => ?_
        subst hv1
        refine w_val (v_move rfl) rfl ?_
        refine w_val (v_extract rfl rfl) rfl ?_
        refine w_val (v_extract rfl rfl) rfl ?_
        refine w_val (v_assign rfl) rfl ?_
        refine w_val (v_assign rfl) rfl ?_
        refine w_nil ?_
        refine e_seq ?_
        refine e_region ?_
        refine w_val (v_move rfl) rfl ?_
        refine w_op rfl ?_
        refine x_call (dst := some 39) (mc := []) (σ := Value) (fun _ => True) (fun sl => .tuple #[sl, .int .i64 (encodeL q).2]) (fun sl => [Own sl 5 1 (encodeL q).1.length (byteCells (encodeL q).1)]) rfl rfl rfl Try.call29 (fun w hw => Encode_spec _ q w (hq.mono hw.off) hqin) rfl (fun vy _ => ?_)
        rw [encodeL_code, encodeL_code]
        refine w_val (v_move rfl) rfl ?_
        refine w_val (v_extract rfl rfl) rfl ?_
        refine w_val (v_extract rfl rfl) rfl ?_
        refine w_val (v_assign rfl) rfl ?_
        refine w_val (v_assign rfl) rfl ?_
        refine w_nil ?_
        refine e_seq ?_
        refine e_seq ?_
        refine e_region ?_
        refine w_val (v_move rfl) rfl ?_
        refine w_val (v_eql rfl rfl) rfl ?_
        refine w_nil ?_
        refine e_cutH (σ := Unit) [2] (.cons rfl .nil) (fun _ => []) (fun _ => []) (fun _ => True) ?_ ?_
        · refine e_condD rfl (fun hf0 => ?_) (fun hf0 => ?_)
          · have hf : ¬ roundFaultL r ≠ 0 := by omega
            have hok := okRound_of hf0 hin
            have hE : encodeL r = (encL r, 0) := by rw [encodeL, if_neg hf]
            have hlen := encL_len r
            have hlen2 := encBody_len hok
            rw [hE] at *
            dsimp only at *
            have hd1 := dec_enc roundFaultL hok hf0 bs
            have hcD := fun (v : Value) (w : World) (h : IsBytes w.cell? v (encL r ++ bs)) => Decode_spec v (encL r ++ bs) w h
            rw [hd1] at hcD
            dsimp only at hcD
            refine e_seq ?_
            refine e_region ?_
            refine w_val (v_move rfl) rfl ?_
            refine w_heap (fun _ hw => hw.ownNil 5 1) ?_
            refine w_op rfl ?_
            refine x_appendI (z := .int .u8 0) (n := 0) (xs := []) (size := 1) (bytes := 1) (k := (encL r).length) (news := byteCells (encL r)) 0 rfl rfl rfl Try.underlying58 (by kernel_rfl) rfl (by decide) (fun w hw => own_rds (hw.mem (i := 2) rfl)) (one_byteCells _) (by omega) (by simp only [maxLen]; omega) rfl (fun v46 => ?_)
            refine w_val (v_move rfl) rfl ?_
            refine w_op rfl ?_
            refine x_appendI (z := .int .u8 0) (n := 0 + (encL r).length) (xs := [] ++ byteCells (encL r)) (size := 1) (bytes := 1) (k := bs.length) (news := byteCells bs) 0 rfl rfl rfl Try.underlying58 (by kernel_rfl) rfl (by decide) (fun w hw => hb.mono hw.off) (one_byteCells _) (by omega) (by simp only [maxLen]; omega) rfl (fun v48 => ?_)
            refine g_heap (m' := [Own v48 5 1 (encL r ++ bs).length (byteCells (encL r ++ bs)), Own vy 5 1 (encodeL q).1.length (byteCells (encodeL q).1), Own (.slice A1 (encL r).length k1) 5 1 (encL r).length (byteCells (encL r))]) (fun _ hw => by
              simp only [List.set_cons_zero, List.nil_append, Nat.zero_add] at hw
              rw [byteCells_app, List.length_append]
              exact hw) ?_
            refine w_op rfl ?_
            refine x_call (dst := some 49) (mc := []) (σ := Value × (Nat → Prop)) (fun _ => True) (fun s => .tuple #[s.1, .int .i64 (encL r).length, .int .i64 0]) (fun s => [Keep s.2 (fun c => IsRound c s.1 r)]) rfl rfl rfl Try.call31 (fun w hw => hcD _ w (own_rds (hw.mem (i := 0) rfl))) rfl (fun s _ => ?_)
            obtain ⟨sl, G⟩ := s
            dsimp only
            by_cases hfq0 : roundFaultL q = 0
            · have hfq : ¬ roundFaultL q ≠ 0 := by omega
              have hokq := okRound_of hfq0 hqin
              have hEq : encodeL q = (encL q, 0) := by rw [encodeL, if_neg hfq]
              have hinj := enc_inj hok hokq
              rw [hEq] at *
              dsimp only at *
              refine w_val (v_move rfl) rfl ?_
              refine w_val (v_extract rfl rfl) rfl ?_
              refine w_val (v_extract rfl rfl) rfl ?_
              refine w_val (v_extract rfl rfl) rfl ?_
              refine w_val (v_assign rfl) rfl ?_
              refine w_val (v_assign rfl) rfl ?_
              refine w_val (v_assign rfl) rfl ?_
              refine w_nil ?_
              refine e_seq ?_
              refine e_region ?_
              refine w_val (v_move rfl) rfl ?_
              refine w_val (v_is (v' := .bool false) (v_neq rfl rfl) (by rw [decide_eq_false (fun h => h rfl)])) rfl ?_
              refine w_val (v_move rfl) rfl ?_
              refine w_want rfl rfl ?_
              refine w_val (v_move rfl) rfl ?_
              refine w_want rfl rfl ?_
              refine w_val (v_move rfl) rfl ?_
              refine w_want rfl rfl ?_
              refine w_val (v_lenS Try.underlying58 rfl) rfl ?_
              refine w_want rfl rfl ?_
              refine w_val (v_is (v' := .bool false) (v_neq rfl rfl) (by rw [decide_eq_false (fun h => h rfl)])) rfl ?_
              first | refine w_val (v_pickT rfl rfl) rfl ?_ | refine w_val (v_pickF rfl rfl) rfl ?_
              refine w_val (v_move rfl) rfl ?_
              refine w_want rfl rfl ?_
              refine w_val (v_move rfl) rfl ?_
              refine w_want rfl rfl ?_
              refine w_val (v_move rfl) rfl ?_
              refine w_want rfl rfl ?_
              refine w_op rfl ?_
              refine x_call0 (v := .bool true) rfl rfl rfl Try.call34 rfl (fun w hw => Calls.boolT rfl (sameRound_spec _ _ r r w (keep_all (IsRound.up _ _) (hw.mem (i := 0) rfl)) (hr.mono hw.off) (by have := hok.1; omega) hl)) ?_
              refine w_want rfl rfl ?_
              refine w_val (v_is (v' := .bool false) (v_not rfl) (by rfl)) rfl ?_
              first | refine w_val (v_pickT rfl rfl) rfl ?_ | refine w_val (v_pickF rfl rfl) rfl ?_
              refine w_val (v_move rfl) rfl ?_
              refine w_want rfl rfl ?_
              refine w_val (v_move rfl) rfl ?_
              refine w_want rfl rfl ?_
              refine w_val (v_is (v' := .bool true) (v_eql rfl rfl) (by rw [decide_eq_true hfq0])) rfl ?_
              refine w_want rfl rfl ?_
              refine w_val (v_move rfl) rfl ?_
              refine w_want rfl rfl ?_
              refine w_val (v_move rfl) rfl ?_
              refine w_want rfl rfl ?_
              refine w_val (v_move rfl) rfl ?_
              refine w_want rfl rfl ?_
              refine w_op rfl ?_
              refine x_call0 (v := .bool (decide (encL r = encL q))) rfl rfl rfl Try.call33 rfl (fun w hw => sameBytes_spec _ _ _ _ w (own_rds (hw.mem (i := 3) rfl)) (own_rds (hw.mem (i := 2) rfl))) ?_
              refine w_want rfl rfl ?_
              refine w_val (v_move rfl) rfl ?_
              refine w_want rfl rfl ?_
              refine w_val (v_move rfl) rfl ?_
              refine w_want rfl rfl ?_
              refine w_op rfl ?_
              refine x_call0 (v := .bool (decide (r = q))) rfl rfl rfl Try.call34 rfl (fun w hw => sameRound_spec _ _ r q w (hr.mono hw.off) (hq.mono hw.off) (by have := hok.1; omega) hl) ?_
              refine w_want rfl rfl ?_
              refine w_val (v_is (v' := .bool false) (v_neqBool Try.underlying4 rfl rfl) (by simp [hinj])) rfl ?_
              refine w_want rfl rfl ?_
              first | refine w_val (v_pickT rfl rfl) rfl ?_ | refine w_val (v_pickF rfl rfl) rfl ?_
              first | refine w_val (v_pickT rfl rfl) rfl ?_ | refine w_val (v_pickF rfl rfl) rfl ?_
              refine w_nil ?_
              refine e_condF rfl ?_
              refine e_skip ?_
              exact e_cutEnd (()) (trivial) (by repeat (first | exact Sub.nil _ | refine Sub.cons rfl ?_)) (fun _ hw => hw.sub (List.nil_sublist _))
            · refine w_val (v_move rfl) rfl ?_
              refine w_val (v_extract rfl rfl) rfl ?_
              refine w_val (v_extract rfl rfl) rfl ?_
              refine w_val (v_extract rfl rfl) rfl ?_
              refine w_val (v_assign rfl) rfl ?_
              refine w_val (v_assign rfl) rfl ?_
              refine w_val (v_assign rfl) rfl ?_
              refine w_nil ?_
              refine e_seq ?_
              refine e_region ?_
              refine w_val (v_move rfl) rfl ?_
              refine w_val (v_is (v' := .bool false) (v_neq rfl rfl) (by rw [decide_eq_false (fun h => h rfl)])) rfl ?_
              refine w_val (v_move rfl) rfl ?_
              refine w_want rfl rfl ?_
              refine w_val (v_move rfl) rfl ?_
              refine w_want rfl rfl ?_
              refine w_val (v_move rfl) rfl ?_
              refine w_want rfl rfl ?_
              refine w_val (v_lenS Try.underlying58 rfl) rfl ?_
              refine w_want rfl rfl ?_
              refine w_val (v_is (v' := .bool false) (v_neq rfl rfl) (by rw [decide_eq_false (fun h => h rfl)])) rfl ?_
              first | refine w_val (v_pickT rfl rfl) rfl ?_ | refine w_val (v_pickF rfl rfl) rfl ?_
              refine w_val (v_move rfl) rfl ?_
              refine w_want rfl rfl ?_
              refine w_val (v_move rfl) rfl ?_
              refine w_want rfl rfl ?_
              refine w_val (v_move rfl) rfl ?_
              refine w_want rfl rfl ?_
              refine w_op rfl ?_
              refine x_call0 (v := .bool true) rfl rfl rfl Try.call34 rfl (fun w hw => Calls.boolT rfl (sameRound_spec _ _ r r w (keep_all (IsRound.up _ _) (hw.mem (i := 0) rfl)) (hr.mono hw.off) (by have := hok.1; omega) hl)) ?_
              refine w_want rfl rfl ?_
              refine w_val (v_is (v' := .bool false) (v_not rfl) (by rfl)) rfl ?_
              first | refine w_val (v_pickT rfl rfl) rfl ?_ | refine w_val (v_pickF rfl rfl) rfl ?_
              refine w_val (v_move rfl) rfl ?_
              refine w_want rfl rfl ?_
              refine w_val (v_move rfl) rfl ?_
              refine w_want rfl rfl ?_
              refine w_val (v_is (v' := .bool false) (v_eql rfl rfl) (by rw [decide_eq_false hfq0])) rfl ?_
              refine w_want rfl rfl ?_
              refine w_val (v_move rfl) rfl ?_
              refine w_skip rfl rfl rfl rfl ?_
              refine w_skip rfl rfl rfl rfl ?_
              refine w_skip rfl rfl rfl rfl ?_
              refine w_skip rfl rfl rfl rfl ?_
              refine w_skip rfl rfl rfl rfl ?_
              refine w_skip rfl rfl rfl rfl ?_
              refine w_skip rfl rfl rfl rfl ?_
              refine w_want rfl rfl ?_
              first | refine w_val (v_pickT rfl rfl) rfl ?_ | refine w_val (v_pickF rfl rfl) rfl ?_
              first | refine w_val (v_pickT rfl rfl) rfl ?_ | refine w_val (v_pickF rfl rfl) rfl ?_
              refine w_nil ?_
              refine e_condF rfl ?_
              refine e_skip ?_
              exact e_cutEnd (()) (trivial) (by repeat (first | exact Sub.nil _ | refine Sub.cons rfl ?_)) (fun _ hw => hw.sub (List.nil_sublist _))
          · refine e_skip ?_
            exact e_cutEnd (()) (trivial) (by repeat (first | exact Sub.nil _ | refine Sub.cons rfl ?_)) (fun _ hw => hw.sub (List.nil_sublist _))
        · rintro - -
          have hz := decL_small bs
          have hzin := decL_in bs
          have hbad := dec_bad (b := bs) roundFaultL
          have hgood := fun z n => enc_dec (b := bs) (z := z) (n := n) roundFaultL
          have hcD2 := fun (v : Value) (w : World) (h : IsBytes w.cell? v bs) => Decode_spec v bs w h
          generalize decL roundFaultL bs = X at *
          obtain ⟨z, n, c⟩ := X
          dsimp only at *
          refine e_seq ?_
          refine e_region ?_
          refine w_val (v_move rfl) rfl ?_
          refine w_op rfl ?_
          refine x_call (dst := some 82) (mc := []) (σ := Value × (Nat → Prop)) (fun _ => True) (fun s => .tuple #[s.1, .int .i64 n, .int .i64 c]) (fun s => [Keep s.2 (fun c => IsRound c s.1 z)]) rfl rfl rfl Try.call31 (fun w hw => hcD2 _ w (hb.mono hw.off)) rfl (fun s _ => ?_)
          obtain ⟨sl, G⟩ := s
          dsimp only
          refine g_round 0 rfl fun A2 k2 hsl hk2 => ?_
          subst hsl
          refine w_val (v_move rfl) rfl ?_
          refine w_val (v_extract rfl rfl) rfl ?_
          refine w_val (v_extract rfl rfl) rfl ?_
          refine w_val (v_extract rfl rfl) rfl ?_
          refine w_val (v_assign rfl) rfl ?_
          refine w_val (v_assign rfl) rfl ?_
          refine w_val (v_assign rfl) rfl ?_
          refine w_nil ?_
          refine e_seq ?_
          refine e_seq ?_
          refine e_region ?_
          refine w_val (v_move rfl) rfl ?_
          refine w_val (v_neq rfl rfl) rfl ?_
          refine w_nil ?_
          refine e_condD rfl (fun hc0 => ?_) (fun hc0 => ?_)
          · obtain ⟨rfl, rfl⟩ := hbad hc0
            refine e_seq ?_
            refine e_region ?_
            refine w_val (v_move rfl) rfl ?_
            refine w_val (v_is (v' := .bool true) (v_eql rfl rfl) (by rfl)) rfl ?_
            refine w_val (v_move rfl) rfl ?_
            refine w_want rfl rfl ?_
            refine w_val (v_move rfl) rfl ?_
            refine w_want rfl rfl ?_
            refine w_val (v_lenS Try.underlying40 rfl) rfl ?_
            refine w_want rfl rfl ?_
            refine w_val (v_is (v' := .bool true) (v_eql rfl rfl) (by rfl)) rfl ?_
            first | refine w_val (v_pickT rfl rfl) rfl ?_ | refine w_val (v_pickF rfl rfl) rfl ?_
            refine w_val (v_assign rfl) rfl ?_
            refine w_nil ?_
            refine e_retQ (q_ret1 rfl (.tmp rfl) ?_)
            exact fun w' hw' => ⟨rfl, hw'.res.nil⟩
          · obtain rfl : c = 0 := by omega
            obtain ⟨hz0, rfl, hzl, hzt⟩ := hgood z n rfl
            have hE : encodeL z = (encL z, 0) := by rw [encodeL, if_neg (by omega)]
            have hcE := fun (v : Value) (w : World) (h : IsRound w.cell? v z) => Encode_spec v z w h hzin
            rw [hE] at hcE
            dsimp only at hcE
            refine e_skip ?_
            refine e_seq ?_
            refine e_region ?_
            refine w_val (v_move rfl) rfl ?_
            refine w_op rfl ?_
            refine x_call (dst := some 97) (mc := []) (σ := Value) (fun _ => True) (fun sl => .tuple #[sl, .int .i64 0]) (fun sl => [Own sl 5 1 (encL z).length (byteCells (encL z))]) rfl rfl rfl Try.call29 (fun w hw => hcE _ w (keep_all (IsRound.up _ _) (hw.mem (i := 0) rfl))) rfl (fun vw _ => ?_)
            refine g_shape 0 rfl fun A3 k3 hv3 hk3 => ?_
            subst hv3
            refine w_val (v_move rfl) rfl ?_
            refine w_val (v_extract rfl rfl) rfl ?_
            refine w_val (v_extract rfl rfl) rfl ?_
            refine w_val (v_assign rfl) rfl ?_
            refine w_val (v_assign rfl) rfl ?_
            refine w_nil ?_
            refine e_seq ?_
            refine e_region ?_
            refine w_val (v_move rfl) rfl ?_
            refine w_val (v_is (v' := .bool true) (v_eql rfl rfl) (by rfl)) rfl ?_
            refine w_val (v_move rfl) rfl ?_
            refine w_want rfl rfl ?_
            refine w_val (v_move rfl) rfl ?_
            refine w_want rfl rfl ?_
            refine w_val (v_move rfl) rfl ?_
            refine w_want rfl rfl ?_
            refine w_val (v_lenS Try.underlying58 rfl) rfl ?_
            refine w_want rfl rfl ?_
            refine w_val (v_is (v' := .bool true) (v_eql rfl rfl) (by rw [decide_eq_true rfl])) rfl ?_
            first | refine w_val (v_pickT rfl rfl) rfl ?_ | refine w_val (v_pickF rfl rfl) rfl ?_
            refine w_val (v_move rfl) rfl ?_
            refine w_want rfl rfl ?_
            refine w_val (v_move rfl) rfl ?_
            refine w_want rfl rfl ?_
            refine w_val (v_move rfl) rfl ?_
            refine w_want rfl rfl ?_
            refine w_val (v_lenS Try.underlying58 rfl) rfl ?_
            refine w_want rfl rfl ?_
            refine w_val (v_is (v' := .bool true) (v_leq rfl rfl) (by rw [decide_eq_true (by omega)])) rfl ?_
            first | refine w_val (v_pickT rfl rfl) rfl ?_ | refine w_val (v_pickF rfl rfl) rfl ?_
            refine w_val (v_move rfl) rfl ?_
            refine w_want rfl rfl ?_
            refine w_val (v_move rfl) rfl ?_
            refine w_want rfl rfl ?_
            refine w_val (v_move rfl) rfl ?_
            refine w_want rfl rfl ?_
            refine w_val (v_move rfl) rfl ?_
            refine w_want rfl rfl ?_
            refine w_val (v_sliceH Try.underlying58 Try.hi5 Try.cz5 rfl rfl (by omega)) rfl ?_
            refine w_want rfl rfl ?_
            refine w_op rfl ?_
            refine x_call0 (v := .bool true) rfl rfl rfl Try.call33 rfl (fun w hw => Calls.boolT hzt (sameBytes_spec _ _ (encL z) (bs.take (encL z).length) w (own_rds (hw.mem (i := 0) rfl)) (by have := IsBytes.slice (lo := 0) (hi := (encL z).length) (hb.mono hw.off) (by omega) hzl; simpa using this))) ?_
            first | refine w_val (v_pickT rfl rfl) rfl ?_ | refine w_val (v_pickF rfl rfl) rfl ?_
            refine w_val (v_assign rfl) rfl ?_
            refine w_nil ?_
            refine e_retQ (q_ret1 rfl (.tmp rfl) ?_)
            exact fun w' hw' => ⟨rfl, hw'.res.nil⟩
end Go.SL
