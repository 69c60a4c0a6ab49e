/- YtebdkaadbakhladDoor: part ZJ of this seat's own texts. -/
import Derived.Test.YtebdkaadbakhladDoorZ5
import Derived.Test.YtebdkaadbakhladDoorW4
set_option linter.unusedVariables false
set_option linter.unusedSimpArgs false

open Go Go.Proofs Go.SL Go.RowKit
set_option maxRecDepth 100000
set_option maxHeartbeats 4000000
namespace Go.SL
theorem blanksL_app (k : Nat) : ∀ (a : List UInt8) (b : UInt8), blanksL k (a ++ [b]) = blanksL k a ++ ((if b = 32 ∨ b = 59 then List.replicate k 32 else []) ++ [b])
  | [], b => by simp [blanksL]
  | c :: t, b => by
    rw [List.cons_append, blanksL, blanksL, blanksL_app k t b]
    simp
theorem blanksL_len (k : Nat) : ∀ a : List UInt8, (blanksL k a).length ≤ (k + 1) * a.length
  | [] => by simp [blanksL]
  | c :: t => by
    have := blanksL_len k t
    have e : (blanksL k (c :: t)).length ≤ (k + 1) + (blanksL k t).length := by
      rw [blanksL]
      split
      · simp; omega
      · simp; omega
    rw [List.length_cons, Nat.mul_succ]
    omega
theorem u64_four (x : Int) : ∃ k : Nat, k < 4 ∧ (IntKind.u64.wrap x).tmod 4 = k := by
  have h0 : 0 ≤ IntKind.u64.wrap x := by simp [IntKind.wrap, IntKind.bits, IntKind.signed]; omega
  have h1 := Int.tmod_nonneg (4 : Int) h0
  have h2 := Int.tmod_lt_of_pos (IntKind.u64.wrap x) (show (0 : Int) < 4 by omega)
  exact ⟨((IntKind.u64.wrap x).tmod 4).toNat, by omega, by omega⟩
theorem byte_eq (b c : UInt8) : ((b.toNat : Int) = (c.toNat : Int)) ↔ b = c := by
  rw [← UInt8.toNat_inj]; omega
theorem one_cut {s : List UInt8} {i : Nat} (h : i < s.length) : (s.drop ((i : Int)).toNat).take (((i : Int) + 1).toNat - ((i : Int)).toNat) = [s[i]] := by
  have e : ((i : Int) + 1).toNat = i + 1 := by omega
  rw [e, Int.toNat_natCast, Nat.add_sub_cancel_left, List.drop_eq_getElem_cons h]
  rfl
theorem TextBlanks_spec (v : Value) (d : DeedL) (n : Int) (w : World) (h : IsDeed w.cell? v d) (hin : ∀ o ∈ d, OpIn o) (hL : LaidD w) :
    Calls Tryd.prog 5 #[v, .int .i64 n] w fun e w' => e = .returned (.bool true) ∧ Res w [] [] w' := by
  rw [← off_none w] at h
  have hs := h
  obtain ⟨A, kp, rfl, hle, hc⟩ := h.form
  refine enter0 (N := 77) Tryd.func5 rfl rfl rfl ?_
  refine e_seq ?_
  refine e_region ?_
  refine w_val (v_assign rfl) rfl ?_
  refine w_nil ?_
  refine e_seq ?_
  refine e_seq ?_
  refine e_region ?_
  refine w_op rfl ?_
  refine x_call0 (v := .bool true) rfl rfl rfl Tryd.call7 rfl (fun w hw => textBegun_spec w (hL.chg hw.chg)) ?_
  refine w_val (v_is (v' := .bool false) (v_not rfl) (by rfl)) rfl ?_
  refine w_nil ?_
  refine e_condF rfl ?_
  refine e_skip ?_
  refine e_seq ?_
  refine e_seq ?_
  refine e_region ?_
  refine w_val (v_move rfl) rfl ?_
  refine w_val (v_lenS Tryd.underlying23 rfl) rfl ?_
  refine w_val (v_gtr rfl rfl) rfl ?_
  refine w_nil ?_
  refine e_condD rfl (fun h200 => ?_) (fun h200 => ?_)
  · refine e_seq ?_
    refine e_region ?_
    refine w_val (v_assign rfl) rfl ?_
    refine w_nil ?_
    refine e_retQ (q_ret1 rfl (.tmp rfl) ?_)
    exact fun w' hw' => ⟨rfl, hw'.res.nil⟩
  · by_cases hne : (checkL d).1 ≠ 0
    · have hp : printS d = ([], checkL d) := by unfold printS; rw [if_pos hne]
      refine e_skip ?_
      refine e_seq ?_
      refine e_region ?_
      refine w_val (v_move rfl) rfl ?_
      refine w_op rfl ?_
      refine x_call0 (v := .tuple #[strV [], .agg #[.int .i64 (checkL d).1, .int .i64 (checkL d).2]]) rfl rfl rfl Tryd.call9 rfl (fun w hw => by have := txPrint_spec _ d w (hs.mono hw.off) hin (hL.chg hw.chg); rw [hp] at this; exact this) ?_
      refine w_val (v_move rfl) rfl ?_
      refine w_val (v_extract rfl rfl) rfl ?_
      refine w_val (v_extract rfl rfl) rfl ?_
      refine w_op rfl ?_
      refine x_alloc (z := .agg #[.int .i64 0, .int .i64 0]) (by intro w; exact Tryd.zeroValue29 w) rfl (fun b6 => ?_)
      refine w_val (v_assign rfl) rfl ?_
      refine w_op rfl ?_
      refine x_storeA 0 rfl rfl rfl Tryd.hi29 Tryd.cz29 rfl (by first | (simp [Value.oneCell', opCells]; done) | assumption | exact one_ints _ | exact one_resCells _ _ | exact one_slotC _) ?_
      refine w_nil ?_
      refine e_seq ?_
      refine e_seq ?_
      refine e_region ?_
      refine w_val (v_fieldAddrB (o := 0) Tryd.underlying29 rfl rfl Tryd.nz3 rfl) rfl ?_
      refine w_val (v_loadB 0 rfl Tryd.underlying3 rfl rfl rfl) rfl ?_
      refine w_val (v_neq rfl rfl) rfl ?_
      refine w_nil ?_
      refine e_condDT rfl (by omega) ?_
      refine e_seq ?_
      refine e_region ?_
      refine w_val (v_move rfl) rfl ?_
      refine w_val (v_is (v' := .bool true) (v_strEql rfl rfl) (by rw [decide_eq_true rfl])) rfl ?_
      refine w_val (v_assign rfl) rfl ?_
      refine w_nil ?_
      refine e_retQ (q_ret1 rfl (.tmp rfl) ?_)
      exact fun w' hw' => ⟨rfl, hw'.res.nil⟩
    · have hc0 : (checkL d).1 = 0 := by omega
      have hp : printS d = (printL d, (0, 0)) := by unfold printS; rw [if_neg hne]
      have hpl := printL_len (checked hc0).1 hin
      have hpb := fun k => parse_blanks hc0 hin k
      obtain ⟨k, hk, hkm⟩ := u64_four n
      generalize printL d = s at *
      have hbl := blanksL_len k s
      refine e_skip ?_
      refine e_seq ?_
      refine e_region ?_
      refine w_val (v_move rfl) rfl ?_
      refine w_op rfl ?_
      refine x_call0 (v := .tuple #[strV s, .agg #[.int .i64 0, .int .i64 0]]) rfl rfl rfl Tryd.call9 rfl (fun w hw => by have := txPrint_spec _ d w (hs.mono hw.off) hin (hL.chg hw.chg); rw [hp] at this; exact this) ?_
      refine w_val (v_move rfl) rfl ?_
      refine w_val (v_extract rfl rfl) rfl ?_
      refine w_val (v_extract rfl rfl) rfl ?_
      refine w_op rfl ?_
      refine x_alloc (z := .agg #[.int .i64 0, .int .i64 0]) (by intro w; exact Tryd.zeroValue29 w) rfl (fun b6 => ?_)
      refine w_val (v_assign rfl) rfl ?_
      refine w_op rfl ?_
      refine x_storeA 0 rfl rfl rfl Tryd.hi29 Tryd.cz29 rfl (by first | (simp [Value.oneCell', opCells]; done) | assumption | exact one_ints _ | exact one_resCells _ _ | exact one_slotC _) ?_
      refine w_nil ?_
      refine e_seq ?_
      refine e_seq ?_
      refine e_region ?_
      refine w_val (v_fieldAddrB (o := 0) Tryd.underlying29 rfl rfl Tryd.nz3 rfl) rfl ?_
      refine w_val (v_loadB 0 rfl Tryd.underlying3 rfl rfl rfl) rfl ?_
      refine w_val (v_is (v' := .bool false) (v_neq rfl rfl) (by rfl)) rfl ?_
      refine w_nil ?_
      refine e_condF rfl ?_
      refine e_skip ?_
      refine e_seq ?_
      refine e_region ?_
      refine w_val (v_move rfl) rfl ?_
      refine w_val (v_conv Tryd.underlying37 (by rw [Tryd.underlying3]; rfl) rfl) rfl ?_
      refine w_val (v_is (v' := .int .u64 (k : Int)) (v_rem rfl rfl (by omega)) (by rw [hkm])) rfl ?_
      refine w_val (v_is (v' := .int .i64 (k : Int)) (v_conv Tryd.underlying3 (by rw [Tryd.underlying37]; rfl) rfl) (by rw [w64_of (n := (k : Int)) (m := (k : Int)) (by omega) (by omega) (by omega)])) rfl ?_
      refine w_val (v_assign rfl) rfl ?_
      refine w_nil ?_
      refine e_seq ?_
      refine e_region ?_
      refine w_val (v_assign rfl) rfl ?_
      refine w_nil ?_
      refine e_seq ?_
      refine e_seq ?_
      refine e_region ?_
      refine w_val (v_assign rfl) rfl ?_
      refine w_nil ?_
      refine e_block ?_
      refine e_loopK (σ := Nat) [0, 5, 7] (.cons rfl (.cons rfl (.cons rfl .nil))) (fun i => [(9, .int .i64 (i : Int)), (8, strV (blanksL k (s.take i)))]) (fun i => i ≤ s.length) (fun i => s.length - i) 0 (Nat.zero_le _) (by repeat (first | exact Sub.nil _ | refine Sub.cons rfl ?_)) ?_
      rintro i hi
      dsimp only at hi ⊢
      refine e_seq ?_
      refine e_seq ?_
      refine e_region ?_
      refine w_val (v_move rfl) rfl ?_
      refine w_val (v_move rfl) rfl ?_
      refine w_val (v_strLen Tryd.underlying9 rfl) rfl ?_
      refine w_val (v_lss rfl rfl) rfl ?_
      refine w_nil ?_
      refine e_condD rfl (fun hlt => ?_) (fun hlt => ?_)
      · have hi' : i < s.length := by omega
        have hat : s[((i : Int)).toNat]? = some s[i] := by rw [Int.toNat_natCast]; exact List.getElem?_eq_getElem hi'
        have hcut := one_cut hi'
        have hsn := blanksL_app k (s.take i) s[i]
        rw [← List.take_succ_eq_append_getElem hi'] at hsn
        have hbi := blanksL_len k (s.take i)
        rw [List.length_take, Nat.min_eq_left hi] at hbi
        have hki : (k + 1) * i ≤ 4 * 1428 := Nat.mul_le_mul (by omega) (by omega)
        generalize hb : s[i] = b at *
        have e32 : decide (((b.toNat : Nat) : Int) = 32) = decide (b = 32) := decide_eq_decide.2 (byte_eq b 32)
        have e59 : decide (((b.toNat : Nat) : Int) = 59) = decide (b = 59) := decide_eq_decide.2 (byte_eq b 59)
        generalize hpre : blanksL k (s.take i) = pre at *
        by_cases hsp : b = 32 ∨ b = 59
        · rw [if_pos hsp] at hsn
          refine e_skip ?_
          refine e_seq ?_
          refine e_block ?_
          refine e_seq ?_
          refine e_cutK (σ := Unit) [0, 5, 7, 9] (.cons rfl (.cons rfl (.cons rfl (.cons rfl .nil)))) (fun _ => [(8, strV (pre ++ List.replicate k 32))]) (fun _ => True) ?_ ?_
          · refine e_seq ?_
            refine e_cutK (σ := Unit) [0, 5, 7, 8, 9] (.cons rfl (.cons rfl (.cons rfl (.cons rfl (.cons rfl .nil))))) (fun _ => [(47, .bool true)]) (fun _ => True) ?_ ?_
            · by_cases h32 : b = 32
              · refine e_region ?_
                refine w_val (v_move rfl) rfl ?_
                refine w_val (v_move rfl) rfl ?_
                refine w_val (v_strAt Tryd.underlying9 rfl rfl (by omega) hat) rfl ?_
                refine w_val (v_is (v' := .bool true) (v_eql rfl rfl) (by rw [e32, decide_eq_true h32])) rfl ?_
                refine w_val (v_move rfl) rfl ?_
                refine w_skip rfl rfl rfl rfl ?_
                refine w_skip rfl rfl rfl rfl ?_
                refine w_skip rfl rfl rfl rfl ?_
                refine w_skip rfl rfl rfl rfl ?_
                refine w_val (v_pickT rfl rfl) rfl ?_
                refine w_nil ?_
                exact e_cutEnd (()) (trivial) (by repeat (first | exact Sub.nil _ | refine Sub.cons rfl ?_)) (fun _ hw => hw)
              · refine e_region ?_
                refine w_val (v_move rfl) rfl ?_
                refine w_val (v_move rfl) rfl ?_
                refine w_val (v_strAt Tryd.underlying9 rfl rfl (by omega) hat) rfl ?_
                refine w_val (v_is (v' := .bool false) (v_eql rfl rfl) (by rw [e32, decide_eq_false h32])) rfl ?_
                refine w_val (v_move rfl) rfl ?_
                refine w_want rfl rfl ?_
                refine w_val (v_move rfl) rfl ?_
                refine w_want rfl rfl ?_
                refine w_val (v_move rfl) rfl ?_
                refine w_want rfl rfl ?_
                refine w_val (v_strAt Tryd.underlying9 rfl rfl (by omega) hat) rfl ?_
                refine w_want rfl rfl ?_
                refine w_val (v_is (v' := .bool true) (v_eql rfl rfl) (by rw [e59, decide_eq_true (hsp.resolve_left h32)])) rfl ?_
                refine w_val (v_pickF rfl rfl) rfl ?_
                refine w_nil ?_
                exact e_cutEnd (()) (trivial) (by repeat (first | exact Sub.nil _ | refine Sub.cons rfl ?_)) (fun _ hw => hw)
            · rintro - -
              refine e_condT rfl ?_
              refine e_seq ?_
              refine e_region ?_
              refine w_val (v_assign rfl) rfl ?_
              refine w_nil ?_
              refine e_block ?_
              rw [show strV pre = strV (pre ++ List.replicate 0 32) from by simp]
              refine e_loopK (σ := Nat) [0, 5, 7, 9] (.cons rfl (.cons rfl (.cons rfl (.cons rfl .nil)))) (fun j => [(10, .int .i64 (j : Int)), (8, strV (pre ++ List.replicate j 32))]) (fun j => j ≤ k) (fun j => k - j) 0 (Nat.zero_le _) (by repeat (first | exact Sub.nil _ | refine Sub.cons rfl ?_)) ?_
              rintro j hj
              dsimp only at hj ⊢
              refine e_seq ?_
              refine e_seq ?_
              refine e_region ?_
              refine w_val (v_move rfl) rfl ?_
              refine w_val (v_move rfl) rfl ?_
              refine w_val (v_lss rfl rfl) rfl ?_
              refine w_nil ?_
              refine e_condD rfl (fun hlt2 => ?_) (fun hlt2 => ?_)
              · have hrep : (pre ++ List.replicate j 32) ++ [32] = pre ++ List.replicate (j + 1) 32 := by rw [List.append_assoc, ← List.replicate_succ']
                refine e_skip ?_
                refine e_seq ?_
                refine e_block ?_
                refine e_region ?_
                refine w_val (v_move rfl) rfl ?_
                refine w_val (v_is (v' := strV (pre ++ List.replicate (j + 1) 32)) (v_strAdd rfl rfl (by simp only [List.length_append, List.length_cons, List.length_nil, List.length_replicate]; omega)) (by rw [hrep])) rfl ?_
                refine w_val (v_assign rfl) rfl ?_
                refine w_nil ?_
                refine e_blk ?_
                refine e_region ?_
                refine w_val (v_move rfl) rfl ?_
                refine w_val (v_add rfl rfl (by omega)) rfl ?_
                refine w_val (v_assign rfl) rfl ?_
                refine w_nil ?_
                exact e_round (j + 1) (by omega) (by omega) (by repeat (first | exact Sub.nil _ | refine Sub.cons rfl ?_)) (fun _ hw => hw)
              · have e : j = k := by omega
                subst e
                refine e_exit rfl ?_
                exact e_cutEnd (()) (trivial) (by repeat (first | exact Sub.nil _ | refine Sub.cons rfl ?_)) (fun _ hw => hw)
          · rintro - -
            refine e_region ?_
            refine w_val (v_move rfl) rfl ?_
            refine w_val (v_move rfl) rfl ?_
            refine w_val (v_move rfl) rfl ?_
            refine w_val (v_move rfl) rfl ?_
            refine w_val (v_add rfl rfl (by omega)) rfl ?_
            refine w_val (v_is (v' := strV [b]) (v_strCut Tryd.underlying9 rfl rfl rfl (by omega)) (by rw [hcut])) rfl ?_
            refine w_val (v_is (v' := strV (blanksL k (s.take (i + 1)))) (v_strAdd rfl rfl (by simp only [List.length_append, List.length_cons, List.length_nil, List.length_replicate]; omega)) (by rw [hsn, List.append_assoc])) rfl ?_
            refine w_val (v_assign rfl) rfl ?_
            refine w_nil ?_
            refine e_blk ?_
            refine e_region ?_
            refine w_val (v_move rfl) rfl ?_
            refine w_val (v_add rfl rfl (by omega)) rfl ?_
            refine w_val (v_assign rfl) rfl ?_
            refine w_nil ?_
            exact e_round (i + 1) (by omega) (by omega) (by repeat (first | exact Sub.nil _ | refine Sub.cons rfl ?_)) (fun _ hw => hw)
        · rw [if_neg hsp] at hsn
          have h32 : b ≠ 32 := fun h => hsp (.inl h)
          have h59 : b ≠ 59 := fun h => hsp (.inr h)
          refine e_skip ?_
          refine e_seq ?_
          refine e_block ?_
          refine e_seq ?_
          refine e_seq ?_
          refine e_region ?_
          refine w_val (v_move rfl) rfl ?_
          refine w_val (v_move rfl) rfl ?_
          refine w_val (v_strAt Tryd.underlying9 rfl rfl (by omega) hat) rfl ?_
          refine w_val (v_is (v' := .bool false) (v_eql rfl rfl) (by rw [e32, decide_eq_false h32])) rfl ?_
          refine w_val (v_move rfl) rfl ?_
          refine w_want rfl rfl ?_
          refine w_val (v_move rfl) rfl ?_
          refine w_want rfl rfl ?_
          refine w_val (v_move rfl) rfl ?_
          refine w_want rfl rfl ?_
          refine w_val (v_strAt Tryd.underlying9 rfl rfl (by omega) hat) rfl ?_
          refine w_want rfl rfl ?_
          refine w_val (v_is (v' := .bool false) (v_eql rfl rfl) (by rw [e59, decide_eq_false h59])) rfl ?_
          refine w_val (v_pickF rfl rfl) rfl ?_
          refine w_nil ?_
          refine e_condF rfl ?_
          refine e_skip ?_
          refine e_region ?_
          refine w_val (v_move rfl) rfl ?_
          refine w_val (v_move rfl) rfl ?_
          refine w_val (v_move rfl) rfl ?_
          refine w_val (v_move rfl) rfl ?_
          refine w_val (v_add rfl rfl (by omega)) rfl ?_
          refine w_val (v_is (v' := strV [b]) (v_strCut Tryd.underlying9 rfl rfl rfl (by omega)) (by rw [hcut])) rfl ?_
          refine w_val (v_is (v' := strV (blanksL k (s.take (i + 1)))) (v_strAdd rfl rfl (by simp only [List.length_append, List.length_cons, List.length_nil]; omega)) (by rw [hsn]; rfl)) rfl ?_
          refine w_val (v_assign rfl) rfl ?_
          refine w_nil ?_
          refine e_blk ?_
          refine e_region ?_
          refine w_val (v_move rfl) rfl ?_
          refine w_val (v_add rfl rfl (by omega)) rfl ?_
          refine w_val (v_assign rfl) rfl ?_
          refine w_nil ?_
          exact e_round (i + 1) (by omega) (by omega) (by repeat (first | exact Sub.nil _ | refine Sub.cons rfl ?_)) (fun _ hw => hw)
      · have e : i = s.length := by omega
        subst e
        rw [List.take_length]
        have hkl : (k + 1) * s.length ≤ 4 * 1428 := Nat.mul_le_mul (by omega) (by omega)
        have hpk := hpb k
        generalize blanksL k s = t at *
        refine e_exit rfl ?_
        refine e_seq ?_
        refine e_region ?_
        refine w_val (v_move rfl) rfl ?_
        refine w_val (v_strAdd rfl rfl (by simp only [List.length_append, List.length_cons, List.length_nil]; omega)) rfl ?_
        refine w_val (v_strAdd rfl rfl (by simp only [List.length_append, List.length_cons, List.length_nil]; omega)) rfl ?_
        refine w_op rfl ?_
        refine x_call (dst := some 66) (mc := []) (σ := Value) (fun _ => True) (fun v => .tuple #[v, .agg #[.int .i64 0, .int .i64 0]]) (fun v => [Own v 41 5 d.length (deedCells d)]) rfl rfl rfl Tryd.call11 (fun w hw => by have := txParse_spec (32 :: 32 :: (t ++ [32])) w (by simp; omega) (hL.chg hw.chg); rw [hpk] at this; exact this) rfl (fun v _ => ?_)
        refine w_val (v_move rfl) rfl ?_
        refine w_val (v_extract rfl rfl) rfl ?_
        refine w_val (v_extract rfl rfl) rfl ?_
        refine w_op rfl ?_
        refine x_alloc (z := .agg #[.int .i64 0, .int .i64 0]) (by intro w; exact Tryd.zeroValue29 w) rfl (fun b12 => ?_)
        refine w_val (v_assign rfl) rfl ?_
        refine w_op rfl ?_
        refine x_storeA 0 rfl rfl rfl Tryd.hi29 Tryd.cz29 rfl (by first | (simp [Value.oneCell', opCells]; done) | assumption | exact one_ints _ | exact one_resCells _ _ | exact one_slotC _) ?_
        refine w_nil ?_
        refine e_seq ?_
        refine e_region ?_
        refine w_val (v_fieldAddrB (o := 0) Tryd.underlying29 rfl rfl Tryd.nz3 rfl) rfl ?_
        refine w_val (v_loadB 0 rfl Tryd.underlying3 rfl rfl rfl) rfl ?_
        refine w_val (v_is (v' := .bool true) (v_eql rfl rfl) (by rfl)) rfl ?_
        refine w_val (v_move rfl) rfl ?_
        refine w_want rfl rfl ?_
        refine w_val (v_move rfl) rfl ?_
        refine w_want rfl rfl ?_
        refine w_val (v_move rfl) rfl ?_
        refine w_want rfl rfl ?_
        refine w_op rfl ?_
        refine x_call0 (v := .bool true) rfl rfl rfl Tryd.call13 rfl (fun w hw => by have := sameDeed_spec _ _ d d w (own_rds (hw.mem (i := 1) rfl)) (hs.mono hw.off) (by omega); rwa [decide_eq_true rfl] at this) ?_
        refine w_val (v_pickT rfl rfl) rfl ?_
        refine w_val (v_assign rfl) rfl ?_
        refine w_nil ?_
        refine e_retQ (q_ret1 rfl (.tmp rfl) ?_)
        exact fun w' hw' => ⟨rfl, hw'.res.nil⟩
end Go.SL

