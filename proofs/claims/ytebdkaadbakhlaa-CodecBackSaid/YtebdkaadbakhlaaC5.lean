/- Ytebdkaadbakhlaa: part C5 of this seat's own texts. -/
import Derived.Test.YtebdkaadbakhlaaC4
set_option linter.unusedVariables false
set_option linter.unusedSimpArgs false
open Go Go.Proofs Go.SL
set_option maxRecDepth 100000
namespace Go.SL
def roundFrom : RoundL → Int
  | [] => 0
  | d :: r => if (checkL d).1 ≠ 0 then (checkL d).1 else roundFrom r
def roundFaultL (r : RoundL) : Int := if 8 < r.length then 4 else roundFrom r
theorem roundFrom_at {r : RoundL} {k : Nat} (h : k < r.length) : roundFrom (r.drop k) = if (checkL r[k]).1 ≠ 0 then (checkL r[k]).1 else roundFrom (r.drop (k + 1)) := by
  rw [List.drop_eq_getElem_cons h]; rfl
theorem IsRound.form {c : View} {v : Value} {r : RoundL} (h : IsRound c v r) : ∃ A k, v = .slice A r.length k ∧ r.length ≤ k ∧ ∀ i (hi : i < r.length), ∃ ad u, A = some ad ∧ c (ad.add (((i : Int)).toNat * 1)) = some u ∧ IsDeed c u r[i] := by
  obtain ⟨vs, ⟨A, k, h1, h2, h3, h4⟩, h5⟩ := h
  refine ⟨A, k, h1, h2, fun i hi => ?_⟩
  obtain ⟨ad, h6, h7⟩ := h4 (by omega)
  obtain ⟨u, h8, h9⟩ := h5 i hi
  exact ⟨ad, u, h6, by have := h7 i u h8; simpa using this, h9⟩
theorem codeRound_spec (v : Value) (r : RoundL) (w : World) (h : IsRound w.cell? v r) : Calls Try.prog 49 #[v] w fun e w' => e = .returned (.int .i64 (roundFaultL r)) ∧ Res w [] [] w' := by
  rw [← off_none w] at h
  obtain ⟨A, kp, rfl, hle, hc⟩ := h.form
  refine enter0 (N := 23) Try.func49 rfl rfl rfl ?_
  refine e_seq ?_
  refine e_region ?_
  refine w_val (v_assign rfl) rfl ?_
  refine w_nil ?_
  refine e_seq ?_
  refine e_seq ?_
  refine e_region ?_
  refine w_val (v_move rfl) rfl ?_
  refine w_val (v_lenS Try.underlying40 rfl) rfl ?_
  refine w_val (v_gtr rfl rfl) rfl ?_
  refine w_nil ?_
  refine e_condD rfl (fun h8 => ?_) (fun h8 => ?_)
  · refine e_seq ?_
    refine e_region ?_
    refine w_val (v_assign rfl) rfl ?_
    refine w_nil ?_
    refine e_retQ (q_ret1 rfl (.tmp rfl) ?_)
    exact fun w' hw' => ⟨by simp only [roundFaultL]; rw [if_pos (by omega)], hw'.res.nil⟩
  · refine e_skip ?_
    refine e_seq ?_
    refine e_seq ?_
    refine e_region ?_
    refine w_val (v_move rfl) rfl ?_
    refine w_val (v_lenS Try.underlying40 rfl) rfl ?_
    refine w_val (v_move rfl) rfl ?_
    refine w_nil ?_
    refine e_block ?_
    refine e_loopK (σ := Nat) [0, 2, 9, 10] (.cons rfl (.cons rfl (.cons rfl (.cons rfl .nil)))) (fun k => [(11, .int .i64 k)]) (fun k => k ≤ r.length ∧ roundFrom (r.drop k) = roundFaultL r) (fun k => r.length - k) 0 ⟨by simp, by simp only [roundFaultL]; rw [if_neg (by omega)]; rfl⟩ (by repeat (first | exact Sub.nil _ | refine Sub.cons rfl ?_)) ?_
    rintro k ⟨hk, hrel⟩
    refine e_seq ?_
    refine e_region ?_
    refine w_val (v_lss rfl rfl) rfl ?_
    refine w_nil ?_
    refine e_seq ?_
    refine e_condD rfl (fun hlt => ?_) (fun hlt => ?_)
    · have hlt' : k < r.length := by omega
      obtain ⟨ad, u, rfl, hcell, hd⟩ := hc k hlt'
      rw [roundFrom_at hlt'] at hrel
      generalize r[k] = d at *
      refine e_skip ?_
      refine e_seq ?_
      refine e_block ?_
      refine e_seq ?_
      refine e_region ?_
      first | refine w_val (v_indexSB Try.underlying40 Try.hi25 Try.cz25 rfl rfl (by omega)) rfl ?_ | refine w_val (v_indexS Try.underlying40 Try.hi25 Try.cz25 rfl rfl (by omega)) rfl ?_
      first | refine w_val (v_loadO Try.underlying25 rfl rfl (hcell)) rfl ?_ | refine w_val (v_loadB 0 rfl Try.underlying25 rfl rfl rfl) rfl ?_ | refine w_val (v_loadB 1 rfl Try.underlying25 rfl rfl rfl) rfl ?_ | refine w_val (v_loadB 2 rfl Try.underlying25 rfl rfl rfl) rfl ?_ | refine w_val (v_loadB 3 rfl Try.underlying25 rfl rfl rfl) rfl ?_ | refine w_val (v_loadB 4 rfl Try.underlying25 rfl rfl rfl) rfl ?_ | refine w_val (v_loadB 5 rfl Try.underlying25 rfl rfl rfl) rfl ?_ | refine w_val (v_loadB 6 rfl Try.underlying25 rfl rfl rfl) rfl ?_ | refine w_val (v_loadB 7 rfl Try.underlying25 rfl rfl rfl) rfl ?_
      refine w_val (v_assign rfl) rfl ?_
      refine w_nil ?_
      refine e_seq ?_
      refine e_region ?_
      refine w_val (v_move rfl) rfl ?_
      refine w_op rfl ?_
      refine x_call0 (v := faultV (checkL d)) rfl rfl rfl Try.call45 rfl (fun w hw => check_spec u d w (hd.mono hw.off)) ?_
      refine w_op rfl ?_
      refine x_alloc (z := .agg #[.int .i64 0, .int .i64 0]) (by intro w; exact Try.zeroValue44 w) rfl (fun b5 => ?_)
      refine w_op rfl ?_
      first | refine x_storeA 0 rfl rfl rfl Try.hi44 Try.cz44 rfl (by first | (simp [Value.oneCell', opCells]; done) | assumption | exact one_ints _ | exact one_resCells _ _) ?_ | refine x_storeA 1 rfl rfl rfl Try.hi44 Try.cz44 rfl (by first | (simp [Value.oneCell', opCells]; done) | assumption | exact one_ints _ | exact one_resCells _ _) ?_ | refine x_storeA 2 rfl rfl rfl Try.hi44 Try.cz44 rfl (by first | (simp [Value.oneCell', opCells]; done) | assumption | exact one_ints _ | exact one_resCells _ _) ?_ | refine x_storeA 3 rfl rfl rfl Try.hi44 Try.cz44 rfl (by first | (simp [Value.oneCell', opCells]; done) | assumption | exact one_ints _ | exact one_resCells _ _) ?_ | refine x_storeA 4 rfl rfl rfl Try.hi44 Try.cz44 rfl (by first | (simp [Value.oneCell', opCells]; done) | assumption | exact one_ints _ | exact one_resCells _ _) ?_ | refine x_storeA 5 rfl rfl rfl Try.hi44 Try.cz44 rfl (by first | (simp [Value.oneCell', opCells]; done) | assumption | exact one_ints _ | exact one_resCells _ _) ?_ | refine x_storeA 6 rfl rfl rfl Try.hi44 Try.cz44 rfl (by first | (simp [Value.oneCell', opCells]; done) | assumption | exact one_ints _ | exact one_resCells _ _) ?_ | refine x_storeA 7 rfl rfl rfl Try.hi44 Try.cz44 rfl (by first | (simp [Value.oneCell', opCells]; done) | assumption | exact one_ints _ | exact one_resCells _ _) ?_
      refine w_nil ?_
      refine e_seq ?_
      refine e_region ?_
      first | refine w_val (v_fieldAddrB (o := 0) Try.underlying44 rfl rfl Try.nz3 rfl) rfl ?_ | refine w_val (v_fieldAddr (o := 0) Try.underlying44 rfl rfl Try.nz3 rfl) rfl ?_
      first | refine w_val (v_loadO Try.underlying3 rfl rfl (hcell)) rfl ?_ | refine w_val (v_loadB 0 rfl Try.underlying3 rfl rfl rfl) rfl ?_ | refine w_val (v_loadB 1 rfl Try.underlying3 rfl rfl rfl) rfl ?_ | refine w_val (v_loadB 2 rfl Try.underlying3 rfl rfl rfl) rfl ?_ | refine w_val (v_loadB 3 rfl Try.underlying3 rfl rfl rfl) rfl ?_ | refine w_val (v_loadB 4 rfl Try.underlying3 rfl rfl rfl) rfl ?_ | refine w_val (v_loadB 5 rfl Try.underlying3 rfl rfl rfl) rfl ?_ | refine w_val (v_loadB 6 rfl Try.underlying3 rfl rfl rfl) rfl ?_ | refine w_val (v_loadB 7 rfl Try.underlying3 rfl rfl rfl) rfl ?_
      refine w_val (v_neq rfl rfl) rfl ?_
      refine w_nil ?_
      refine e_condD rfl (fun h1 => ?_) (fun h1 => ?_)
      · refine e_seq ?_
        refine e_region ?_
        first | refine w_val (v_fieldAddrB (o := 0) Try.underlying44 rfl rfl Try.nz3 rfl) rfl ?_ | refine w_val (v_fieldAddr (o := 0) Try.underlying44 rfl rfl Try.nz3 rfl) rfl ?_
        first | refine w_val (v_loadO Try.underlying3 rfl rfl (hcell)) rfl ?_ | refine w_val (v_loadB 0 rfl Try.underlying3 rfl rfl rfl) rfl ?_ | refine w_val (v_loadB 1 rfl Try.underlying3 rfl rfl rfl) rfl ?_ | refine w_val (v_loadB 2 rfl Try.underlying3 rfl rfl rfl) rfl ?_ | refine w_val (v_loadB 3 rfl Try.underlying3 rfl rfl rfl) rfl ?_ | refine w_val (v_loadB 4 rfl Try.underlying3 rfl rfl rfl) rfl ?_ | refine w_val (v_loadB 5 rfl Try.underlying3 rfl rfl rfl) rfl ?_ | refine w_val (v_loadB 6 rfl Try.underlying3 rfl rfl rfl) rfl ?_ | refine w_val (v_loadB 7 rfl Try.underlying3 rfl rfl rfl) rfl ?_
        refine w_val (v_assign rfl) rfl ?_
        refine w_nil ?_
        refine e_retQ (q_ret1 rfl (.tmp rfl) ?_)
        exact fun w' hw' => ⟨by rw [← hrel, if_pos h1], hw'.res.nil⟩
      · refine e_skip ?_
        refine e_blk ?_
        refine e_region ?_
        first | refine w_val (v_add rfl rfl (by omega)) rfl ?_ | refine w_val (v_addw rfl rfl) rfl ?_
        refine w_val (v_move rfl) rfl ?_
        refine w_nil ?_
        exact e_round (k + 1) (⟨by omega, by rw [← hrel, if_neg h1]⟩) (by omega) (by repeat (first | exact Sub.nil _ | refine Sub.cons rfl ?_)) (fun _ hw => hw.sub (List.sublist_cons_self _ _))
    · obtain rfl : k = r.length := by omega
      refine e_exit rfl ?_
      refine e_seq ?_
      refine e_region ?_
      refine w_val (v_assign rfl) rfl ?_
      refine w_nil ?_
      refine e_retQ (q_ret1 rfl (.tmp rfl) ?_)
      exact fun w' hw' => ⟨by rw [← hrel]; simp [roundFrom], hw'.res.nil⟩
theorem RoundFault_spec (v : Value) (r : RoundL) (w : World) (h : IsRound w.cell? v r) : Calls Try.prog 24 #[v] w fun e w' => e = .returned (.int .i64 (roundFaultL r)) ∧ Res w [] [] w' := by
  rw [← off_none w] at h
  obtain ⟨A, kp, rfl, hle, hc⟩ := h.form
  refine enter0 (N := 24) Try.func24 rfl rfl rfl ?_
  refine e_seq ?_
  refine e_region ?_
  refine w_val (v_assign rfl) rfl ?_
  refine w_nil ?_
  refine e_seq ?_
  refine e_seq ?_
  refine e_region ?_
  refine w_val (v_move rfl) rfl ?_
  refine w_val (v_lenS Try.underlying40 rfl) rfl ?_
  refine w_val (v_gtr rfl rfl) rfl ?_
  refine w_nil ?_
  refine e_condD rfl (fun h8 => ?_) (fun h8 => ?_)
  · refine e_seq ?_
    refine e_region ?_
    refine w_val (v_assign rfl) rfl ?_
    refine w_nil ?_
    refine e_retQ (q_ret1 rfl (.tmp rfl) ?_)
    exact fun w' hw' => ⟨by simp only [roundFaultL]; rw [if_pos (by omega)], hw'.res.nil⟩
  · refine e_skip ?_
    refine e_seq ?_
    refine e_seq ?_
    refine e_region ?_
    refine w_val (v_assign rfl) rfl ?_
    refine w_nil ?_
    refine e_block ?_
    refine e_loopK (σ := Nat) [0, 2] (.cons rfl (.cons rfl .nil)) (fun k => [(3, .int .i64 k)]) (fun k => k ≤ r.length ∧ roundFrom (r.drop k) = roundFaultL r) (fun k => r.length - k) 0 ⟨by simp, by simp only [roundFaultL]; rw [if_neg (by omega)]; rfl⟩ (by repeat (first | exact Sub.nil _ | refine Sub.cons rfl ?_)) ?_
    rintro k ⟨hk, hrel⟩
    refine e_seq ?_
    refine e_seq ?_
    refine e_region ?_
    refine w_val (v_move rfl) rfl ?_
    refine w_val (v_move rfl) rfl ?_
    refine w_val (v_lenS Try.underlying40 rfl) rfl ?_
    refine w_val (v_lss rfl rfl) rfl ?_
    refine w_nil ?_
    refine e_condD rfl (fun hlt => ?_) (fun hlt => ?_)
    · have hlt' : k < r.length := by omega
      obtain ⟨ad, u, rfl, hcell, hd⟩ := hc k hlt'
      rw [roundFrom_at hlt'] at hrel
      generalize r[k] = d at *
      refine e_skip ?_
      refine e_seq ?_
      refine e_block ?_
      refine e_seq ?_
      refine e_region ?_
      refine w_val (v_move rfl) rfl ?_
      refine w_val (v_move rfl) rfl ?_
      first | refine w_val (v_indexSB Try.underlying40 Try.hi25 Try.cz25 rfl rfl (by omega)) rfl ?_ | refine w_val (v_indexS Try.underlying40 Try.hi25 Try.cz25 rfl rfl (by omega)) rfl ?_
      first | refine w_val (v_loadO Try.underlying25 rfl rfl (hcell)) rfl ?_ | refine w_val (v_loadB 0 rfl Try.underlying25 rfl rfl rfl) rfl ?_ | refine w_val (v_loadB 1 rfl Try.underlying25 rfl rfl rfl) rfl ?_ | refine w_val (v_loadB 2 rfl Try.underlying25 rfl rfl rfl) rfl ?_ | refine w_val (v_loadB 3 rfl Try.underlying25 rfl rfl rfl) rfl ?_ | refine w_val (v_loadB 4 rfl Try.underlying25 rfl rfl rfl) rfl ?_ | refine w_val (v_loadB 5 rfl Try.underlying25 rfl rfl rfl) rfl ?_ | refine w_val (v_loadB 6 rfl Try.underlying25 rfl rfl rfl) rfl ?_ | refine w_val (v_loadB 7 rfl Try.underlying25 rfl rfl rfl) rfl ?_
      refine w_op rfl ?_
      refine x_call0 (v := faultV (checkL d)) rfl rfl rfl Try.call21 rfl (fun w hw => DeedFault_spec u d w (hd.mono hw.off)) ?_
      refine w_op rfl ?_
      refine x_alloc (z := .agg #[.int .i64 0, .int .i64 0]) (by intro w; exact Try.zeroValue44 w) rfl (fun b4 => ?_)
      refine w_op rfl ?_
      first | refine x_storeA 0 rfl rfl rfl Try.hi44 Try.cz44 rfl (by first | (simp [Value.oneCell', opCells]; done) | assumption | exact one_ints _ | exact one_resCells _ _) ?_ | refine x_storeA 1 rfl rfl rfl Try.hi44 Try.cz44 rfl (by first | (simp [Value.oneCell', opCells]; done) | assumption | exact one_ints _ | exact one_resCells _ _) ?_ | refine x_storeA 2 rfl rfl rfl Try.hi44 Try.cz44 rfl (by first | (simp [Value.oneCell', opCells]; done) | assumption | exact one_ints _ | exact one_resCells _ _) ?_ | refine x_storeA 3 rfl rfl rfl Try.hi44 Try.cz44 rfl (by first | (simp [Value.oneCell', opCells]; done) | assumption | exact one_ints _ | exact one_resCells _ _) ?_ | refine x_storeA 4 rfl rfl rfl Try.hi44 Try.cz44 rfl (by first | (simp [Value.oneCell', opCells]; done) | assumption | exact one_ints _ | exact one_resCells _ _) ?_ | refine x_storeA 5 rfl rfl rfl Try.hi44 Try.cz44 rfl (by first | (simp [Value.oneCell', opCells]; done) | assumption | exact one_ints _ | exact one_resCells _ _) ?_ | refine x_storeA 6 rfl rfl rfl Try.hi44 Try.cz44 rfl (by first | (simp [Value.oneCell', opCells]; done) | assumption | exact one_ints _ | exact one_resCells _ _) ?_ | refine x_storeA 7 rfl rfl rfl Try.hi44 Try.cz44 rfl (by first | (simp [Value.oneCell', opCells]; done) | assumption | exact one_ints _ | exact one_resCells _ _) ?_
      refine w_nil ?_
      refine e_seq ?_
      refine e_region ?_
      first | refine w_val (v_fieldAddrB (o := 0) Try.underlying44 rfl rfl Try.nz3 rfl) rfl ?_ | refine w_val (v_fieldAddr (o := 0) Try.underlying44 rfl rfl Try.nz3 rfl) rfl ?_
      first | refine w_val (v_loadO Try.underlying3 rfl rfl (hcell)) rfl ?_ | refine w_val (v_loadB 0 rfl Try.underlying3 rfl rfl rfl) rfl ?_ | refine w_val (v_loadB 1 rfl Try.underlying3 rfl rfl rfl) rfl ?_ | refine w_val (v_loadB 2 rfl Try.underlying3 rfl rfl rfl) rfl ?_ | refine w_val (v_loadB 3 rfl Try.underlying3 rfl rfl rfl) rfl ?_ | refine w_val (v_loadB 4 rfl Try.underlying3 rfl rfl rfl) rfl ?_ | refine w_val (v_loadB 5 rfl Try.underlying3 rfl rfl rfl) rfl ?_ | refine w_val (v_loadB 6 rfl Try.underlying3 rfl rfl rfl) rfl ?_ | refine w_val (v_loadB 7 rfl Try.underlying3 rfl rfl rfl) rfl ?_
      refine w_val (v_neq rfl rfl) rfl ?_
      refine w_nil ?_
      refine e_condD rfl (fun h1 => ?_) (fun h1 => ?_)
      · refine e_seq ?_
        refine e_region ?_
        first | refine w_val (v_fieldAddrB (o := 0) Try.underlying44 rfl rfl Try.nz3 rfl) rfl ?_ | refine w_val (v_fieldAddr (o := 0) Try.underlying44 rfl rfl Try.nz3 rfl) rfl ?_
        first | refine w_val (v_loadO Try.underlying3 rfl rfl (hcell)) rfl ?_ | refine w_val (v_loadB 0 rfl Try.underlying3 rfl rfl rfl) rfl ?_ | refine w_val (v_loadB 1 rfl Try.underlying3 rfl rfl rfl) rfl ?_ | refine w_val (v_loadB 2 rfl Try.underlying3 rfl rfl rfl) rfl ?_ | refine w_val (v_loadB 3 rfl Try.underlying3 rfl rfl rfl) rfl ?_ | refine w_val (v_loadB 4 rfl Try.underlying3 rfl rfl rfl) rfl ?_ | refine w_val (v_loadB 5 rfl Try.underlying3 rfl rfl rfl) rfl ?_ | refine w_val (v_loadB 6 rfl Try.underlying3 rfl rfl rfl) rfl ?_ | refine w_val (v_loadB 7 rfl Try.underlying3 rfl rfl rfl) rfl ?_
        refine w_val (v_assign rfl) rfl ?_
        refine w_nil ?_
        refine e_retQ (q_ret1 rfl (.tmp rfl) ?_)
        exact fun w' hw' => ⟨by rw [← hrel, if_pos h1], hw'.res.nil⟩
      · refine e_skip ?_
        refine e_blk ?_
        refine e_region ?_
        refine w_val (v_move rfl) rfl ?_
        first | refine w_val (v_add rfl rfl (by omega)) rfl ?_ | refine w_val (v_addw rfl rfl) rfl ?_
        refine w_val (v_assign rfl) rfl ?_
        refine w_nil ?_
        exact e_round (k + 1) (⟨by omega, by rw [← hrel, if_neg h1]⟩) (by omega) (by repeat (first | exact Sub.nil _ | refine Sub.cons rfl ?_)) (fun _ hw => hw.sub (List.sublist_cons_self _ _))
    · obtain rfl : k = r.length := by omega
      refine e_exit rfl ?_
      refine e_seq ?_
      refine e_region ?_
      refine w_val (v_assign rfl) rfl ?_
      refine w_nil ?_
      refine e_retQ (q_ret1 rfl (.tmp rfl) ?_)
      exact fun w' hw' => ⟨by rw [← hrel]; simp [roundFrom], hw'.res.nil⟩
end Go.SL
