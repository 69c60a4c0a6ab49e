/- Ytebdkaadbakhlaa: part C2 of this seat's own texts. -/
import Derived.Test.YtebdkaadbakhlaaC1
set_option linter.unusedVariables false
set_option linter.unusedSimpArgs false
open Go Go.Proofs Go.SL
set_option maxRecDepth 100000
namespace Go.SL
def faultV (p : Int × Int) : Value := .agg #[.int .i64 p.1, .int .i64 p.2]
theorem F_spec (a b : Int) (w : World) : Calls Try.prog 47 #[.int .i64 a, .int .i64 b] w fun e w' => e = .returned (faultV (a, b)) ∧ Res w [] [] w' := by
  refine enter0 (N := 8) Try.func47 rfl rfl rfl ?_
  refine e_seq ?_
  refine e_region ?_
  refine w_op rfl ?_
  refine x_alloc (z := .agg #[.int .i64 0, .int .i64 0]) (by intro w; exact Try.zeroValue44 w) rfl (fun b4 => ?_)
  refine w_nil ?_
  refine e_seq ?_
  refine e_region ?_
  refine w_val (v_move rfl) rfl ?_
  refine w_val (v_move rfl) rfl ?_
  refine w_val (v_build _ rfl (by intro _; simp [Instr.build, Instr.fill, Try.zeroValue44, go_sem]; rfl)) rfl ?_
  refine w_op rfl ?_
  first | refine x_storeA 0 rfl rfl rfl Try.hi44 Try.cz44 rfl (by first | (simp [Value.oneCell', opCells]; done) | assumption | exact one_ints _ | exact one_resCells _ _) ?_ | refine x_storeA 1 rfl rfl rfl Try.hi44 Try.cz44 rfl (by first | (simp [Value.oneCell', opCells]; done) | assumption | exact one_ints _ | exact one_resCells _ _) ?_ | refine x_storeA 2 rfl rfl rfl Try.hi44 Try.cz44 rfl (by first | (simp [Value.oneCell', opCells]; done) | assumption | exact one_ints _ | exact one_resCells _ _) ?_ | refine x_storeA 3 rfl rfl rfl Try.hi44 Try.cz44 rfl (by first | (simp [Value.oneCell', opCells]; done) | assumption | exact one_ints _ | exact one_resCells _ _) ?_ | refine x_storeA 4 rfl rfl rfl Try.hi44 Try.cz44 rfl (by first | (simp [Value.oneCell', opCells]; done) | assumption | exact one_ints _ | exact one_resCells _ _) ?_ | refine x_storeA 5 rfl rfl rfl Try.hi44 Try.cz44 rfl (by first | (simp [Value.oneCell', opCells]; done) | assumption | exact one_ints _ | exact one_resCells _ _) ?_ | refine x_storeA 6 rfl rfl rfl Try.hi44 Try.cz44 rfl (by first | (simp [Value.oneCell', opCells]; done) | assumption | exact one_ints _ | exact one_resCells _ _) ?_ | refine x_storeA 7 rfl rfl rfl Try.hi44 Try.cz44 rfl (by first | (simp [Value.oneCell', opCells]; done) | assumption | exact one_ints _ | exact one_resCells _ _) ?_
  refine w_nil ?_
  refine e_retQ (q_ret1 rfl (ResV.agg 0 rfl rfl (by rw [isAggD, Try.underlying44]; rfl) (Try.cz44) Try.hi44) ?_)
  exact fun w' hw' => ⟨rfl, hw'.res.nil⟩
theorem lims_num {k : Int} (h : k = 1 ∨ k = 8) : limL k = [4, 0, 0] := by unfold limL; rw [if_pos h]
theorem lims_load {k : Int} (h : k = 2) : limL k = [4, 10, 0] := by subst h; rfl
theorem lims_store {k : Int} (h : k = 7) : limL k = [10, 4, 0] := by subst h; rfl
theorem lims_skip {k : Int} (h : k = 9) : limL k = [4, 14, 0] := by subst h; rfl
theorem lims_ar {k : Int} (h : k = 3 ∨ k = 4 ∨ k = 5 ∨ k = 6) : limL k = [4, 4, 4] := by rcases h with rfl | rfl | rfl | rfl <;> rfl
theorem OpFault_spec (o : OpL) (w : World) : Calls Try.prog 48 #[opV o] w fun e w' => e = .returned (.int .i64 (opFaultL o)) ∧ Res w [] [] w' := by
  have hk : (o.kind < 1 ∨ 9 < o.kind) ∨ o.kind = 1 ∨ o.kind = 8 ∨ o.kind = 2 ∨ o.kind = 3 ∨ o.kind = 4 ∨ o.kind = 5 ∨ o.kind = 6 ∨ o.kind = 7 ∨ o.kind = 9 := by omega
  refine enter0 (N := 54) Try.func48 rfl rfl rfl ?_
  refine e_seq ?_
  refine e_region ?_
  refine w_op rfl ?_
  refine x_box rfl rfl (fun b1 => ?_)
  refine w_val (v_assign rfl) rfl ?_
  refine w_nil ?_
  refine e_seq ?_
  refine e_region ?_
  refine w_val (v_assign rfl) rfl ?_
  refine w_val (v_assign rfl) rfl ?_
  refine w_val (v_assign rfl) rfl ?_
  refine w_nil ?_
  refine e_seq ?_
  refine e_seq ?_
  refine e_region ?_
  first | refine w_val (v_fieldAddrB (o := 0) Try.underlying36 rfl rfl Try.nz3 rfl) rfl ?_ | refine w_val (v_fieldAddr (o := 0) Try.underlying36 rfl rfl Try.nz3 rfl) rfl ?_
  first | refine w_val (v_loadB 0 rfl Try.underlying3 rfl rfl rfl) rfl ?_ | refine w_val (v_loadB 1 rfl Try.underlying3 rfl rfl rfl) rfl ?_ | refine w_val (v_loadB 2 rfl Try.underlying3 rfl rfl rfl) rfl ?_ | refine w_val (v_loadB 3 rfl Try.underlying3 rfl rfl rfl) rfl ?_ | refine w_val (v_loadB 4 rfl Try.underlying3 rfl rfl rfl) rfl ?_ | refine w_val (v_loadB 5 rfl Try.underlying3 rfl rfl rfl) rfl ?_ | refine w_val (v_loadB 6 rfl Try.underlying3 rfl rfl rfl) rfl ?_ | refine w_val (v_loadB 7 rfl Try.underlying3 rfl rfl rfl) rfl ?_
  refine w_nil ?_
  refine e_cutK (σ := Unit) [1, 2] (.cons rfl (.cons rfl .nil)) (fun _ => [(3, .int .i64 ((limL o.kind).getD 0 0)), (4, .int .i64 ((limL o.kind).getD 1 0)), (5, .int .i64 ((limL o.kind).getD 2 0))]) (fun _ => ¬ (o.kind < 1 ∨ 9 < o.kind)) ?_ ?_
  · rcases hk with hk | hk | hk | hk | hk | hk | hk | hk | hk | hk
    · refine e_block ?_
      refine e_seq ?_
      refine e_seq ?_
      refine e_region ?_
      refine w_val (v_eql rfl rfl) rfl ?_
      refine w_val (v_assign rfl) rfl ?_
      refine w_nil ?_
      first | refine e_condDF rfl (by omega) ?_ | refine e_condF rfl ?_
      refine e_region ?_
      refine w_val (v_eql rfl rfl) rfl ?_
      refine w_val (v_assign rfl) rfl ?_
      refine w_nil ?_
      first | refine e_condDF rfl (by omega) ?_ | refine e_condF rfl ?_
      refine e_seq ?_
      refine e_region ?_
      refine w_val (v_eql rfl rfl) rfl ?_
      refine w_val (v_assign rfl) rfl ?_
      refine w_nil ?_
      first | refine e_condDF rfl (by omega) ?_ | refine e_condF rfl ?_
      refine e_seq ?_
      refine e_seq ?_
      refine e_region ?_
      refine w_val (v_eql rfl rfl) rfl ?_
      refine w_val (v_assign rfl) rfl ?_
      refine w_nil ?_
      first | refine e_condDF rfl (by omega) ?_ | refine e_condF rfl ?_
      refine e_seq ?_
      refine e_region ?_
      refine w_val (v_eql rfl rfl) rfl ?_
      refine w_val (v_assign rfl) rfl ?_
      refine w_nil ?_
      first | refine e_condDF rfl (by omega) ?_ | refine e_condF rfl ?_
      refine e_seq ?_
      refine e_region ?_
      refine w_val (v_eql rfl rfl) rfl ?_
      refine w_val (v_assign rfl) rfl ?_
      refine w_nil ?_
      first | refine e_condDF rfl (by omega) ?_ | refine e_condF rfl ?_
      refine e_region ?_
      refine w_val (v_eql rfl rfl) rfl ?_
      refine w_val (v_assign rfl) rfl ?_
      refine w_nil ?_
      first | refine e_condDF rfl (by omega) ?_ | refine e_condF rfl ?_
      refine e_seq ?_
      refine e_region ?_
      refine w_val (v_eql rfl rfl) rfl ?_
      refine w_val (v_assign rfl) rfl ?_
      refine w_nil ?_
      first | refine e_condDF rfl (by omega) ?_ | refine e_condF rfl ?_
      refine e_seq ?_
      refine e_region ?_
      refine w_val (v_eql rfl rfl) rfl ?_
      refine w_val (v_assign rfl) rfl ?_
      refine w_nil ?_
      first | refine e_condDF rfl (by omega) ?_ | refine e_condF rfl ?_
      refine e_seq ?_
      refine e_region ?_
      refine w_val (v_assign rfl) rfl ?_
      refine w_nil ?_
      refine e_retQ (q_ret1 rfl (.tmp rfl) ?_)
      exact fun w' hw' => ⟨by simp [opFaultL, hk], hw'.res.nil⟩
    · refine e_block ?_
      refine e_seq ?_
      refine e_seq ?_
      refine e_region ?_
      refine w_val (v_eql rfl rfl) rfl ?_
      refine w_val (v_assign rfl) rfl ?_
      refine w_nil ?_
      first | refine e_condDT rfl (by omega) ?_ | refine e_condT rfl ?_
      refine e_skip ?_
      first | refine e_condDT rfl (by omega) ?_ | refine e_condT rfl ?_
      refine e_region ?_
      refine w_val (v_assign rfl) rfl ?_
      refine w_nil ?_
      refine e_blk ?_
      rw [lims_num (.inl hk)]
      exact e_cutEnd (()) (by omega) (by repeat (first | exact Sub.nil _ | refine Sub.cons rfl ?_)) (fun _ hw => hw)
    · refine e_block ?_
      refine e_seq ?_
      refine e_seq ?_
      refine e_region ?_
      refine w_val (v_eql rfl rfl) rfl ?_
      refine w_val (v_assign rfl) rfl ?_
      refine w_nil ?_
      first | refine e_condDF rfl (by omega) ?_ | refine e_condF rfl ?_
      refine e_region ?_
      refine w_val (v_eql rfl rfl) rfl ?_
      refine w_val (v_assign rfl) rfl ?_
      refine w_nil ?_
      first | refine e_condDT rfl (by omega) ?_ | refine e_condT rfl ?_
      refine e_region ?_
      refine w_val (v_assign rfl) rfl ?_
      refine w_nil ?_
      refine e_blk ?_
      rw [lims_num (.inr hk)]
      exact e_cutEnd (()) (by omega) (by repeat (first | exact Sub.nil _ | refine Sub.cons rfl ?_)) (fun _ hw => hw)
    · refine e_block ?_
      refine e_seq ?_
      refine e_seq ?_
      refine e_region ?_
      refine w_val (v_eql rfl rfl) rfl ?_
      refine w_val (v_assign rfl) rfl ?_
      refine w_nil ?_
      first | refine e_condDF rfl (by omega) ?_ | refine e_condF rfl ?_
      refine e_region ?_
      refine w_val (v_eql rfl rfl) rfl ?_
      refine w_val (v_assign rfl) rfl ?_
      refine w_nil ?_
      first | refine e_condDF rfl (by omega) ?_ | refine e_condF rfl ?_
      refine e_seq ?_
      refine e_region ?_
      refine w_val (v_eql rfl rfl) rfl ?_
      refine w_val (v_assign rfl) rfl ?_
      refine w_nil ?_
      first | refine e_condDT rfl (by omega) ?_ | refine e_condT rfl ?_
      refine e_region ?_
      refine w_val (v_assign rfl) rfl ?_
      refine w_val (v_assign rfl) rfl ?_
      refine w_nil ?_
      refine e_blk ?_
      rw [lims_load hk]
      exact e_cutEnd (()) (by omega) (by repeat (first | exact Sub.nil _ | refine Sub.cons rfl ?_)) (fun _ hw => hw)
    · refine e_block ?_
      refine e_seq ?_
      refine e_seq ?_
      refine e_region ?_
      refine w_val (v_eql rfl rfl) rfl ?_
      refine w_val (v_assign rfl) rfl ?_
      refine w_nil ?_
      first | refine e_condDF rfl (by omega) ?_ | refine e_condF rfl ?_
      refine e_region ?_
      refine w_val (v_eql rfl rfl) rfl ?_
      refine w_val (v_assign rfl) rfl ?_
      refine w_nil ?_
      first | refine e_condDF rfl (by omega) ?_ | refine e_condF rfl ?_
      refine e_seq ?_
      refine e_region ?_
      refine w_val (v_eql rfl rfl) rfl ?_
      refine w_val (v_assign rfl) rfl ?_
      refine w_nil ?_
      first | refine e_condDF rfl (by omega) ?_ | refine e_condF rfl ?_
      refine e_seq ?_
      refine e_seq ?_
      refine e_region ?_
      refine w_val (v_eql rfl rfl) rfl ?_
      refine w_val (v_assign rfl) rfl ?_
      refine w_nil ?_
      first | refine e_condDT rfl (by omega) ?_ | refine e_condT rfl ?_
      refine e_skip ?_
      first | refine e_condDT rfl (by omega) ?_ | refine e_condT rfl ?_
      refine e_region ?_
      refine w_val (v_assign rfl) rfl ?_
      refine w_val (v_assign rfl) rfl ?_
      refine w_val (v_assign rfl) rfl ?_
      refine w_nil ?_
      refine e_blk ?_
      rw [lims_ar (by omega)]
      exact e_cutEnd (()) (by omega) (by repeat (first | exact Sub.nil _ | refine Sub.cons rfl ?_)) (fun _ hw => hw)
    · refine e_block ?_
      refine e_seq ?_
      refine e_seq ?_
      refine e_region ?_
      refine w_val (v_eql rfl rfl) rfl ?_
      refine w_val (v_assign rfl) rfl ?_
      refine w_nil ?_
      first | refine e_condDF rfl (by omega) ?_ | refine e_condF rfl ?_
      refine e_region ?_
      refine w_val (v_eql rfl rfl) rfl ?_
      refine w_val (v_assign rfl) rfl ?_
      refine w_nil ?_
      first | refine e_condDF rfl (by omega) ?_ | refine e_condF rfl ?_
      refine e_seq ?_
      refine e_region ?_
      refine w_val (v_eql rfl rfl) rfl ?_
      refine w_val (v_assign rfl) rfl ?_
      refine w_nil ?_
      first | refine e_condDF rfl (by omega) ?_ | refine e_condF rfl ?_
      refine e_seq ?_
      refine e_seq ?_
      refine e_region ?_
      refine w_val (v_eql rfl rfl) rfl ?_
      refine w_val (v_assign rfl) rfl ?_
      refine w_nil ?_
      first | refine e_condDF rfl (by omega) ?_ | refine e_condF rfl ?_
      refine e_seq ?_
      refine e_region ?_
      refine w_val (v_eql rfl rfl) rfl ?_
      refine w_val (v_assign rfl) rfl ?_
      refine w_nil ?_
      first | refine e_condDT rfl (by omega) ?_ | refine e_condT rfl ?_
      refine e_skip ?_
      first | refine e_condDT rfl (by omega) ?_ | refine e_condT rfl ?_
      refine e_region ?_
      refine w_val (v_assign rfl) rfl ?_
      refine w_val (v_assign rfl) rfl ?_
      refine w_val (v_assign rfl) rfl ?_
      refine w_nil ?_
      refine e_blk ?_
      rw [lims_ar (by omega)]
      exact e_cutEnd (()) (by omega) (by repeat (first | exact Sub.nil _ | refine Sub.cons rfl ?_)) (fun _ hw => hw)
    · refine e_block ?_
      refine e_seq ?_
      refine e_seq ?_
      refine e_region ?_
      refine w_val (v_eql rfl rfl) rfl ?_
      refine w_val (v_assign rfl) rfl ?_
      refine w_nil ?_
      first | refine e_condDF rfl (by omega) ?_ | refine e_condF rfl ?_
      refine e_region ?_
      refine w_val (v_eql rfl rfl) rfl ?_
      refine w_val (v_assign rfl) rfl ?_
      refine w_nil ?_
      first | refine e_condDF rfl (by omega) ?_ | refine e_condF rfl ?_
      refine e_seq ?_
      refine e_region ?_
      refine w_val (v_eql rfl rfl) rfl ?_
      refine w_val (v_assign rfl) rfl ?_
      refine w_nil ?_
      first | refine e_condDF rfl (by omega) ?_ | refine e_condF rfl ?_
      refine e_seq ?_
      refine e_seq ?_
      refine e_region ?_
      refine w_val (v_eql rfl rfl) rfl ?_
      refine w_val (v_assign rfl) rfl ?_
      refine w_nil ?_
      first | refine e_condDF rfl (by omega) ?_ | refine e_condF rfl ?_
      refine e_seq ?_
      refine e_region ?_
      refine w_val (v_eql rfl rfl) rfl ?_
      refine w_val (v_assign rfl) rfl ?_
      refine w_nil ?_
      first | refine e_condDF rfl (by omega) ?_ | refine e_condF rfl ?_
      refine e_seq ?_
      refine e_region ?_
      refine w_val (v_eql rfl rfl) rfl ?_
      refine w_val (v_assign rfl) rfl ?_
      refine w_nil ?_
      first | refine e_condDT rfl (by omega) ?_ | refine e_condT rfl ?_
      refine e_skip ?_
      first | refine e_condDT rfl (by omega) ?_ | refine e_condT rfl ?_
      refine e_region ?_
      refine w_val (v_assign rfl) rfl ?_
      refine w_val (v_assign rfl) rfl ?_
      refine w_val (v_assign rfl) rfl ?_
      refine w_nil ?_
      refine e_blk ?_
      rw [lims_ar (by omega)]
      exact e_cutEnd (()) (by omega) (by repeat (first | exact Sub.nil _ | refine Sub.cons rfl ?_)) (fun _ hw => hw)
    · refine e_block ?_
      refine e_seq ?_
      refine e_seq ?_
      refine e_region ?_
      refine w_val (v_eql rfl rfl) rfl ?_
      refine w_val (v_assign rfl) rfl ?_
      refine w_nil ?_
      first | refine e_condDF rfl (by omega) ?_ | refine e_condF rfl ?_
      refine e_region ?_
      refine w_val (v_eql rfl rfl) rfl ?_
      refine w_val (v_assign rfl) rfl ?_
      refine w_nil ?_
      first | refine e_condDF rfl (by omega) ?_ | refine e_condF rfl ?_
      refine e_seq ?_
      refine e_region ?_
      refine w_val (v_eql rfl rfl) rfl ?_
      refine w_val (v_assign rfl) rfl ?_
      refine w_nil ?_
      first | refine e_condDF rfl (by omega) ?_ | refine e_condF rfl ?_
      refine e_seq ?_
      refine e_seq ?_
      refine e_region ?_
      refine w_val (v_eql rfl rfl) rfl ?_
      refine w_val (v_assign rfl) rfl ?_
      refine w_nil ?_
      first | refine e_condDF rfl (by omega) ?_ | refine e_condF rfl ?_
      refine e_seq ?_
      refine e_region ?_
      refine w_val (v_eql rfl rfl) rfl ?_
      refine w_val (v_assign rfl) rfl ?_
      refine w_nil ?_
      first | refine e_condDF rfl (by omega) ?_ | refine e_condF rfl ?_
      refine e_seq ?_
      refine e_region ?_
      refine w_val (v_eql rfl rfl) rfl ?_
      refine w_val (v_assign rfl) rfl ?_
      refine w_nil ?_
      first | refine e_condDF rfl (by omega) ?_ | refine e_condF rfl ?_
      refine e_region ?_
      refine w_val (v_eql rfl rfl) rfl ?_
      refine w_val (v_assign rfl) rfl ?_
      refine w_nil ?_
      first | refine e_condDT rfl (by omega) ?_ | refine e_condT rfl ?_
      refine e_region ?_
      refine w_val (v_assign rfl) rfl ?_
      refine w_val (v_assign rfl) rfl ?_
      refine w_val (v_assign rfl) rfl ?_
      refine w_nil ?_
      refine e_blk ?_
      rw [lims_ar (by omega)]
      exact e_cutEnd (()) (by omega) (by repeat (first | exact Sub.nil _ | refine Sub.cons rfl ?_)) (fun _ hw => hw)
    · refine e_block ?_
      refine e_seq ?_
      refine e_seq ?_
      refine e_region ?_
      refine w_val (v_eql rfl rfl) rfl ?_
      refine w_val (v_assign rfl) rfl ?_
      refine w_nil ?_
      first | refine e_condDF rfl (by omega) ?_ | refine e_condF rfl ?_
      refine e_region ?_
      refine w_val (v_eql rfl rfl) rfl ?_
      refine w_val (v_assign rfl) rfl ?_
      refine w_nil ?_
      first | refine e_condDF rfl (by omega) ?_ | refine e_condF rfl ?_
      refine e_seq ?_
      refine e_region ?_
      refine w_val (v_eql rfl rfl) rfl ?_
      refine w_val (v_assign rfl) rfl ?_
      refine w_nil ?_
      first | refine e_condDF rfl (by omega) ?_ | refine e_condF rfl ?_
      refine e_seq ?_
      refine e_seq ?_
      refine e_region ?_
      refine w_val (v_eql rfl rfl) rfl ?_
      refine w_val (v_assign rfl) rfl ?_
      refine w_nil ?_
      first | refine e_condDF rfl (by omega) ?_ | refine e_condF rfl ?_
      refine e_seq ?_
      refine e_region ?_
      refine w_val (v_eql rfl rfl) rfl ?_
      refine w_val (v_assign rfl) rfl ?_
      refine w_nil ?_
      first | refine e_condDF rfl (by omega) ?_ | refine e_condF rfl ?_
      refine e_seq ?_
      refine e_region ?_
      refine w_val (v_eql rfl rfl) rfl ?_
      refine w_val (v_assign rfl) rfl ?_
      refine w_nil ?_
      first | refine e_condDF rfl (by omega) ?_ | refine e_condF rfl ?_
      refine e_region ?_
      refine w_val (v_eql rfl rfl) rfl ?_
      refine w_val (v_assign rfl) rfl ?_
      refine w_nil ?_
      first | refine e_condDF rfl (by omega) ?_ | refine e_condF rfl ?_
      refine e_seq ?_
      refine e_region ?_
      refine w_val (v_eql rfl rfl) rfl ?_
      refine w_val (v_assign rfl) rfl ?_
      refine w_nil ?_
      first | refine e_condDT rfl (by omega) ?_ | refine e_condT rfl ?_
      refine e_region ?_
      refine w_val (v_assign rfl) rfl ?_
      refine w_val (v_assign rfl) rfl ?_
      refine w_nil ?_
      refine e_blk ?_
      rw [lims_store hk]
      exact e_cutEnd (()) (by omega) (by repeat (first | exact Sub.nil _ | refine Sub.cons rfl ?_)) (fun _ hw => hw)
    · refine e_block ?_
      refine e_seq ?_
      refine e_seq ?_
      refine e_region ?_
      refine w_val (v_eql rfl rfl) rfl ?_
      refine w_val (v_assign rfl) rfl ?_
      refine w_nil ?_
      first | refine e_condDF rfl (by omega) ?_ | refine e_condF rfl ?_
      refine e_region ?_
      refine w_val (v_eql rfl rfl) rfl ?_
      refine w_val (v_assign rfl) rfl ?_
      refine w_nil ?_
      first | refine e_condDF rfl (by omega) ?_ | refine e_condF rfl ?_
      refine e_seq ?_
      refine e_region ?_
      refine w_val (v_eql rfl rfl) rfl ?_
      refine w_val (v_assign rfl) rfl ?_
      refine w_nil ?_
      first | refine e_condDF rfl (by omega) ?_ | refine e_condF rfl ?_
      refine e_seq ?_
      refine e_seq ?_
      refine e_region ?_
      refine w_val (v_eql rfl rfl) rfl ?_
      refine w_val (v_assign rfl) rfl ?_
      refine w_nil ?_
      first | refine e_condDF rfl (by omega) ?_ | refine e_condF rfl ?_
      refine e_seq ?_
      refine e_region ?_
      refine w_val (v_eql rfl rfl) rfl ?_
      refine w_val (v_assign rfl) rfl ?_
      refine w_nil ?_
      first | refine e_condDF rfl (by omega) ?_ | refine e_condF rfl ?_
      refine e_seq ?_
      refine e_region ?_
      refine w_val (v_eql rfl rfl) rfl ?_
      refine w_val (v_assign rfl) rfl ?_
      refine w_nil ?_
      first | refine e_condDF rfl (by omega) ?_ | refine e_condF rfl ?_
      refine e_region ?_
      refine w_val (v_eql rfl rfl) rfl ?_
      refine w_val (v_assign rfl) rfl ?_
      refine w_nil ?_
      first | refine e_condDF rfl (by omega) ?_ | refine e_condF rfl ?_
      refine e_seq ?_
      refine e_region ?_
      refine w_val (v_eql rfl rfl) rfl ?_
      refine w_val (v_assign rfl) rfl ?_
      refine w_nil ?_
      first | refine e_condDF rfl (by omega) ?_ | refine e_condF rfl ?_
      refine e_seq ?_
      refine e_region ?_
      refine w_val (v_eql rfl rfl) rfl ?_
      refine w_val (v_assign rfl) rfl ?_
      refine w_nil ?_
      first | refine e_condDT rfl (by omega) ?_ | refine e_condT rfl ?_
      refine e_region ?_
      refine w_val (v_assign rfl) rfl ?_
      refine w_val (v_assign rfl) rfl ?_
      refine w_nil ?_
      refine e_blk ?_
      rw [lims_skip hk]
      exact e_cutEnd (()) (by omega) (by repeat (first | exact Sub.nil _ | refine Sub.cons rfl ?_)) (fun _ hw => hw)
  · rintro - hk'
    refine e_seq ?_
    refine e_seq ?_
    refine e_region ?_
    first | refine w_val (v_fieldAddrB (o := 1) Try.underlying36 rfl rfl Try.nz3 rfl) rfl ?_ | refine w_val (v_fieldAddr (o := 1) Try.underlying36 rfl rfl Try.nz3 rfl) rfl ?_
    first | refine w_val (v_loadB 0 rfl Try.underlying3 rfl rfl rfl) rfl ?_ | refine w_val (v_loadB 1 rfl Try.underlying3 rfl rfl rfl) rfl ?_ | refine w_val (v_loadB 2 rfl Try.underlying3 rfl rfl rfl) rfl ?_ | refine w_val (v_loadB 3 rfl Try.underlying3 rfl rfl rfl) rfl ?_ | refine w_val (v_loadB 4 rfl Try.underlying3 rfl rfl rfl) rfl ?_ | refine w_val (v_loadB 5 rfl Try.underlying3 rfl rfl rfl) rfl ?_ | refine w_val (v_loadB 6 rfl Try.underlying3 rfl rfl rfl) rfl ?_ | refine w_val (v_loadB 7 rfl Try.underlying3 rfl rfl rfl) rfl ?_
    refine w_val (v_move rfl) rfl ?_
    refine w_op rfl ?_
    refine x_call0 (v := .int .i64 (badL o.a ((limL o.kind).getD 0 0))) rfl rfl rfl Try.call63 rfl (fun w hw => bad_spec _ _ w) ?_
    refine w_val (v_assign rfl) rfl ?_
    refine w_nil ?_
    refine e_seq ?_
    refine e_region ?_
    refine w_val (v_move rfl) rfl ?_
    refine w_val (v_neq rfl rfl) rfl ?_
    refine w_nil ?_
    refine e_condD rfl (fun h1 => ?_) (fun h1 => ?_)
    · refine e_seq ?_
      refine e_region ?_
      refine w_val (v_move rfl) rfl ?_
      refine w_val (v_assign rfl) rfl ?_
      refine w_nil ?_
      refine e_retQ (q_ret1 rfl (.tmp rfl) ?_)
      exact fun w' hw' => ⟨by simp only [opFaultL]; rw [if_neg hk', if_pos h1], hw'.res.nil⟩
    · refine e_skip ?_
      refine e_seq ?_
      refine e_seq ?_
      refine e_region ?_
      first | refine w_val (v_fieldAddrB (o := 2) Try.underlying36 rfl rfl Try.nz3 rfl) rfl ?_ | refine w_val (v_fieldAddr (o := 2) Try.underlying36 rfl rfl Try.nz3 rfl) rfl ?_
      first | refine w_val (v_loadB 0 rfl Try.underlying3 rfl rfl rfl) rfl ?_ | refine w_val (v_loadB 1 rfl Try.underlying3 rfl rfl rfl) rfl ?_ | refine w_val (v_loadB 2 rfl Try.underlying3 rfl rfl rfl) rfl ?_ | refine w_val (v_loadB 3 rfl Try.underlying3 rfl rfl rfl) rfl ?_ | refine w_val (v_loadB 4 rfl Try.underlying3 rfl rfl rfl) rfl ?_ | refine w_val (v_loadB 5 rfl Try.underlying3 rfl rfl rfl) rfl ?_ | refine w_val (v_loadB 6 rfl Try.underlying3 rfl rfl rfl) rfl ?_ | refine w_val (v_loadB 7 rfl Try.underlying3 rfl rfl rfl) rfl ?_
      refine w_val (v_move rfl) rfl ?_
      refine w_op rfl ?_
      refine x_call0 (v := .int .i64 (badL o.b ((limL o.kind).getD 1 0))) rfl rfl rfl Try.call63 rfl (fun w hw => bad_spec _ _ w) ?_
      refine w_val (v_assign rfl) rfl ?_
      refine w_nil ?_
      refine e_seq ?_
      refine e_region ?_
      refine w_val (v_move rfl) rfl ?_
      refine w_val (v_neq rfl rfl) rfl ?_
      refine w_nil ?_
      refine e_condD rfl (fun h2 => ?_) (fun h2 => ?_)
      · refine e_seq ?_
        refine e_region ?_
        refine w_val (v_move rfl) rfl ?_
        refine w_val (v_assign rfl) rfl ?_
        refine w_nil ?_
        refine e_retQ (q_ret1 rfl (.tmp rfl) ?_)
        exact fun w' hw' => ⟨by simp only [opFaultL]; rw [if_neg hk', if_neg h1, if_pos h2], hw'.res.nil⟩
      · refine e_skip ?_
        refine e_seq ?_
        refine e_seq ?_
        refine e_region ?_
        first | refine w_val (v_fieldAddrB (o := 3) Try.underlying36 rfl rfl Try.nz3 rfl) rfl ?_ | refine w_val (v_fieldAddr (o := 3) Try.underlying36 rfl rfl Try.nz3 rfl) rfl ?_
        first | refine w_val (v_loadB 0 rfl Try.underlying3 rfl rfl rfl) rfl ?_ | refine w_val (v_loadB 1 rfl Try.underlying3 rfl rfl rfl) rfl ?_ | refine w_val (v_loadB 2 rfl Try.underlying3 rfl rfl rfl) rfl ?_ | refine w_val (v_loadB 3 rfl Try.underlying3 rfl rfl rfl) rfl ?_ | refine w_val (v_loadB 4 rfl Try.underlying3 rfl rfl rfl) rfl ?_ | refine w_val (v_loadB 5 rfl Try.underlying3 rfl rfl rfl) rfl ?_ | refine w_val (v_loadB 6 rfl Try.underlying3 rfl rfl rfl) rfl ?_ | refine w_val (v_loadB 7 rfl Try.underlying3 rfl rfl rfl) rfl ?_
        refine w_val (v_move rfl) rfl ?_
        refine w_op rfl ?_
        refine x_call0 (v := .int .i64 (badL o.c ((limL o.kind).getD 2 0))) rfl rfl rfl Try.call63 rfl (fun w hw => bad_spec _ _ w) ?_
        refine w_val (v_assign rfl) rfl ?_
        refine w_nil ?_
        refine e_seq ?_
        refine e_region ?_
        refine w_val (v_move rfl) rfl ?_
        refine w_val (v_neq rfl rfl) rfl ?_
        refine w_nil ?_
        refine e_condD rfl (fun h3 => ?_) (fun h3 => ?_)
        · refine e_seq ?_
          refine e_region ?_
          refine w_val (v_move rfl) rfl ?_
          refine w_val (v_assign rfl) rfl ?_
          refine w_nil ?_
          refine e_retQ (q_ret1 rfl (.tmp rfl) ?_)
          exact fun w' hw' => ⟨by simp only [opFaultL]; rw [if_neg hk', if_neg h1, if_neg h2, if_pos h3], hw'.res.nil⟩
        · refine e_skip ?_
          refine e_seq ?_
          refine e_seq ?_
          refine e_test 53 (decide (o.kind ≠ 1 ∧ o.n ≠ 0)) ?_ ?_
          · refine e_region ?_
            first | refine w_val (v_fieldAddrB (o := 4) Try.underlying36 rfl rfl Try.nz2 rfl) rfl ?_ | refine w_val (v_fieldAddr (o := 4) Try.underlying36 rfl rfl Try.nz2 rfl) rfl ?_
            first | refine w_val (v_loadB 0 rfl Try.underlying2 rfl rfl rfl) rfl ?_ | refine w_val (v_loadB 1 rfl Try.underlying2 rfl rfl rfl) rfl ?_ | refine w_val (v_loadB 2 rfl Try.underlying2 rfl rfl rfl) rfl ?_ | refine w_val (v_loadB 3 rfl Try.underlying2 rfl rfl rfl) rfl ?_ | refine w_val (v_loadB 4 rfl Try.underlying2 rfl rfl rfl) rfl ?_ | refine w_val (v_loadB 5 rfl Try.underlying2 rfl rfl rfl) rfl ?_ | refine w_val (v_loadB 6 rfl Try.underlying2 rfl rfl rfl) rfl ?_ | refine w_val (v_loadB 7 rfl Try.underlying2 rfl rfl rfl) rfl ?_
            refine w_valD (v_neq rfl rfl) rfl (fun hg2 => ?_) (fun hg2 => ?_)
            · refine w_val (v_move rfl) rfl ?_
              refine w_want rfl rfl ?_
              first | refine w_val (v_fieldAddrB (o := 0) Try.underlying36 rfl rfl Try.nz3 rfl) rfl ?_ | refine w_val (v_fieldAddr (o := 0) Try.underlying36 rfl rfl Try.nz3 rfl) rfl ?_
              refine w_want rfl rfl ?_
              first | refine w_val (v_loadB 0 rfl Try.underlying3 rfl rfl rfl) rfl ?_ | refine w_val (v_loadB 1 rfl Try.underlying3 rfl rfl rfl) rfl ?_ | refine w_val (v_loadB 2 rfl Try.underlying3 rfl rfl rfl) rfl ?_ | refine w_val (v_loadB 3 rfl Try.underlying3 rfl rfl rfl) rfl ?_ | refine w_val (v_loadB 4 rfl Try.underlying3 rfl rfl rfl) rfl ?_ | refine w_val (v_loadB 5 rfl Try.underlying3 rfl rfl rfl) rfl ?_ | refine w_val (v_loadB 6 rfl Try.underlying3 rfl rfl rfl) rfl ?_ | refine w_val (v_loadB 7 rfl Try.underlying3 rfl rfl rfl) rfl ?_
              refine w_want rfl rfl ?_
              refine w_valD (v_neq rfl rfl) rfl (fun hg6 => ?_) (fun hg6 => ?_)
              · refine w_val (v_pickT rfl rfl) rfl ?_
                refine w_nil ?_
                exact e_testEnd rfl (by first | (simp_all; done) | (simp_all; omega)) (by repeat (first | exact Sub.refl _ | exact Sub.nil _ | exact Sub.del _ _ | refine Sub.skip rfl ?_)) (fun _ hw => hw)
              · refine w_val (v_pickT rfl rfl) rfl ?_
                refine w_nil ?_
                exact e_testEnd rfl (by first | (simp_all; done) | (simp_all; omega)) (by repeat (first | exact Sub.refl _ | exact Sub.nil _ | exact Sub.del _ _ | refine Sub.skip rfl ?_)) (fun _ hw => hw)
            · refine w_val (v_move rfl) rfl ?_
              refine w_skip rfl rfl rfl rfl ?_
              refine w_skip rfl rfl rfl rfl ?_
              refine w_skip rfl rfl rfl rfl ?_
              refine w_val (v_pickF rfl rfl) rfl ?_
              refine w_nil ?_
              exact e_testEnd rfl (by first | (simp_all; done) | (simp_all; omega)) (by repeat (first | exact Sub.refl _ | exact Sub.nil _ | exact Sub.del _ _ | refine Sub.skip rfl ?_)) (fun _ hw => hw)
          refine e_condD rfl (fun h4 => ?_) (fun h4 => ?_)
          · refine e_seq ?_
            refine e_region ?_
            refine w_val (v_assign rfl) rfl ?_
            refine w_nil ?_
            refine e_retQ (q_ret1 rfl (.tmp rfl) ?_)
            exact fun w' hw' => ⟨by simp only [opFaultL]; rw [if_neg hk', if_neg h1, if_neg h2, if_neg h3, if_pos h4], hw'.res.nil⟩
          · refine e_skip ?_
            refine e_seq ?_
            refine e_region ?_
            refine w_val (v_assign rfl) rfl ?_
            refine w_nil ?_
            refine e_retQ (q_ret1 rfl (.tmp rfl) ?_)
            exact fun w' hw' => ⟨by simp only [opFaultL]; rw [if_neg hk', if_neg h1, if_neg h2, if_neg h3, if_neg h4], hw'.res.nil⟩
end Go.SL
