/- Ytebdkaadbakhlaa: part S6 of this seat's own texts. -/
import Derived.Test.YtebdkaadbakhlaaS5
import Derived.Test.YtebdkaadbakhlaaMore
set_option linter.unusedVariables false
set_option linter.unusedSimpArgs false
open Go Go.Proofs Go.SL
set_option maxRecDepth 100000
namespace Go.SL
def begunS : List Int := [0, 0, 0, 7, 0, 0, 0, 0, 0, 0]
def begunD : DeedL := [⟨2, 1, 3, 0, 0⟩, ⟨3, 0, 1, 1, 0⟩, ⟨7, 2, 0, 0, 0⟩]
def begunS2 : List Int := [0, 0, 14, 7, 0, 0, 0, 0, 0, 0]
def begunR2 : List Int := [14, 7, 0, 0]
theorem begun_does : serDoL begunS begunD = (begunS2, 0, begunR2, 0) := by decide
theorem serialBegun_spec (w : World) : Calls Try.prog 14 #[] w fun e w' => e = .returned (.bool true) ∧ Res w [] [] w' := by
  refine enter0 (N := 36) Try.func14 rfl rfl rfl ?_
  refine e_seq ?_
  refine e_region ?_
  refine w_val (v_assign rfl) rfl ?_
  refine w_nil ?_
  refine e_seq ?_
  refine e_region ?_
  refine w_val (v_build _ rfl (by intro _; simp [Instr.build, Instr.fill, Try.zeroValue23, go_sem]; rfl)) rfl ?_
  refine w_val (v_build _ rfl (by intro _; simp [Instr.build, Instr.fill, Try.zeroValue36, go_sem]; rfl)) rfl ?_
  refine w_val (v_build _ rfl (by intro _; simp [Instr.build, Instr.fill, Try.zeroValue36, go_sem]; rfl)) rfl ?_
  refine w_val (v_build _ rfl (by intro _; simp [Instr.build, Instr.fill, Try.zeroValue36, go_sem]; rfl)) rfl ?_
  refine w_op rfl ?_
  refine x_buildSlice _ (deedCells begunD) rfl (run_buildSlice Try.underlying25 Try.hi36 Try.cz36 Try.zeroValue36 rfl (by kernel_rfl)) rfl (fun b9 => ?_)
  refine w_op rfl ?_
  refine x_call0 (v := serDoV (begunS2, 0, begunR2, 0)) rfl rfl rfl Try.call15 rfl (fun w hw => by have h := serialDo_spec begunS _ begunD w (isDeed_blk (hw.hold _ (List.mem_cons_self ..)) (Nat.le_refl _)) rfl; rw [begun_does] at h; exact h) ?_
  refine w_val (v_move rfl) rfl ?_
  refine w_val (v_extract rfl rfl) rfl ?_
  refine w_val (v_extract rfl rfl) rfl ?_
  refine w_val (v_extract rfl rfl) rfl ?_
  refine w_op rfl ?_
  refine x_alloc (z := .agg #[.int .i64 0, .int .i64 0, .int .i64 0, .int .i64 0, .int .i64 0, .int .i64 0, .int .i64 0, .int .i64 0, .int .i64 0, .int .i64 0]) (by intro w; exact Try.zeroValue23 w) rfl (fun b1 => ?_)
  refine w_op rfl ?_
  refine x_alloc (z := .agg #[.int .i64 0, .int .i64 0, .int .i64 0, .int .i64 0, .int .i64 0]) (by intro w; exact Try.zeroValue30 w) rfl (fun b2 => ?_)
  refine w_op rfl ?_
  first | refine x_storeA 0 rfl rfl rfl Try.hi23 Try.cz23 rfl (by first | (simp [Value.oneCell', opCells]; done) | assumption | exact one_ints _ | exact one_resCells _ _) ?_ | refine x_storeA 1 rfl rfl rfl Try.hi23 Try.cz23 rfl (by first | (simp [Value.oneCell', opCells]; done) | assumption | exact one_ints _ | exact one_resCells _ _) ?_ | refine x_storeA 2 rfl rfl rfl Try.hi23 Try.cz23 rfl (by first | (simp [Value.oneCell', opCells]; done) | assumption | exact one_ints _ | exact one_resCells _ _) ?_ | refine x_storeA 3 rfl rfl rfl Try.hi23 Try.cz23 rfl (by first | (simp [Value.oneCell', opCells]; done) | assumption | exact one_ints _ | exact one_resCells _ _) ?_ | refine x_storeA 4 rfl rfl rfl Try.hi23 Try.cz23 rfl (by first | (simp [Value.oneCell', opCells]; done) | assumption | exact one_ints _ | exact one_resCells _ _) ?_ | refine x_storeA 5 rfl rfl rfl Try.hi23 Try.cz23 rfl (by first | (simp [Value.oneCell', opCells]; done) | assumption | exact one_ints _ | exact one_resCells _ _) ?_ | refine x_storeA 6 rfl rfl rfl Try.hi23 Try.cz23 rfl (by first | (simp [Value.oneCell', opCells]; done) | assumption | exact one_ints _ | exact one_resCells _ _) ?_ | refine x_storeA 7 rfl rfl rfl Try.hi23 Try.cz23 rfl (by first | (simp [Value.oneCell', opCells]; done) | assumption | exact one_ints _ | exact one_resCells _ _) ?_
  refine w_op rfl ?_
  first | refine x_storeA 0 rfl rfl rfl Try.hi30 Try.cz30 rfl (by first | (simp [Value.oneCell', opCells]; done) | assumption | exact one_ints _ | exact one_resCells _ _) ?_ | refine x_storeA 1 rfl rfl rfl Try.hi30 Try.cz30 rfl (by first | (simp [Value.oneCell', opCells]; done) | assumption | exact one_ints _ | exact one_resCells _ _) ?_ | refine x_storeA 2 rfl rfl rfl Try.hi30 Try.cz30 rfl (by first | (simp [Value.oneCell', opCells]; done) | assumption | exact one_ints _ | exact one_resCells _ _) ?_ | refine x_storeA 3 rfl rfl rfl Try.hi30 Try.cz30 rfl (by first | (simp [Value.oneCell', opCells]; done) | assumption | exact one_ints _ | exact one_resCells _ _) ?_ | refine x_storeA 4 rfl rfl rfl Try.hi30 Try.cz30 rfl (by first | (simp [Value.oneCell', opCells]; done) | assumption | exact one_ints _ | exact one_resCells _ _) ?_ | refine x_storeA 5 rfl rfl rfl Try.hi30 Try.cz30 rfl (by first | (simp [Value.oneCell', opCells]; done) | assumption | exact one_ints _ | exact one_resCells _ _) ?_ | refine x_storeA 6 rfl rfl rfl Try.hi30 Try.cz30 rfl (by first | (simp [Value.oneCell', opCells]; done) | assumption | exact one_ints _ | exact one_resCells _ _) ?_ | refine x_storeA 7 rfl rfl rfl Try.hi30 Try.cz30 rfl (by first | (simp [Value.oneCell', opCells]; done) | assumption | exact one_ints _ | exact one_resCells _ _) ?_
  refine w_val (v_assign rfl) rfl ?_
  refine w_nil ?_
  refine e_seq ?_
  refine e_region ?_
  refine w_val (v_move rfl) rfl ?_
  refine w_val (v_eql rfl rfl) rfl ?_
  refine w_val (v_move rfl) rfl ?_
  refine w_want rfl rfl ?_
  first | refine w_val (v_indexAB Try.underlying23 Try.hi2 Try.cz2 rfl rfl (by omega)) rfl ?_ | refine w_val (v_indexA Try.underlying23 Try.hi2 Try.cz2 rfl rfl (by omega)) rfl ?_
  refine w_want rfl rfl ?_
  first | refine w_val (v_loadB 0 rfl Try.underlying2 rfl rfl rfl) rfl ?_ | refine w_val (v_loadB 1 rfl Try.underlying2 rfl rfl rfl) rfl ?_ | refine w_val (v_loadB 2 rfl Try.underlying2 rfl rfl rfl) rfl ?_ | refine w_val (v_loadB 3 rfl Try.underlying2 rfl rfl rfl) rfl ?_ | refine w_val (v_loadB 4 rfl Try.underlying2 rfl rfl rfl) rfl ?_ | refine w_val (v_loadB 5 rfl Try.underlying2 rfl rfl rfl) rfl ?_ | refine w_val (v_loadB 6 rfl Try.underlying2 rfl rfl rfl) rfl ?_ | refine w_val (v_loadB 7 rfl Try.underlying2 rfl rfl rfl) rfl ?_
  refine w_want rfl rfl ?_
  refine w_val (v_eql rfl rfl) rfl ?_
  first | refine w_val (v_pickT rfl rfl) rfl ?_ | refine w_val (v_pickF rfl rfl) rfl ?_
  refine w_val (v_move rfl) rfl ?_
  refine w_want rfl rfl ?_
  first | refine w_val (v_indexAB Try.underlying23 Try.hi2 Try.cz2 rfl rfl (by omega)) rfl ?_ | refine w_val (v_indexA Try.underlying23 Try.hi2 Try.cz2 rfl rfl (by omega)) rfl ?_
  refine w_want rfl rfl ?_
  first | refine w_val (v_loadB 0 rfl Try.underlying2 rfl rfl rfl) rfl ?_ | refine w_val (v_loadB 1 rfl Try.underlying2 rfl rfl rfl) rfl ?_ | refine w_val (v_loadB 2 rfl Try.underlying2 rfl rfl rfl) rfl ?_ | refine w_val (v_loadB 3 rfl Try.underlying2 rfl rfl rfl) rfl ?_ | refine w_val (v_loadB 4 rfl Try.underlying2 rfl rfl rfl) rfl ?_ | refine w_val (v_loadB 5 rfl Try.underlying2 rfl rfl rfl) rfl ?_ | refine w_val (v_loadB 6 rfl Try.underlying2 rfl rfl rfl) rfl ?_ | refine w_val (v_loadB 7 rfl Try.underlying2 rfl rfl rfl) rfl ?_
  refine w_want rfl rfl ?_
  refine w_val (v_eql rfl rfl) rfl ?_
  first | refine w_val (v_pickT rfl rfl) rfl ?_ | refine w_val (v_pickF rfl rfl) rfl ?_
  refine w_val (v_move rfl) rfl ?_
  refine w_want rfl rfl ?_
  first | refine w_val (v_fieldAddrB (o := 1) Try.underlying30 rfl rfl Try.nz28 rfl) rfl ?_ | refine w_val (v_fieldAddr (o := 1) Try.underlying30 rfl rfl Try.nz28 rfl) rfl ?_
  refine w_want rfl rfl ?_
  first | refine w_val (v_indexAB Try.underlying28 Try.hi2 Try.cz2 rfl rfl (by omega)) rfl ?_ | refine w_val (v_indexA Try.underlying28 Try.hi2 Try.cz2 rfl rfl (by omega)) rfl ?_
  refine w_want rfl rfl ?_
  first | refine w_val (v_loadB 0 rfl Try.underlying2 rfl rfl rfl) rfl ?_ | refine w_val (v_loadB 1 rfl Try.underlying2 rfl rfl rfl) rfl ?_ | refine w_val (v_loadB 2 rfl Try.underlying2 rfl rfl rfl) rfl ?_ | refine w_val (v_loadB 3 rfl Try.underlying2 rfl rfl rfl) rfl ?_ | refine w_val (v_loadB 4 rfl Try.underlying2 rfl rfl rfl) rfl ?_ | refine w_val (v_loadB 5 rfl Try.underlying2 rfl rfl rfl) rfl ?_ | refine w_val (v_loadB 6 rfl Try.underlying2 rfl rfl rfl) rfl ?_ | refine w_val (v_loadB 7 rfl Try.underlying2 rfl rfl rfl) rfl ?_
  refine w_want rfl rfl ?_
  refine w_val (v_eql rfl rfl) rfl ?_
  first | refine w_val (v_pickT rfl rfl) rfl ?_ | refine w_val (v_pickF rfl rfl) rfl ?_
  refine w_val (v_move rfl) rfl ?_
  refine w_want rfl rfl ?_
  refine w_op rfl ?_
  refine x_call0 (v := .int .i64 1) rfl rfl rfl Try.call19 rfl (fun w hw => arith_spec 6 1 2 w) ?_
  refine w_want rfl rfl ?_
  refine w_val (v_eql rfl rfl) rfl ?_
  first | refine w_val (v_pickT rfl rfl) rfl ?_ | refine w_val (v_pickF rfl rfl) rfl ?_
  refine w_val (v_assign rfl) rfl ?_
  refine w_nil ?_
  refine e_retQ (q_ret1 rfl (.tmp rfl) ?_)
  exact fun w' hw' => ⟨rfl, hw'.res.nil⟩
end Go.SL
