/- Ytebdkaadbakhlac: part X3 of this seat's own texts. -/
import Derived.Test.YtebdkaadbakhlacX2
import Derived.Test.YtebdkaadbakhlacU2
set_option linter.unusedVariables false
set_option linter.unusedSimpArgs false

open Go Go.Proofs Go.SL
set_option maxRecDepth 100000
set_option maxHeartbeats 4000000
namespace Go.SL
abbrev rgr : RoundL := [[⟨1, 0, 0, 0, 5⟩, ⟨7, 2, 0, 0, 0⟩], [⟨2, 0, 2, 0, 0⟩, ⟨7, 1, 0, 0, 0⟩]]
abbrev rgp : List Int := [1, 1, 0, 1]
theorem rg_fault : roundFaultL rgr = 0 := by decide +kernel
theorem rg_st : stAt zero10 rgr 2 = [0, 5, 5, 0, 0, 0, 0, 0, 0, 0] := by decide +kernel
theorem rg_res : resL (resAll zero10 rgr) = [.int .i64 0, .int .i64 5, .int .i64 0, .int .i64 0, .int .i64 0, .int .i64 0, .int .i64 5, .int .i64 0, .int .i64 0, .int .i64 0] := by
  have : resAll zero10 rgr = [(0, [5, 0, 0, 0]), (0, [5, 0, 0, 0])] := by decide +kernel
  rw [this]; rfl
theorem roundBegun_spec (w : World) : Calls Try.prog 23 #[] w fun e w' => e = .returned (.bool true) ∧ Res w [] [] w' := by
  refine enter0 (N := 40) Try.func23 rfl rfl rfl ?_
  refine e_seq ?_
  refine e_region ?_
  refine w_val (v_assign rfl) rfl ?_
  refine w_nil ?_
  refine e_seq ?_
  refine e_region ?_
  refine w_val (v_build (v := opV ⟨1, 0, 0, 0, 5⟩) _ rfl (by intro _; simp [Instr.build, Instr.fill, Try.zeroValue118, go_sem]; rfl)) rfl ?_
  refine w_val (v_build (v := opV ⟨7, 2, 0, 0, 0⟩) _ rfl (by intro _; simp [Instr.build, Instr.fill, Try.zeroValue118, go_sem]; rfl)) rfl ?_
  refine w_op rfl ?_
  refine x_buildSlice _ (deedCells [⟨1, 0, 0, 0, 5⟩, ⟨7, 2, 0, 0, 0⟩]) rfl (run_buildSlice Try.underlying25 Try.hi118 Try.cz118 Try.zeroValue118 rfl (by kernel_rfl)) rfl (fun b7 => ?_)
  refine w_val (v_build (v := opV ⟨2, 0, 2, 0, 0⟩) _ rfl (by intro _; simp [Instr.build, Instr.fill, Try.zeroValue118, go_sem]; rfl)) rfl ?_
  refine w_val (v_build (v := opV ⟨7, 1, 0, 0, 0⟩) _ rfl (by intro _; simp [Instr.build, Instr.fill, Try.zeroValue118, go_sem]; rfl)) rfl ?_
  refine w_op rfl ?_
  refine x_buildSlice _ (deedCells [⟨2, 0, 2, 0, 0⟩, ⟨7, 1, 0, 0, 0⟩]) rfl (run_buildSlice Try.underlying25 Try.hi118 Try.cz118 Try.zeroValue118 rfl (by kernel_rfl)) rfl (fun b10 => ?_)
  refine w_op rfl ?_
  refine x_buildSlice _ ([Value.slice (some ⟨b7, 0, none⟩) 2 2, Value.slice (some ⟨b10, 0, none⟩) 2 2]) rfl (run_buildSlice Try.underlying38 Try.hi25 Try.cz25 Try.zeroValue25 rfl (by kernel_rfl)) rfl (fun b11 => ?_)
  refine w_val (v_assign rfl) rfl ?_
  refine w_nil ?_
  refine e_seq ?_
  refine e_region ?_
  refine w_val (v_build (v := intsV zero10) _ rfl (by intro _; simp [Instr.build, Instr.fill, Try.zeroValue23, go_sem]; rfl)) rfl ?_
  refine w_val (v_move rfl) rfl ?_
  refine w_op rfl ?_
  refine x_buildSlice _ (intsC rgp) rfl (run_buildSlice Try.underlying51 Try.hi3 Try.cz3 Try.zeroValue3 rfl (by kernel_rfl)) rfl (fun b15 => ?_)
  refine w_op rfl ?_
  refine x_call (dst := some 16) (mc := []) (σ := Option Addr × Nat) (fun x => 2 ≤ x.2) (fun x => .tuple #[intsV [0, 5, 5, 0, 0, 0, 0, 0, 0, 0], .slice x.1 2 2, .int .i64 0]) (fun x => [Own (.slice x.1 2 x.2) 30 5 2 (resL (resAll zero10 rgr))]) rfl rfl rfl Try.call29 (fun w hw => by have := rdRun_ok zero10 _ (.slice (some ⟨b15, 0, none⟩) 4 4) rgr rgp w (lit_round2 (d1 := [⟨1, 0, 0, 0, 5⟩, ⟨7, 2, 0, 0, 0⟩]) (d2 := [⟨2, 0, 2, 0, 0⟩, ⟨7, 1, 0, 0, 0⟩]) (hw.mem (i := 1) rfl) (hw.mem (i := 3) rfl) (hw.mem (i := 2) rfl)) rfl (blk_rds (hw.mem (i := 0) rfl) rfl) rg_fault (by decide); rwa [show stAt zero10 rgr (List.length rgr) = [0, 5, 5, 0, 0, 0, 0, 0, 0, 0] from rg_st] at this) rfl (fun x hx => ?_)
  obtain ⟨A1, k1⟩ := x
  dsimp only at hx
  dsimp only
  refine g_shape2 0 rfl fun A2 k2 hv2 hk2 hA2 => ?_
  obtain ⟨ad, rfl⟩ := hA2 (by omega)
  injection hv2 with hv2 _ hk3
  subst hv2
  subst hk3
  rw [rg_res]
  refine w_val (v_move rfl) rfl ?_
  refine w_val (v_extract rfl rfl) rfl ?_
  refine w_val (v_extract rfl rfl) rfl ?_
  refine w_val (v_extract rfl rfl) rfl ?_
  refine w_op rfl ?_
  refine x_alloc (z := .agg #[.int .i64 0, .int .i64 0, .int .i64 0, .int .i64 0, .int .i64 0, .int .i64 0, .int .i64 0, .int .i64 0, .int .i64 0, .int .i64 0]) (by intro w; exact Try.zeroValue23 w) rfl (fun b2 => ?_)
  refine w_op rfl ?_
  refine x_storeA 0 rfl rfl rfl Try.hi23 Try.cz23 rfl (by first | (simp [Value.oneCell', opCells]; done) | assumption | exact one_ints _ | exact one_resCells _ _ | exact one_slotC _) ?_
  refine w_val (v_assign rfl) rfl ?_
  refine w_val (v_assign rfl) rfl ?_
  refine w_nil ?_
  refine e_seq ?_
  refine e_region ?_
  refine w_val (v_move rfl) rfl ?_
  refine w_val (v_is (v' := .bool true) (v_eql rfl rfl) (by rfl)) rfl ?_
  refine w_val (v_move rfl) rfl ?_
  refine w_want rfl rfl ?_
  refine w_val (v_loadBA 0 rfl Try.underlying23 rfl Try.hi23 Try.cz23 rfl) rfl ?_
  refine w_want rfl rfl ?_
  refine w_val (v_build (v := intsV [0, 5, 5, 0, 0, 0, 0, 0, 0, 0]) _ rfl (by intro _; simp [Instr.build, Instr.fill, Try.zeroValue23, go_sem]; rfl)) rfl ?_
  refine w_want rfl rfl ?_
  refine w_val (v_is (v' := .bool true) (v_eqlInts Try.underlying23 (by kernel_rfl) Try.underlying2 Try.hi2 Try.cz2 (by first | rfl | assumption | (simp; omega)) (by first | rfl | assumption | (simp; omega)) rfl rfl) (by rfl)) rfl ?_
  refine w_val (v_pickT rfl rfl) rfl ?_
  refine w_val (v_move rfl) rfl ?_
  refine w_want rfl rfl ?_
  refine w_val (v_move rfl) rfl ?_
  refine w_want rfl rfl ?_
  refine w_val (v_lenS Try.underlying57 rfl) rfl ?_
  refine w_want rfl rfl ?_
  refine w_val (v_is (v' := .bool true) (v_eql rfl rfl) (by rfl)) rfl ?_
  refine w_val (v_pickT rfl rfl) rfl ?_
  refine w_val (v_move rfl) rfl ?_
  refine w_want rfl rfl ?_
  refine w_val (v_move rfl) rfl ?_
  refine w_want rfl rfl ?_
  refine w_val (v_indexS Try.underlying57 Try.hi30 Try.cz30 rfl rfl (by first | omega | decide)) rfl ?_
  refine w_want rfl rfl ?_
  refine w_val (v_fieldAddrB (o := 1) Try.underlying30 rfl rfl Try.nz28 rfl) rfl ?_
  refine w_want rfl rfl ?_
  refine w_val (v_indexAB Try.underlying28 Try.hi2 Try.cz2 rfl rfl (by first | omega | decide)) rfl ?_
  refine w_want rfl rfl ?_
  refine w_val (v_loadW 1 rfl (by omega) (j := 6) rfl Try.underlying2 rfl rfl) rfl ?_
  refine w_want rfl rfl ?_
  refine w_val (v_is (v' := .bool true) (v_eql rfl rfl) (by rfl)) rfl ?_
  refine w_val (v_pickT rfl rfl) rfl ?_
  refine w_val (v_assign rfl) rfl ?_
  refine w_nil ?_
  refine e_retQ (q_ret1 rfl (.tmp rfl) ?_)
  exact fun w' hw' => ⟨rfl, hw'.res.nil⟩
end Go.SL

