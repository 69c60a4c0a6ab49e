/- Ytebdkaadbakhlac: part X3 of this seat's own texts. -/
import Derived.Test.YtebdkaadbakhlacX2
import Derived.Test.YtebdkaadbakhlacU2
set_option linter.unusedVariables false
set_option linter.unusedSimpArgs false

open Go Go.Proofs Go.SL
set_option maxRecDepth 100000
set_option maxHeartbeats 4000000
namespace Go.SL
abbrev rgr : RoundL := [[⟨1, 0, 0, 0, 5⟩, ⟨7, 2, 0, 0, 0⟩], [⟨2, 0, 2, 0, 0⟩, ⟨7, 1, 0, 0, 0⟩]]
abbrev rgp : List Int := [1, 1, 0, 1]
theorem rg_fault : roundFaultL rgr = 0 := by decide +kernel
theorem rg_st : stAt zero10 rgr 2 = [0, 5, 5, 0, 0, 0, 0, 0, 0, 0] := by decide +kernel
theorem rg_res : resL (resAll zero10 rgr) = [.int .i64 0, .int .i64 5, .int .i64 0, .int .i64 0, .int .i64 0, .int .i64 0, .int .i64 5, .int .i64 0, .int .i64 0, .int .i64 0] := by
  have : resAll zero10 rgr = [(0, [5, 0, 0, 0]), (0, [5, 0, 0, 0])] := by decide +kernel
  rw [this]; rfl
theorem roundBegun_spec (w : World) : Calls Try.prog 23 #[] w fun e w' => e = .returned (.bool true) ∧ Res w [] [] w' := by
  refine enter0 (N := 40) Try.func23 rfl rfl rfl ?_
  refine e_seq ?_
  refine e_region ?_
  refine w_val (v_assign rfl) rfl ?_
  refine w_nil ?_
  refine e_seq ?_
  refine e_region ?_
  refine w_val (v_build (v := opV ⟨1, 0, 0, 0, 5⟩) _ rfl (by intro _; simp [Instr.build, Instr.fill, Try.zeroValue118, go_sem]; rfl)) rfl ?_
  refine w_val (v_build (v := opV ⟨7, 2, 0, 0, 0⟩) _ rfl (by intro _; simp [Instr.build, Instr.fill, Try.zeroValue118, go_sem]; rfl)) rfl ?_
  refine w_op rfl ?_
  refine x_buildSlice _ (deedCells [⟨1, 0, 0, 0, 5⟩, ⟨7, 2, 0, 0, 0⟩]) rfl (run_buildSlice Try.underlying25 Try.hi118 Try.cz118 Try.zeroValue118 rfl (by kernel_rfl)) rfl (fun b7 => ?_)
  refine w_val (v_build (v := opV ⟨2, 0, 2, 0, 0⟩) _ rfl (by intro _; simp [Instr.build, Instr.fill, Try.zeroValue118, go_sem]; rfl)) rfl ?_
  refine w_val (v_build (v := opV ⟨7, 1, 0, 0, 0⟩) _ rfl (by intro _; simp [Instr.build, Instr.fill, Try.zeroValue118, go_sem]; rfl)) rfl ?_
  refine w_op rfl ?_
  refine x_buildSlice _ (deedCells [⟨2, 0, 2, 0, 0⟩, ⟨7, 1, 0, 0, 0⟩]) rfl (run_buildSlice Try.underlying25 Try.hi118 Try.cz118 Try.zeroValue118 rfl (by kernel_rfl)) rfl (fun b10 => ?_)
  refine w_op rfl ?_
  refine x_buildSlice _ ([Value.slice (some ⟨b7, 0, none⟩) 2 2, Value.slice (some ⟨b10, 0, none⟩) 2 2]) rfl (run_buildSlice Try.underlying38 Try.hi25 Try.cz25 Try.zeroValue25 rfl (by kernel_rfl)) rfl (fun b11 => ?_)
  refine w_val (v_assign rfl) rfl ?_
  refine w_nil ?_
  refine e_seq ?_
  refine e_region ?_
  refine w_val (v_build (v := intsV zero10) _ rfl (by intro _; simp [Instr.build, Instr.fill, Try.zeroValue23, go_sem]; rfl)) rfl ?_
  refine w_val (v_move rfl) rfl ?_
  refine w_op rfl ?_
  refine x_buildSlice _ (intsC rgp) rfl (run_buildSlice Try.underlying51 Try.hi3 Try.cz3 Try.zeroValue3 rfl (by kernel_rfl)) rfl (fun b15 => ?_)
  refine w_op rfl ?_
  refine x_call (dst := some 16) (mc := []) (σ := Option Addr × Nat) (fun x => 2 ≤ x.2) (fun x => .tuple #[intsV [0, 5, 5, 0, 0, 0, 0, 0, 0, 0], .slice x.1 2 2, .int .i64 0]) (fun x => [Own (.slice x.1 2 x.2) 30 5 2 (resL (resAll zero10 rgr))]) rfl rfl rfl Try.call29 (fun w hw => by have := rdRun_ok zero10 _ (.slice (some ⟨b15, 0, none⟩) 4 4) rgr rgp w (lit_round2 (d1 := [⟨1, 0, 0, 0, 5⟩, ⟨7, 2, 0, 0, 0⟩]) (d2 := [⟨2, 0, 2, 0, 0⟩, ⟨7, 1, 0, 0, 0⟩]) (hw.mem (i := 1) rfl) (hw.mem (i := 3) rfl) (hw.mem (i := 2) rfl)) rfl (blk_rds (hw.mem (i := 0) rfl) rfl) rg_fault (by decide); rwa [show stAt zero10 rgr (List.length rgr) = [0, 5, 5, 0, 0, 0, 0, 0, 0, 0] from rg_st] at this) rfl (fun x hx => ?_)
  obtain ⟨A1, k1⟩ := x
  dsimp only at hx
  dsimp only
  refine g_shape2 0 rfl fun A2 k2 hv2 hk2 hA2 => ?_
  obtain ⟨ad, rfl⟩ := hA2 (by omega)
  injection hv2 with hv2 _ hk3
  subst hv2
  subst hk3
  rw [rg_res]
  refine w_val (v_move rfl) rfl ?_
  refine w_val (v_extract rfl rfl) rfl ?_
  refine w_val (v_extract rfl rfl) rfl ?_
  refine w_val (v_extract rfl rfl) rfl ?_
  refine w_op rfl ?_
  refine x_alloc (z := .agg #[.int .i64 0, .int .i64 0, .int .i64 0, .int .i64 0, .int .i64 0, .int .i64 0, .int .i64 0, .int .i64 0, .int .i64 0, .int .i64 0]) (by intro w; exact Try.zeroValue23 w) rfl (fun b2 => ?_)
  refine w_op rfl ?_
  refine x_storeA 0 rfl rfl rfl Try.hi23 Try.cz23 rfl (by first | (simp [Value.oneCell', opCells]; done) | assumption | exact one_ints _ | exact one_resCells _ _ | exact one_slotC _) ?_
  refine w_val (v_assign rfl) rfl ?_
  refine w_val (v_assign rfl) rfl ?_
  refine w_nil ?_
  refine e_seq ?_
  refine e_region ?_
  refine w_val (v_move rfl) rfl ?_
  refine w_val (v_is (v' := .bool true) (v_eql rfl rfl) (by rfl)) rfl ?_
  refine w_val (v_move rfl) rfl ?_
  refine w_want rfl rfl ?_
  refine w_val (v_loadBA 0 rfl Try.underlying23 rfl Try.hi23 Try.cz23 rfl) rfl ?_
  refine w_want rfl rfl ?_
  refine w_val (v_build (v := intsV [0, 5, 5, 0, 0, 0, 0, 0, 0, 0]) _ rfl (by intro _; simp [Instr.build, Instr.fill, Try.zeroValue23, go_sem]; rfl)) rfl ?_
  refine w_want rfl rfl ?_
  refine w_val (v_is (v' := .bool true) (v_eqlInts Try.underlying23 (by kernel_rfl) Try.underlying2 Try.hi2 Try.cz2 (by first | rfl | assumption | (simp; omega)) (by first | rfl | assumption | (simp; omega)) rfl rfl) (by rfl)) rfl ?_
  refine w_val (v_pickT rfl rfl) rfl ?_
  refine w_val (v_move rfl) rfl ?_
  refine w_want rfl rfl ?_
  refine w_val (v_move rfl) rfl ?_
  refine w_want rfl rfl ?_
  refine w_val (v_lenS Try.underlying57 rfl) rfl ?_
  refine w_want rfl rfl ?_
  refine w_val (v_is (v' := .bool true) (v_eql rfl rfl) (by rfl)) rfl ?_
  refine w_val (v_pickT rfl rfl) rfl ?_
  refine w_val (v_move rfl) rfl ?_
  refine w_want rfl rfl ?_
  refine w_val (v_move rfl) rfl ?_
  refine w_want rfl rfl ?_
  refine w_val (v_indexS Try.underlying57 Try.hi30 Try.cz30 rfl rfl (by first | omega | decide)) rfl ?_
  refine w_want rfl rfl ?_
  refine w_val (v_fieldAddrB (o := 1) Try.underlying30 rfl rfl Try.nz28 rfl) rfl ?_
  refine w_want rfl rfl ?_
  refine w_val (v_indexAB Try.underlying28 Try.hi2 Try.cz2 rfl rfl (by first | omega | decide)) rfl ?_
  refine w_want rfl rfl ?_
  refine w_val (v_loadW 1 rfl (by omega) (j := 6) rfl Try.underlying2 rfl rfl) rfl ?_
  refine w_want rfl rfl ?_
  refine w_val (v_is (v' := .bool true) (v_eql rfl rfl) (by rfl)) rfl ?_
  refine w_val (v_pickT rfl rfl) rfl ?_
  refine w_val (v_assign rfl) rfl ?_
  refine w_nil ?_
  refine e_retQ (q_ret1 rfl (.tmp rfl) ?_)
  exact fun w' hw' => ⟨rfl, hw'.res.nil⟩
theorem RoundSame_spec (s : List Int) (v vp : Value) (r : RoundL) (p : List Int) (w : World) (h : IsRound w.cell? v r) (hb : ∀ d ∈ r, d.length ≤ 4398046511104) (hs10 : s.length = 10) (hp : IsInts w.cell? vp p) :
    Calls Try.prog 9 #[intsV s, v, vp] w fun e w' => e = .returned (.bool true) ∧ Res w [] [] w' := by
  have hsr := h
  rw [← off_none w] at hsr hp
  obtain ⟨A, ka, rfl, hle, hvc⟩ := h.form
  obtain ⟨Ap, kp, rfl, hlep, hpc⟩ := hp.form
  have hlz : (intCells s).length = 10 := by rw [intCells, List.length_map]; exact hs10
  refine enter0 (N := 78) Try.func9 rfl rfl rfl ?_
  refine e_seq ?_
  refine e_region ?_
  refine w_op rfl ?_
  refine x_box rfl rfl (fun b3 => ?_)
  refine w_val (v_assign rfl) rfl ?_
  refine w_nil ?_
  refine e_seq ?_
  refine e_seq ?_
  refine e_region ?_
  refine w_op rfl ?_
  refine x_call0 (v := .bool true) rfl rfl rfl Try.call23 rfl (fun w hw => roundBegun_spec w) ?_
  refine w_val (v_not rfl) rfl ?_
  refine w_nil ?_
  refine e_condF rfl ?_
  by_cases hg : greatL r = true
  · refine e_skip ?_
    refine e_seq ?_
    refine e_seq ?_
    refine e_region ?_
    refine w_val (v_move rfl) rfl ?_
    refine w_op rfl ?_
    refine x_call0 (v := .bool true) rfl rfl rfl Try.call24 rfl (fun w hw => by have := great_spec _ r w (hsr.mono hw.off) hb; rwa [hg] at this) ?_
    refine w_val (v_move rfl) rfl ?_
    refine w_skip rfl rfl rfl rfl ?_
    refine w_skip rfl rfl rfl rfl ?_
    refine w_skip rfl rfl rfl rfl ?_
    refine w_val (v_pickT rfl rfl) rfl ?_
    refine w_nil ?_
    refine e_condT rfl ?_
    refine e_seq ?_
    refine e_region ?_
    refine w_val (v_assign rfl) rfl ?_
    refine w_nil ?_
    refine e_retQ (q_ret1 rfl (.tmp rfl) ?_)
    exact fun w' hw' => ⟨rfl, hw'.res.nil⟩
  · have hg : greatL r = false := by cases h : greatL r with | true => exact absurd h hg | false => rfl
    by_cases h500 : 500 < p.length
    · refine e_skip ?_
      refine e_seq ?_
      refine e_seq ?_
      refine e_region ?_
      refine w_val (v_move rfl) rfl ?_
      refine w_op rfl ?_
      refine x_call0 (v := .bool false) rfl rfl rfl Try.call24 rfl (fun w hw => by have := great_spec _ r w (hsr.mono hw.off) hb; rwa [hg] at this) ?_
      refine w_val (v_move rfl) rfl ?_
      refine w_want rfl rfl ?_
      refine w_val (v_move rfl) rfl ?_
      refine w_want rfl rfl ?_
      refine w_val (v_lenS Try.underlying51 rfl) rfl ?_
      refine w_want rfl rfl ?_
      refine w_val (v_is (v' := .bool true) (v_gtr rfl rfl) (by rw [decide_eq_true (by omega)])) rfl ?_
      refine w_val (v_pickF rfl rfl) rfl ?_
      refine w_nil ?_
      refine e_condT rfl ?_
      refine e_seq ?_
      refine e_region ?_
      refine w_val (v_assign rfl) rfl ?_
      refine w_nil ?_
      refine e_retQ (q_ret1 rfl (.tmp rfl) ?_)
      exact fun w' hw' => ⟨rfl, hw'.res.nil⟩
    · by_cases hf : roundFaultL r = 0
      · by_cases h3 : p.length ≤ 300
        · obtain ⟨h8, hck⟩ := roundFault_ok hf
          have hzl := stAt_len (r := r) hs10 r.length
          have hser := fun (w1 : World) (hl : Le (off w (feet [])) w1.cell?) => serAll_spec s _ r w1 (hsr.mono hl) hs10
          have hsa : serAllL s r = (stAt s r r.length, resAll s r, 0) := by unfold serAllL; rw [if_neg (by omega), allL_is]
          have hrun := fun (w1 : World) (hl : Le (off w (feet [])) w1.cell?) => rdRun_ok s _ _ r p w1 (hsr.mono hl) hs10 (Rds.mono hl hp) hf h3
          have hral := resAll_len s r
          have hrar := resAll_regs hs10 r
          rw [hsa] at hser
          dsimp only at hser
          rw [hral] at hser
          generalize stAt s r r.length = z at *
          obtain ⟨z0, z1, z2, z3, z4, z5, z6, z7, z8, z9, rfl⟩ := list10 hzl
          refine e_skip ?_
          refine e_seq ?_
          refine e_seq ?_
          refine e_region ?_
          refine w_val (v_move rfl) rfl ?_
          refine w_op rfl ?_
          refine x_call0 (v := .bool false) rfl rfl rfl Try.call24 rfl (fun w hw => by have := great_spec _ r w (hsr.mono hw.off) hb; rwa [hg] at this) ?_
          refine w_val (v_move rfl) rfl ?_
          refine w_want rfl rfl ?_
          refine w_val (v_move rfl) rfl ?_
          refine w_want rfl rfl ?_
          refine w_val (v_lenS Try.underlying51 rfl) rfl ?_
          refine w_want rfl rfl ?_
          refine w_val (v_is (v' := .bool false) (v_gtr rfl rfl) (by rw [decide_eq_false (by omega)])) rfl ?_
          refine w_val (v_pickF rfl rfl) rfl ?_
          refine w_nil ?_
          refine e_condF rfl ?_
          refine e_skip ?_
          refine e_seq ?_
          refine e_region ?_
          refine w_val (v_loadBA 0 rfl Try.underlying23 rfl Try.hi23 (Try.cz23.trans hlz.symm) rfl) rfl ?_
          refine w_val (v_move rfl) rfl ?_
          refine w_val (v_move rfl) rfl ?_
          refine w_op rfl ?_
          refine x_call (dst := some 27) (mc := []) (σ := Option Addr × Nat) (fun x => r.length ≤ x.2) (fun x => .tuple #[intsV [z0, z1, z2, z3, z4, z5, z6, z7, z8, z9], .slice x.1 r.length r.length, .int .i64 0]) (fun x => [Own (.slice x.1 r.length x.2) 30 5 r.length (resL (resAll s r))]) rfl rfl rfl Try.call29 (fun w hw => hrun w hw.off) rfl (fun x hx => ?_); obtain ⟨A1, k1⟩ := x; dsimp only at hx; dsimp only
          refine w_val (v_move rfl) rfl ?_
          refine w_val (v_extract rfl rfl) rfl ?_
          refine w_val (v_extract rfl rfl) rfl ?_
          refine w_val (v_extract rfl rfl) rfl ?_
          refine w_op rfl ?_
          refine x_alloc (z := .agg #[.int .i64 0, .int .i64 0, .int .i64 0, .int .i64 0, .int .i64 0, .int .i64 0, .int .i64 0, .int .i64 0, .int .i64 0, .int .i64 0]) (by intro w; exact Try.zeroValue23 w) rfl (fun b7 => ?_)
          refine w_op rfl ?_
          refine x_storeA 0 rfl rfl rfl Try.hi23 (Try.cz23.trans (by simp [Value.cells, intsV, resCells, intCells, hs10])) (by simp [Value.cells, intsV, resCells, intCells, hs10]) (by first | exact one_intCells _ | exact one_resCells _ _) ?_
          refine w_val (v_assign rfl) rfl ?_
          refine w_val (v_assign rfl) rfl ?_
          refine w_nil ?_
          refine e_seq ?_
          refine e_region ?_
          refine w_val (v_move rfl) rfl ?_
          refine w_op rfl ?_
          refine x_call0 (v := .int .i64 (roundFaultL r)) rfl rfl rfl Try.call25 rfl (fun w hw => RoundFault_spec _ r w (hsr.mono hw.off)) ?_
          refine w_val (v_assign rfl) rfl ?_
          refine w_nil ?_
          refine e_seq ?_
          refine e_seq ?_
          refine e_region ?_
          refine w_val (v_move rfl) rfl ?_
          refine w_val (v_is (v' := .bool true) (v_eql rfl rfl) (by rw [decide_eq_true hf])) rfl ?_
          refine w_val (v_move rfl) rfl ?_
          refine w_want rfl rfl ?_
          refine w_val (v_move rfl) rfl ?_
          refine w_want rfl rfl ?_
          refine w_val (v_lenS Try.underlying51 rfl) rfl ?_
          refine w_want rfl rfl ?_
          refine w_val (v_is (v' := .bool false) (v_gtr rfl rfl) (by rw [decide_eq_false (by omega)])) rfl ?_
          refine w_val (v_pickT rfl rfl) rfl ?_
          refine w_nil ?_
          refine e_condF rfl ?_
          refine e_skip ?_
          refine e_seq ?_
          refine e_seq ?_
          refine e_region ?_
          refine w_val (v_move rfl) rfl ?_
          refine w_val (v_is (v' := .bool false) (v_neq rfl rfl) (by rw [decide_eq_false (fun h => h hf)])) rfl ?_
          refine w_val (v_move rfl) rfl ?_
          refine w_want rfl rfl ?_
          refine w_val (v_move rfl) rfl ?_
          refine w_want rfl rfl ?_
          refine w_val (v_is (v' := .bool false) (v_neq rfl rfl) (by rfl)) rfl ?_
          refine w_val (v_pickF rfl rfl) rfl ?_
          refine w_nil ?_
          refine e_condF rfl ?_
          refine e_skip ?_
          refine e_seq ?_
          refine e_region ?_
          refine w_val (v_loadBA 2 rfl Try.underlying23 rfl Try.hi23 (Try.cz23.trans (by simp [Value.cells, intsV, resCells, intCells, hs10])) rfl) rfl ?_
          refine w_val (v_move rfl) rfl ?_
          refine w_op rfl ?_
          refine x_call (dst := some 62) (mc := []) (σ := Value) (fun _ => True) (fun sl => .tuple #[intsV [z0, z1, z2, z3, z4, z5, z6, z7, z8, z9], sl, .int .i64 0]) (fun sl => [Own sl 30 5 r.length (resL (resAll s r))]) rfl rfl rfl Try.call47 (fun w hw => hser w hw.off) rfl (fun sl _ => ?_)
          refine w_val (v_move rfl) rfl ?_
          refine w_val (v_extract rfl rfl) rfl ?_
          refine w_val (v_extract rfl rfl) rfl ?_
          refine w_val (v_extract rfl rfl) rfl ?_
          refine w_op rfl ?_
          refine x_alloc (z := .agg #[.int .i64 0, .int .i64 0, .int .i64 0, .int .i64 0, .int .i64 0, .int .i64 0, .int .i64 0, .int .i64 0, .int .i64 0, .int .i64 0]) (by intro w; exact Try.zeroValue23 w) rfl (fun b11 => ?_)
          refine w_op rfl ?_
          refine x_storeA 0 rfl rfl rfl Try.hi23 (Try.cz23.trans (by simp [Value.cells, intsV, resCells, intCells, hs10])) (by simp [Value.cells, intsV, resCells, intCells, hs10]) (by first | exact one_intCells _ | exact one_resCells _ _) ?_
          refine w_val (v_assign rfl) rfl ?_
          refine w_val (v_assign rfl) rfl ?_
          refine w_nil ?_
          refine e_seq ?_
          refine e_region ?_
          refine w_val (v_move rfl) rfl ?_
          refine w_val (v_is (v' := .bool true) (v_eql rfl rfl) (by rfl)) rfl ?_
          refine w_val (v_move rfl) rfl ?_
          refine w_want rfl rfl ?_
          refine w_val (v_loadBN 2 rfl Try.underlying23 rfl Try.hi23 Try.cz23 rfl (cs' := intCells [z0, z1, z2, z3, z4, z5, z6, z7, z8, z9]) rfl rfl) rfl ?_
          refine w_want rfl rfl ?_
          refine w_val (v_loadBN 0 rfl Try.underlying23 rfl Try.hi23 Try.cz23 rfl (cs' := intCells [z0, z1, z2, z3, z4, z5, z6, z7, z8, z9]) rfl rfl) rfl ?_
          refine w_want rfl rfl ?_
          refine w_val (v_is (v' := .bool true) (v_eqlInts Try.underlying23 (by kernel_rfl) Try.underlying2 Try.hi2 Try.cz2 (by first | rfl | assumption | (simp; omega)) (by first | rfl | assumption | (simp; omega)) rfl rfl) (by rw [decide_eq_true rfl])) rfl ?_
          refine w_val (v_pickT rfl rfl) rfl ?_
          refine w_val (v_move rfl) rfl ?_
          refine w_want rfl rfl ?_
          refine w_val (v_move rfl) rfl ?_
          refine w_want rfl rfl ?_
          refine w_val (v_move rfl) rfl ?_
          refine w_want rfl rfl ?_
          refine w_op rfl ?_
          refine x_call0 (v := .bool true) rfl rfl rfl Try.call30 rfl (fun w hw => by have := sameResults_spec (.slice A1 r.length r.length) sl (resAll s r) (resAll s r) w (by rw [hral]; exact rds_clip (own_rds (hw.mem (i := 3) rfl))) (by rw [hral]; exact own_rds (hw.mem (i := 1) rfl)) hrar hrar (by omega); rwa [decide_eq_true rfl] at this) ?_
          refine w_val (v_pickT rfl rfl) rfl ?_
          refine w_val (v_assign rfl) rfl ?_
          refine w_nil ?_
          refine e_retQ (q_ret1 rfl (.tmp rfl) ?_)
          exact fun w' hw' => ⟨rfl, hw'.res.nil⟩
        · have e : runC r p.length = 4 := by unfold runC; rw [if_neg (by simp [hf]), if_pos (by omega)]
          have hrun := fun (w1 : World) (hl : Le (off w (feet [])) w1.cell?) => rdRun_bad s _ _ r p w1 (hsr.mono hl) hs10 (Rds.mono hl hp) (by rw [e]; decide)
          rw [e] at hrun
          refine e_skip ?_
          refine e_seq ?_
          refine e_seq ?_
          refine e_region ?_
          refine w_val (v_move rfl) rfl ?_
          refine w_op rfl ?_
          refine x_call0 (v := .bool false) rfl rfl rfl Try.call24 rfl (fun w hw => by have := great_spec _ r w (hsr.mono hw.off) hb; rwa [hg] at this) ?_
          refine w_val (v_move rfl) rfl ?_
          refine w_want rfl rfl ?_
          refine w_val (v_move rfl) rfl ?_
          refine w_want rfl rfl ?_
          refine w_val (v_lenS Try.underlying51 rfl) rfl ?_
          refine w_want rfl rfl ?_
          refine w_val (v_is (v' := .bool false) (v_gtr rfl rfl) (by rw [decide_eq_false (by omega)])) rfl ?_
          refine w_val (v_pickF rfl rfl) rfl ?_
          refine w_nil ?_
          refine e_condF rfl ?_
          refine e_skip ?_
          refine e_seq ?_
          refine e_region ?_
          refine w_val (v_loadBA 0 rfl Try.underlying23 rfl Try.hi23 (Try.cz23.trans hlz.symm) rfl) rfl ?_
          refine w_val (v_move rfl) rfl ?_
          refine w_val (v_move rfl) rfl ?_
          refine w_op rfl ?_
          refine x_call0 (v := .tuple #[intsV zero10, .slice none 0 0, .int .i64 4]) rfl rfl rfl Try.call29 rfl (fun w hw => hrun w hw.off) ?_
          refine w_val (v_move rfl) rfl ?_
          refine w_val (v_extract rfl rfl) rfl ?_
          refine w_val (v_extract rfl rfl) rfl ?_
          refine w_val (v_extract rfl rfl) rfl ?_
          refine w_op rfl ?_
          refine x_alloc (z := .agg #[.int .i64 0, .int .i64 0, .int .i64 0, .int .i64 0, .int .i64 0, .int .i64 0, .int .i64 0, .int .i64 0, .int .i64 0, .int .i64 0]) (by intro w; exact Try.zeroValue23 w) rfl (fun b7 => ?_)
          refine w_op rfl ?_
          refine x_storeA 0 rfl rfl rfl Try.hi23 (Try.cz23.trans (by simp [Value.cells, intsV, resCells, intCells, hs10, zero10_len])) (by simp [Value.cells, intsV, resCells, intCells, hs10, zero10_len]) (by first | exact one_intCells _ | exact one_resCells _ _) ?_
          refine w_val (v_assign rfl) rfl ?_
          refine w_val (v_assign rfl) rfl ?_
          refine w_nil ?_
          refine e_seq ?_
          refine e_region ?_
          refine w_val (v_move rfl) rfl ?_
          refine w_op rfl ?_
          refine x_call0 (v := .int .i64 (roundFaultL r)) rfl rfl rfl Try.call25 rfl (fun w hw => RoundFault_spec _ r w (hsr.mono hw.off)) ?_
          refine w_val (v_assign rfl) rfl ?_
          refine w_nil ?_
          refine e_seq ?_
          refine e_seq ?_
          refine e_region ?_
          refine w_val (v_move rfl) rfl ?_
          refine w_val (v_is (v' := .bool true) (v_eql rfl rfl) (by rw [decide_eq_true hf])) rfl ?_
          refine w_val (v_move rfl) rfl ?_
          refine w_want rfl rfl ?_
          refine w_val (v_move rfl) rfl ?_
          refine w_want rfl rfl ?_
          refine w_val (v_lenS Try.underlying51 rfl) rfl ?_
          refine w_want rfl rfl ?_
          refine w_val (v_is (v' := .bool true) (v_gtr rfl rfl) (by rw [decide_eq_true (by omega)])) rfl ?_
          refine w_val (v_pickT rfl rfl) rfl ?_
          refine w_nil ?_
          refine e_condT rfl ?_
          refine e_region ?_
          refine w_val (v_assign rfl) rfl ?_
          refine w_nil ?_
          refine e_seq ?_
          refine e_seq ?_
          refine e_region ?_
          refine w_val (v_move rfl) rfl ?_
          refine w_val (v_is (v' := .bool true) (v_neq rfl rfl) (by rfl)) rfl ?_
          refine w_val (v_move rfl) rfl ?_
          refine w_skip rfl rfl rfl rfl ?_
          refine w_skip rfl rfl rfl rfl ?_
          refine w_val (v_pickT rfl rfl) rfl ?_
          refine w_nil ?_
          refine e_condT rfl ?_
          refine e_seq ?_
          refine e_region ?_
          refine w_val (v_move rfl) rfl ?_
          refine w_val (v_move rfl) rfl ?_
          refine w_val (v_is (v' := .bool true) (v_eql rfl rfl) (by rfl)) rfl ?_
          refine w_val (v_move rfl) rfl ?_
          refine w_want rfl rfl ?_
          refine w_val (v_loadBN 0 rfl Try.underlying23 rfl Try.hi23 Try.cz23 rfl (cs' := intCells zero10) rfl rfl) rfl ?_
          refine w_want rfl rfl ?_
          refine w_val (v_build (v := intsV zero10) _ rfl (by intro _; simp [Instr.build, Instr.fill, Try.zeroValue23, go_sem]; rfl)) rfl ?_
          refine w_want rfl rfl ?_
          refine w_val (v_is (v' := .bool true) (v_eqlInts Try.underlying23 (by kernel_rfl) Try.underlying2 Try.hi2 Try.cz2 (by first | rfl | assumption | (simp; omega)) (by first | rfl | assumption | (simp; omega)) rfl rfl) (by rfl)) rfl ?_
          refine w_val (v_pickT rfl rfl) rfl ?_
          refine w_val (v_move rfl) rfl ?_
          refine w_want rfl rfl ?_
          refine w_val (v_move rfl) rfl ?_
          refine w_want rfl rfl ?_
          refine w_val (v_lenS Try.underlying57 rfl) rfl ?_
          refine w_want rfl rfl ?_
          refine w_val (v_is (v' := .bool true) (v_eql rfl rfl) (by rfl)) rfl ?_
          refine w_val (v_pickT rfl rfl) rfl ?_
          refine w_val (v_assign rfl) rfl ?_
          refine w_nil ?_
          refine e_retQ (q_ret1 rfl (.tmp rfl) ?_)
          exact fun w' hw' => ⟨rfl, hw'.res.nil⟩
      · have e : runC r p.length = roundFaultL r := by unfold runC; rw [if_pos hf]
        have hrun := fun (w1 : World) (hl : Le (off w (feet [])) w1.cell?) => rdRun_bad s _ _ r p w1 (hsr.mono hl) hs10 (Rds.mono hl hp) (by rw [e]; exact hf)
        rw [e] at hrun
        refine e_skip ?_
        refine e_seq ?_
        refine e_seq ?_
        refine e_region ?_
        refine w_val (v_move rfl) rfl ?_
        refine w_op rfl ?_
        refine x_call0 (v := .bool false) rfl rfl rfl Try.call24 rfl (fun w hw => by have := great_spec _ r w (hsr.mono hw.off) hb; rwa [hg] at this) ?_
        refine w_val (v_move rfl) rfl ?_
        refine w_want rfl rfl ?_
        refine w_val (v_move rfl) rfl ?_
        refine w_want rfl rfl ?_
        refine w_val (v_lenS Try.underlying51 rfl) rfl ?_
        refine w_want rfl rfl ?_
        refine w_val (v_is (v' := .bool false) (v_gtr rfl rfl) (by rw [decide_eq_false (by omega)])) rfl ?_
        refine w_val (v_pickF rfl rfl) rfl ?_
        refine w_nil ?_
        refine e_condF rfl ?_
        refine e_skip ?_
        refine e_seq ?_
        refine e_region ?_
        refine w_val (v_loadBA 0 rfl Try.underlying23 rfl Try.hi23 (Try.cz23.trans hlz.symm) rfl) rfl ?_
        refine w_val (v_move rfl) rfl ?_
        refine w_val (v_move rfl) rfl ?_
        refine w_op rfl ?_
        refine x_call0 (v := .tuple #[intsV zero10, .slice none 0 0, .int .i64 (roundFaultL r)]) rfl rfl rfl Try.call29 rfl (fun w hw => hrun w hw.off) ?_
        refine w_val (v_move rfl) rfl ?_
        refine w_val (v_extract rfl rfl) rfl ?_
        refine w_val (v_extract rfl rfl) rfl ?_
        refine w_val (v_extract rfl rfl) rfl ?_
        refine w_op rfl ?_
        refine x_alloc (z := .agg #[.int .i64 0, .int .i64 0, .int .i64 0, .int .i64 0, .int .i64 0, .int .i64 0, .int .i64 0, .int .i64 0, .int .i64 0, .int .i64 0]) (by intro w; exact Try.zeroValue23 w) rfl (fun b7 => ?_)
        refine w_op rfl ?_
        refine x_storeA 0 rfl rfl rfl Try.hi23 (Try.cz23.trans (by simp [Value.cells, intsV, resCells, intCells, hs10, zero10_len])) (by simp [Value.cells, intsV, resCells, intCells, hs10, zero10_len]) (by first | exact one_intCells _ | exact one_resCells _ _) ?_
        refine w_val (v_assign rfl) rfl ?_
        refine w_val (v_assign rfl) rfl ?_
        refine w_nil ?_
        refine e_seq ?_
        refine e_region ?_
        refine w_val (v_move rfl) rfl ?_
        refine w_op rfl ?_
        refine x_call0 (v := .int .i64 (roundFaultL r)) rfl rfl rfl Try.call25 rfl (fun w hw => RoundFault_spec _ r w (hsr.mono hw.off)) ?_
        refine w_val (v_assign rfl) rfl ?_
        refine w_nil ?_
        refine e_seq ?_
        refine e_seq ?_
        refine e_region ?_
        refine w_val (v_move rfl) rfl ?_
        refine w_val (v_is (v' := .bool false) (v_eql rfl rfl) (by rw [decide_eq_false hf])) rfl ?_
        refine w_val (v_move rfl) rfl ?_
        refine w_skip rfl rfl rfl rfl ?_
        refine w_skip rfl rfl rfl rfl ?_
        refine w_skip rfl rfl rfl rfl ?_
        refine w_val (v_pickF rfl rfl) rfl ?_
        refine w_nil ?_
        refine e_condF rfl ?_
        refine e_skip ?_
        refine e_seq ?_
        refine e_seq ?_
        refine e_region ?_
        refine w_val (v_move rfl) rfl ?_
        refine w_val (v_is (v' := .bool true) (v_neq rfl rfl) (by rw [decide_eq_true hf])) rfl ?_
        refine w_val (v_move rfl) rfl ?_
        refine w_skip rfl rfl rfl rfl ?_
        refine w_skip rfl rfl rfl rfl ?_
        refine w_val (v_pickT rfl rfl) rfl ?_
        refine w_nil ?_
        refine e_condT rfl ?_
        refine e_seq ?_
        refine e_region ?_
        refine w_val (v_move rfl) rfl ?_
        refine w_val (v_move rfl) rfl ?_
        refine w_val (v_is (v' := .bool true) (v_eql rfl rfl) (by rw [decide_eq_true rfl])) rfl ?_
        refine w_val (v_move rfl) rfl ?_
        refine w_want rfl rfl ?_
        refine w_val (v_loadBN 0 rfl Try.underlying23 rfl Try.hi23 Try.cz23 rfl (cs' := intCells zero10) rfl rfl) rfl ?_
        refine w_want rfl rfl ?_
        refine w_val (v_build (v := intsV zero10) _ rfl (by intro _; simp [Instr.build, Instr.fill, Try.zeroValue23, go_sem]; rfl)) rfl ?_
        refine w_want rfl rfl ?_
        refine w_val (v_is (v' := .bool true) (v_eqlInts Try.underlying23 (by kernel_rfl) Try.underlying2 Try.hi2 Try.cz2 (by first | rfl | assumption | (simp; omega)) (by first | rfl | assumption | (simp; omega)) rfl rfl) (by rfl)) rfl ?_
        refine w_val (v_pickT rfl rfl) rfl ?_
        refine w_val (v_move rfl) rfl ?_
        refine w_want rfl rfl ?_
        refine w_val (v_move rfl) rfl ?_
        refine w_want rfl rfl ?_
        refine w_val (v_lenS Try.underlying57 rfl) rfl ?_
        refine w_want rfl rfl ?_
        refine w_val (v_is (v' := .bool true) (v_eql rfl rfl) (by rfl)) rfl ?_
        refine w_val (v_pickT rfl rfl) rfl ?_
        refine w_val (v_assign rfl) rfl ?_
        refine w_nil ?_
        refine e_retQ (q_ret1 rfl (.tmp rfl) ?_)
        exact fun w' hw' => ⟨rfl, hw'.res.nil⟩
end Go.SL

