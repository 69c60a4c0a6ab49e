/- Ytebdkaadbakhlac: part M4 of this seat's own texts. -/
import Derived.Test.YtebdkaadbakhlacM3
set_option linter.unusedVariables false
set_option linter.unusedSimpArgs false

open Go Go.Proofs Go.SL
set_option maxRecDepth 100000
set_option maxHeartbeats 4000000
namespace Go.SL
def thenL (L : List RoundL) (n : Int) : List Int × Bool := if n < 0 ∨ (L.length : Int) < n then (zero10, false) else (stL L n.toNat, true)
theorem stThen_spec (y : StP) (q : QL) (n : Int) (w : World) (h : StV w.cell? y q) (hok : q.Ok) : Calls Try.prog 58 #[.pointer (some ⟨y.p, 0, none⟩), .int .i64 n] w fun e w' => e = .returned (.tuple #[intsV (thenL q.L n).1, .bool (thenL q.L n).2]) ∧ Res w [] [] w' := by
  rw [← off_none w] at h
  have h0 := h.c0
  have h25 := hok.log.len
  refine enter0 (N := 44) Try.func58 rfl rfl rfl ?_
  refine e_seq ?_
  refine e_region ?_
  refine w_op rfl ?_
  refine x_alloc (z := .agg #[.int .i64 0, .int .i64 0, .int .i64 0, .int .i64 0, .int .i64 0, .int .i64 0, .int .i64 0, .int .i64 0, .int .i64 0, .int .i64 0]) (by intro w; exact Try.zeroValue23 w) rfl (fun b4 => ?_)
  refine w_val (v_assign rfl) rfl ?_
  refine w_nil ?_
  refine e_seq ?_
  refine e_region ?_
  refine w_op rfl ?_
  refine x_alloc (z := .agg #[.int .i64 0, .int .i64 0, .int .i64 0, .int .i64 0, .int .i64 0, .int .i64 0, .int .i64 0, .int .i64 0, .int .i64 0, .int .i64 0]) (by intro w; exact Try.zeroValue23 w) rfl (fun b6 => ?_)
  refine w_nil ?_
  refine e_seq ?_
  refine e_seq ?_
  by_cases hn0 : n < 0
  · have e : thenL q.L n = (zero10, false) := by unfold thenL; rw [if_pos (.inl hn0)]
    rw [e]
    refine e_region ?_
    refine w_val (v_move rfl) rfl ?_
    refine w_val (v_is (v' := .bool true) (v_lss rfl rfl) (by rw [decide_eq_true hn0])) rfl ?_
    refine w_val (v_move rfl) rfl ?_
    refine w_skip rfl rfl rfl rfl ?_
    refine w_skip rfl rfl rfl rfl ?_
    refine w_skip rfl rfl rfl rfl ?_
    refine w_skip rfl rfl rfl rfl ?_
    refine w_skip rfl rfl rfl rfl ?_
    refine w_skip rfl rfl rfl rfl ?_
    refine w_skip rfl rfl rfl rfl ?_
    refine w_val (v_pickT rfl rfl) rfl ?_
    refine w_nil ?_
    refine e_condT rfl ?_
    refine e_seq ?_
    refine e_region ?_
    refine w_val (v_loadBN 0 rfl Try.underlying23 rfl Try.hi23 Try.cz23 rfl (cs' := intCells zero10) rfl rfl) rfl ?_
    refine w_op rfl ?_
    refine x_storeA 1 rfl rfl rfl Try.hi23 (Try.cz23.trans (by simp [Value.cells, intsV, resCells, intCells, zero10_len])) (by simp [Value.cells, intsV, resCells, intCells, zero10_len]) (by first | exact one_intCells _ | exact one_resCells _ _) ?_
    refine w_val (v_assign rfl) rfl ?_
    refine w_nil ?_
    refine e_retQ (q_ret2 rfl (ResV.agg 1 rfl rfl (by rw [isAggD, Try.underlying23]; rfl) (Try.cz23) Try.hi23) (.tmp rfl) ?_)
    exact fun w' hw' => ⟨rfl, hw'.res.nil⟩
  · by_cases hnl : (q.L.length : Int) < n
    · have e : thenL q.L n = (zero10, false) := by unfold thenL; rw [if_pos (.inr hnl)]
      rw [e]
      refine e_region ?_
      refine w_val (v_move rfl) rfl ?_
      refine w_val (v_is (v' := .bool false) (v_lss rfl rfl) (by rw [decide_eq_false hn0])) rfl ?_
      refine w_val (v_move rfl) rfl ?_
      refine w_want rfl rfl ?_
      refine w_val (v_move rfl) rfl ?_
      refine w_want rfl rfl ?_
      refine w_val (v_move rfl) rfl ?_
      refine w_want rfl rfl ?_
      refine w_val (v_nilCheck rfl) rfl ?_
      refine w_want rfl rfl ?_
      refine w_val (v_fieldAddrB (o := 0) Try.underlying103 rfl rfl Try.nz101 rfl) rfl ?_
      refine w_want rfl rfl ?_
      refine w_val (v_loadO Try.underlying101 rfl rfl (h0)) rfl ?_
      refine w_want rfl rfl ?_
      refine w_op rfl ?_
      refine x_call0 (v := .int .i64 (q.L.length : Int)) rfl rfl rfl Try.call55 rfl (fun w hw => logLen_spec y.pl y.bv y.ev q.L q.k w (h.mono hw.off).lg) ?_
      refine w_want rfl rfl ?_
      refine w_val (v_is (v' := .bool true) (v_gtr rfl rfl) (by rw [decide_eq_true hnl])) rfl ?_
      refine w_val (v_pickF rfl rfl) rfl ?_
      refine w_nil ?_
      refine e_condT rfl ?_
      refine e_seq ?_
      refine e_region ?_
      refine w_val (v_loadBN 0 rfl Try.underlying23 rfl Try.hi23 Try.cz23 rfl (cs' := intCells zero10) rfl rfl) rfl ?_
      refine w_op rfl ?_
      refine x_storeA 1 rfl rfl rfl Try.hi23 (Try.cz23.trans (by simp [Value.cells, intsV, resCells, intCells, zero10_len])) (by simp [Value.cells, intsV, resCells, intCells, zero10_len]) (by first | exact one_intCells _ | exact one_resCells _ _) ?_
      refine w_val (v_assign rfl) rfl ?_
      refine w_nil ?_
      refine e_retQ (q_ret2 rfl (ResV.agg 1 rfl rfl (by rw [isAggD, Try.underlying23]; rfl) (Try.cz23) Try.hi23) (.tmp rfl) ?_)
      exact fun w' hw' => ⟨rfl, hw'.res.nil⟩
    · obtain ⟨m, rfl⟩ : ∃ m : Nat, n = m := ⟨n.toNat, by omega⟩
      have e : thenL q.L (m : Int) = (stL q.L m, true) := by unfold thenL; rw [if_neg (by omega), Int.toNat_natCast]
      rw [e]
      have hm : m ≤ q.L.length := by omega
      refine e_region ?_
      refine w_val (v_move rfl) rfl ?_
      refine w_val (v_is (v' := .bool false) (v_lss rfl rfl) (by rw [decide_eq_false hn0])) rfl ?_
      refine w_val (v_move rfl) rfl ?_
      refine w_want rfl rfl ?_
      refine w_val (v_move rfl) rfl ?_
      refine w_want rfl rfl ?_
      refine w_val (v_move rfl) rfl ?_
      refine w_want rfl rfl ?_
      refine w_val (v_nilCheck rfl) rfl ?_
      refine w_want rfl rfl ?_
      refine w_val (v_fieldAddrB (o := 0) Try.underlying103 rfl rfl Try.nz101 rfl) rfl ?_
      refine w_want rfl rfl ?_
      refine w_val (v_loadO Try.underlying101 rfl rfl (h0)) rfl ?_
      refine w_want rfl rfl ?_
      refine w_op rfl ?_
      refine x_call0 (v := .int .i64 (q.L.length : Int)) rfl rfl rfl Try.call55 rfl (fun w hw => logLen_spec y.pl y.bv y.ev q.L q.k w (h.mono hw.off).lg) ?_
      refine w_want rfl rfl ?_
      refine w_val (v_is (v' := .bool false) (v_gtr rfl rfl) (by rw [decide_eq_false hnl])) rfl ?_
      refine w_val (v_pickF rfl rfl) rfl ?_
      refine w_nil ?_
      refine e_condF rfl ?_
      refine e_skip ?_
      refine e_seq ?_
      refine e_seq ?_
      refine e_region ?_
      refine w_val (v_move rfl) rfl ?_
      refine w_val (v_move rfl) rfl ?_
      refine w_nil ?_
      refine e_block ?_
      refine e_loopH (σ := Nat) [0, 4, 6, 22] (.cons rfl (.cons rfl (.cons rfl (.cons rfl .nil)))) (fun i => [(23, .int .i64 (i : Int))]) (fun i => [.blk b6 23 (intCells (stL q.L i)), .blk b4 23 (intCells zero10)]) (fun i => i ≤ m) (fun i => m - i) 0 (Nat.zero_le _) (by repeat (first | exact Sub.nil _ | refine Sub.cons rfl ?_)) (fun _ hw => hw) ?_
      rintro i hi
      dsimp only at hi ⊢
      have hz := stL_len q.L i
      refine e_seq ?_
      refine e_region ?_
      refine w_val (v_lss rfl rfl) rfl ?_
      refine w_nil ?_
      refine e_seq ?_
      refine e_condD rfl (fun hlt => ?_) (fun hlt => ?_)
      · have hi' : i < q.L.length := by omega
        have hgd : q.L.getD i [] = q.L[i] := by simp [List.getD, hi']
        have hf := hok.fault hi'
        have hround := fun (w1 : World) (hv : LgV w1.cell? y.pl y.bv y.ev q.L q.k) => logRound_spec y.pl y.bv y.ev q.L q.k i w1 hv hok.log hi'
        rw [← hgd] at hround
        have hst1 := stL_next q.L i
        have hz2 := stL_len q.L (i + 1)
        have hrun := fun (w1 : World) (v1 : Value) (h1 : IsRound w1.cell? v1 (q.L.getD i [])) => rdRun_ok (stL q.L i) v1 (.slice none 0 0) (q.L.getD i []) [] w1 h1 hz (isInts_nil _) hf (by decide)
        rw [← hst1] at hrun
        generalize hx : stL q.L (i + 1) = x at *
        refine e_skip ?_
        refine e_seq ?_
        refine e_block ?_
        refine e_seq ?_
        refine e_region ?_
        refine w_val (v_move rfl) rfl ?_
        refine w_val (v_assign rfl) rfl ?_
        refine w_nil ?_
        refine e_seq ?_
        refine e_region ?_
        refine w_val (v_move rfl) rfl ?_
        refine w_val (v_nilCheck rfl) rfl ?_
        refine w_val (v_fieldAddrB (o := 0) Try.underlying103 rfl rfl Try.nz101 rfl) rfl ?_
        refine w_val (v_loadO Try.underlying101 rfl rfl (h0)) rfl ?_
        refine w_val (v_move rfl) rfl ?_
        refine w_op rfl ?_
        refine x_call (dst := some 32) (mc := []) (σ := Value × (Nat → Prop)) (fun _ => True) (fun s => .tuple #[s.1, .bool true]) (fun s => [Keep s.2 (fun c => IsRound c s.1 (q.L.getD i []))]) rfl rfl rfl Try.call62 (fun w hw => hround w (h.mono hw.off).lg) rfl (fun s _ => ?_); obtain ⟨rv, G⟩ := s; dsimp only
        refine w_val (v_move rfl) rfl ?_
        refine w_val (v_extract rfl rfl) rfl ?_
        refine w_val (v_extract rfl rfl) rfl ?_
        refine w_val (v_assign rfl) rfl ?_
        refine w_val (v_assign rfl) rfl ?_
        refine w_nil ?_
        refine e_region ?_
        refine w_val (v_loadBA 1 rfl Try.underlying23 rfl Try.hi23 (Try.cz23.trans (by simp [Value.cells, intsV, resCells, intCells, hz, zero10_len, hz2])) rfl) rfl ?_
        refine w_val (v_move rfl) rfl ?_
        refine w_op rfl ?_
        refine x_call (dst := some 38) (mc := []) (σ := Option Addr × Nat) (fun x => (q.L.getD i []).length ≤ x.2) (fun z => .tuple #[intsV x, .slice z.1 (q.L.getD i []).length (q.L.getD i []).length, .int .i64 0]) (fun z => [Own (.slice z.1 (q.L.getD i []).length z.2) 30 5 (q.L.getD i []).length (resL (resAll (stL q.L i) (q.L.getD i [])))]) rfl rfl rfl Try.call29 (fun w hw => hrun w rv (keep_all (IsRound.up _ _) (hw.mem (i := 0) rfl))) rfl (fun z hz1 => ?_); obtain ⟨A1, k1⟩ := z; dsimp only at hz1; dsimp only
        refine w_val (v_move rfl) rfl ?_
        refine w_val (v_extract rfl rfl) rfl ?_
        refine w_val (v_extract rfl rfl) rfl ?_
        refine w_val (v_extract rfl rfl) rfl ?_
        refine w_op rfl ?_
        refine x_storeA 2 rfl rfl rfl Try.hi23 (Try.cz23.trans (by simp [Value.cells, intsV, resCells, intCells, hz, zero10_len, hz2])) (by simp [Value.cells, intsV, resCells, intCells, hz, zero10_len, hz2]) (by first | exact one_intCells _ | exact one_resCells _ _) ?_
        refine w_nil ?_
        refine e_blk ?_
        refine e_region ?_
        refine w_val (v_add rfl rfl (by omega)) rfl ?_
        refine w_val (v_move rfl) rfl ?_
        refine w_nil ?_
        subst hx
        exact e_round (i + 1) (by omega) (by omega) (by repeat (first | exact Sub.nil _ | refine Sub.cons rfl ?_)) (fun _ hw => hw.pick [2, 3] (by decide))
      · have e : i = m := by omega
        subst e
        refine e_exit rfl ?_
        refine e_seq ?_
        refine e_region ?_
        refine w_val (v_loadBA 0 rfl Try.underlying23 rfl Try.hi23 (Try.cz23.trans (by simp [Value.cells, intsV, resCells, intCells, hz, zero10_len])) rfl) rfl ?_
        refine w_op rfl ?_
        refine x_storeA 1 rfl rfl rfl Try.hi23 (Try.cz23.trans (by simp [Value.cells, intsV, resCells, intCells, hz, zero10_len])) (by simp [Value.cells, intsV, resCells, intCells, hz, zero10_len]) (by first | exact one_intCells _ | exact one_resCells _ _) ?_
        refine w_val (v_assign rfl) rfl ?_
        refine w_nil ?_
        refine e_retQ (q_ret2 rfl (ResV.agg 1 rfl rfl (by rw [isAggD, Try.underlying23]; rfl) (Try.cz23.trans (by simp [intCells, hz])) Try.hi23) (.tmp rfl) ?_)
        exact fun w' hw' => ⟨rfl, hw'.res.nil⟩
abbrev sgr : RoundL := [[⟨1, 0, 0, 0, 5⟩, ⟨7, 2, 0, 0, 0⟩]]
theorem sg_in : ∀ d ∈ sgr, ∀ o ∈ d, OpIn o := by
  intro d hd o ho
  simp only [List.mem_singleton] at hd
  subst hd
  simp only [List.mem_cons, List.not_mem_nil, or_false] at ho
  rcases ho with rfl | rfl <;> exact ⟨by simp [In64], by simp [In64], by simp [In64], by simp [In64], by simp [In64]⟩
theorem sg_fault : ¬ roundFaultL sgr ≠ 0 := by decide +kernel
theorem sg_put : putL [] sgr = ([sgr], 0, 0) := by
  have h : ¬ ((([] : List RoundL).length = 25) ∨ 4000 < (bytesOf []).length + (encL sgr).length) := by decide +kernel
  rw [putL_ok sg_fault h]; rfl
abbrev sq1 : QL := ⟨[sgr], 0, 0⟩
abbrev sq3 : QL := ⟨[sgr], 1, 0⟩
abbrev sq4 : QL := ⟨[sgr], 1, 1⟩
theorem sg_1 : doQ ⟨[], 0, 0⟩ ⟨1, 0, sgr, []⟩ = (sq1, 0) := by unfold doQ; rw [if_pos rfl, sg_put]
theorem sg_2 : doQ sq1 ⟨3, 0, [], []⟩ = (sq1, 7) := by unfold doQ; rw [if_neg (by decide), if_neg (by decide), if_pos rfl]; rfl
theorem sg_3 : doQ sq1 ⟨2, 0, [], []⟩ = (sq3, 0) := by unfold doQ; rw [if_neg (by decide), if_pos rfl]; rfl
theorem sg_4 : doQ sq3 ⟨3, 0, [], [0, 0]⟩ = (sq4, 0) := by unfold doQ; rw [if_neg (by decide), if_neg (by decide), if_pos rfl]; rfl
theorem sg_ok1 : sq1.Ok := by have := doQ_ok q0_ok (x := ⟨1, 0, sgr, []⟩) sg_in; rwa [sg_1] at this
theorem sg_ok3 : sq3.Ok := by have := doQ_ok sg_ok1 (x := ⟨2, 0, [], []⟩) (fun d hd => by cases hd); rwa [sg_3] at this
theorem sg_ok4 : sq4.Ok := by have := doQ_ok sg_ok3 (x := ⟨3, 0, [], [0, 0]⟩) (fun d hd => by cases hd); rwa [sg_4] at this
theorem sg_st : stL [sgr] 1 = [0, 0, 5, 0, 0, 0, 0, 0, 0, 0] := by decide +kernel
theorem sg_len : (lastL [sgr] 1).length = 1 := by decide +kernel
theorem sg_then : thenL [sgr] 1 = ([0, 0, 5, 0, 0, 0, 0, 0, 0, 0], true) := by
  unfold thenL; rw [if_neg (by decide)]; rw [show ((1 : Int).toNat) = 1 from rfl, sg_st]
theorem isRound_nil' (c : View) : IsRound c (.slice none 0 0) [] := ⟨[], ⟨none, 0, rfl, Nat.le_refl _, rfl, fun h => absurd h (Nat.lt_irrefl _)⟩, fun i hi => by simp at hi⟩
theorem storeBegun_spec (w : World) : Calls Try.prog 48 #[] w fun e w' => e = .returned (.bool true) ∧ Res w [] [] w' := by
  refine enter0 (N := 74) Try.func48 rfl rfl rfl ?_
  refine e_seq ?_
  refine e_region ?_
  refine w_val (v_assign rfl) rfl ?_
  refine w_nil ?_
  refine e_seq ?_
  refine e_region ?_
  refine w_op rfl ?_
  refine x_call (dst := some 9) (mc := []) (σ := StP) (fun _ => True) (fun y => .pointer (some ⟨y.p, 0, none⟩)) (fun y => stH y ⟨[], 0, 0⟩) rfl rfl rfl Try.call50 (fun w _ => stNew_spec w) rfl (fun y _ => ?_); obtain ⟨p, pl, bv, ev, A, kk⟩ := y; dsimp only
  refine w_val (v_assign rfl) rfl ?_
  refine w_nil ?_
  refine e_seq ?_
  refine e_seq ?_
  refine e_region ?_
  refine w_val (v_move rfl) rfl ?_
  refine w_val (v_is (v' := .bool false) (v_eqlPtr Try.underlying90 rfl rfl) (by rfl)) rfl ?_
  refine w_nil ?_
  refine e_condF rfl ?_
  refine e_skip ?_
  refine e_seq ?_
  refine e_region ?_
  refine w_val (v_build (v := opV ⟨1, 0, 0, 0, 5⟩) _ rfl (by intro _; simp [Instr.build, Instr.fill, Try.zeroValue118, go_sem]; rfl)) rfl ?_
  refine w_val (v_build (v := opV ⟨7, 2, 0, 0, 0⟩) _ rfl (by intro _; simp [Instr.build, Instr.fill, Try.zeroValue118, go_sem]; rfl)) rfl ?_
  refine w_op rfl ?_
  refine x_buildSlice _ (deedCells [⟨1, 0, 0, 0, 5⟩, ⟨7, 2, 0, 0, 0⟩]) rfl (run_buildSlice Try.underlying25 Try.hi118 Try.cz118 Try.zeroValue118 rfl (by kernel_rfl)) rfl (fun b14 => ?_)
  refine w_op rfl ?_
  refine x_buildSlice _ ([Value.slice (some ⟨b14, 0, none⟩) 2 2]) rfl (run_buildSlice Try.underlying38 Try.hi25 Try.cz25 Try.zeroValue25 rfl (by kernel_rfl)) rfl (fun b15 => ?_)
  refine w_val (v_assign rfl) rfl ?_
  refine w_nil ?_
  refine e_seq ?_
  refine e_region ?_
  refine w_val (v_move rfl) rfl ?_
  refine w_val (v_move rfl) rfl ?_
  refine w_val (v_build (v := sstV ⟨1, 0, sgr, []⟩ (.slice (some ⟨b15, 0, none⟩) 1 1) (.slice none 0 0)) _ rfl (by intro _; simp [Instr.build, Instr.fill, Try.zeroValue100, go_sem]; rfl)) rfl ?_
  refine w_op rfl ?_
  refine x_callM (dst := some 19) (stH ⟨p, pl, bv, ev, A, kk⟩ ⟨[], 0, 0⟩) [.blk b15 25 [Value.slice (some ⟨b14, 0, none⟩) 2 2], .blk b14 118 (deedCells [⟨1, 0, 0, 0, 5⟩, ⟨7, 2, 0, 0, 0⟩])] (σ := (Value × Value) × Option Addr × Nat) (fun _ => True) (fun _ => .int .i64 0) (fun z => stH ⟨p, pl, z.1.1, z.1.2, z.2.1, z.2.2⟩ sq1) (List.perm_append_comm (l₁ := [_, _])) rfl rfl rfl Try.call51 (fun w hw => by have := stDo_spec ⟨p, pl, bv, ev, A, kk⟩ ⟨[], 0, 0⟩ ⟨1, 0, sgr, []⟩ (.slice (some ⟨b15, 0, none⟩) 1 1) (.slice none 0 0) w (res_part hw).1 (res_part hw).2 q0_ok (IsRound.mono hw.apart (lit_round (d := [⟨1, 0, 0, 0, 5⟩, ⟨7, 2, 0, 0, 0⟩]) (hw.partR (.blk b15 25 [Value.slice (some ⟨b14, 0, none⟩) 2 2]) (by simp)) (hw.partR (.blk b14 118 (deedCells [⟨1, 0, 0, 0, 5⟩, ⟨7, 2, 0, 0, 0⟩])) (by simp)))) (isInts_nil _) sg_in; rwa [sg_1] at this) rfl (fun z _ => ?_); obtain ⟨⟨bv1, ev1⟩, A1, k1⟩ := z; dsimp only
  refine w_val (v_assign rfl) rfl ?_
  refine w_nil ?_
  refine e_seq ?_
  refine e_region ?_
  refine w_val (v_move rfl) rfl ?_
  refine w_val (v_build (v := sstV ⟨3, 0, [], []⟩ (.slice none 0 0) (.slice none 0 0)) _ rfl (by intro _; simp [Instr.build, Instr.fill, Try.zeroValue100, go_sem]; rfl)) rfl ?_
  refine w_op rfl ?_
  refine x_call (dst := some 22) (mc := stH ⟨p, pl, bv1, ev1, A1, k1⟩ sq1) (mr := [.blk b15 25 [Value.slice (some ⟨b14, 0, none⟩) 2 2], .blk b14 118 (deedCells [⟨1, 0, 0, 0, 5⟩, ⟨7, 2, 0, 0, 0⟩])]) (σ := (Value × Value) × Option Addr × Nat) (fun _ => True) (fun _ => .int .i64 7) (fun z => stH ⟨p, pl, z.1.1, z.1.2, z.2.1, z.2.2⟩ sq1) rfl rfl rfl Try.call51 (fun w hw => by have := stDo_spec ⟨p, pl, bv1, ev1, A1, k1⟩ sq1 ⟨3, 0, [], []⟩ (.slice none 0 0) (.slice none 0 0) w (res_part hw).1 (res_part hw).2 sg_ok1 (isRound_nil' _) (isInts_nil _) (fun d hd => by cases hd); rwa [sg_2] at this) rfl (fun z _ => ?_); obtain ⟨⟨bv2, ev2⟩, A2, k2⟩ := z; dsimp only
  refine w_val (v_assign rfl) rfl ?_
  refine w_nil ?_
  refine e_seq ?_
  refine e_region ?_
  refine w_val (v_move rfl) rfl ?_
  refine w_val (v_build (v := sstV ⟨2, 0, [], []⟩ (.slice none 0 0) (.slice none 0 0)) _ rfl (by intro _; simp [Instr.build, Instr.fill, Try.zeroValue100, go_sem]; rfl)) rfl ?_
  refine w_op rfl ?_
  refine x_call (dst := some 25) (mc := stH ⟨p, pl, bv2, ev2, A2, k2⟩ sq1) (mr := [.blk b15 25 [Value.slice (some ⟨b14, 0, none⟩) 2 2], .blk b14 118 (deedCells [⟨1, 0, 0, 0, 5⟩, ⟨7, 2, 0, 0, 0⟩])]) (σ := (Value × Value) × Option Addr × Nat) (fun _ => True) (fun _ => .int .i64 0) (fun z => stH ⟨p, pl, z.1.1, z.1.2, z.2.1, z.2.2⟩ sq3) rfl rfl rfl Try.call51 (fun w hw => by have := stDo_spec ⟨p, pl, bv2, ev2, A2, k2⟩ sq1 ⟨2, 0, [], []⟩ (.slice none 0 0) (.slice none 0 0) w (res_part hw).1 (res_part hw).2 sg_ok1 (isRound_nil' _) (isInts_nil _) (fun d hd => by cases hd); rwa [sg_3] at this) rfl (fun z _ => ?_); obtain ⟨⟨bv3, ev3⟩, A3, k3⟩ := z; dsimp only
  refine w_val (v_assign rfl) rfl ?_
  refine w_nil ?_
  refine e_seq ?_
  refine e_region ?_
  refine w_val (v_move rfl) rfl ?_
  refine w_op rfl ?_
  refine x_buildSlice _ (intsC [0, 0]) rfl (run_buildSlice Try.underlying51 Try.hi3 Try.cz3 Try.zeroValue3 rfl (by kernel_rfl)) rfl (fun b27 => ?_)
  refine w_val (v_build (v := sstV ⟨3, 0, [], [0, 0]⟩ (.slice none 0 0) (.slice (some ⟨b27, 0, none⟩) 2 2)) _ rfl (by intro _; simp [Instr.build, Instr.fill, Try.zeroValue100, go_sem]; rfl)) rfl ?_
  refine w_op rfl ?_
  refine x_callM (dst := some 29) (stH ⟨p, pl, bv3, ev3, A3, k3⟩ sq3) [.blk b27 3 (intsC [0, 0]), .blk b15 25 [Value.slice (some ⟨b14, 0, none⟩) 2 2], .blk b14 118 (deedCells [⟨1, 0, 0, 0, 5⟩, ⟨7, 2, 0, 0, 0⟩])] (σ := (Value × Value) × Option Addr × Nat) (fun _ => True) (fun _ => .int .i64 0) (fun z => stH ⟨p, pl, z.1.1, z.1.2, z.2.1, z.2.2⟩ sq4) (List.perm_middle (a := Chunk.blk b27 3 (intsC [0, 0])) (l₁ := stH ⟨p, pl, bv3, ev3, A3, k3⟩ sq3)).symm rfl rfl rfl Try.call51 (fun w hw => by have := stDo_spec ⟨p, pl, bv3, ev3, A3, k3⟩ sq3 ⟨3, 0, [], [0, 0]⟩ (.slice none 0 0) (.slice (some ⟨b27, 0, none⟩) 2 2) w (res_part hw).1 (res_part hw).2 sg_ok3 (isRound_nil' _) (Rds.mono hw.apart (blk_rds (hw.partR (.blk b27 3 (intsC [0, 0])) (by simp)) rfl)) (fun d hd => by cases hd); rwa [sg_4] at this) rfl (fun z _ => ?_); obtain ⟨⟨bv4, ev4⟩, A4, k4⟩ := z; dsimp only
  refine w_val (v_assign rfl) rfl ?_
  refine w_nil ?_
  refine e_seq ?_
  refine e_region ?_
  refine w_val (v_move rfl) rfl ?_
  refine w_op rfl ?_
  refine x_call0 (v := .tuple #[intsV [0, 0, 5, 0, 0, 0, 0, 0, 0, 0], .bool true]) rfl rfl rfl Try.call58 rfl (fun w hw => by have := stThen_spec ⟨p, pl, bv4, ev4, A4, k4⟩ sq4 1 w (StV.of (y := ⟨p, pl, bv4, ev4, A4, k4⟩) (q := sq4) hw (fun c hc => List.mem_append_left _ hc)) sg_ok4; rwa [sg_then] at this) ?_
  refine w_val (v_move rfl) rfl ?_
  refine w_val (v_extract rfl rfl) rfl ?_
  refine w_val (v_extract rfl rfl) rfl ?_
  refine w_op rfl ?_
  refine x_alloc (z := .agg #[.int .i64 0, .int .i64 0, .int .i64 0, .int .i64 0, .int .i64 0, .int .i64 0, .int .i64 0, .int .i64 0, .int .i64 0, .int .i64 0]) (by intro w; exact Try.zeroValue23 w) rfl (fun b7 => ?_)
  refine w_op rfl ?_
  refine x_storeA 0 rfl rfl rfl Try.hi23 Try.cz23 rfl (by first | (simp [Value.oneCell', opCells]; done) | assumption | exact one_ints _ | exact one_resCells _ _ | exact one_slotC _) ?_
  refine w_val (v_assign rfl) rfl ?_
  refine w_nil ?_
  refine e_seq ?_
  refine e_draw ([.blk b7 23 (intCells [0, 0, 5, 0, 0, 0, 0, 0, 0, 0])]) Try.mixed ?_
  refine a_take 0 pan_cx (by kernel_rfl) (fun _ hw => hw.sub (by repeat (first | exact List.Sublist.slnil | exact List.Sublist.refl _ | apply List.Sublist.cons_cons | apply List.Sublist.cons))) rfl (by kernel_rfl) (by kernel_rfl) (v_move rfl) rfl ?_
  refine a_take 1 pan_cx (by kernel_rfl) (fun _ hw => hw.sub (by repeat (first | exact List.Sublist.slnil | exact List.Sublist.refl _ | apply List.Sublist.cons_cons | apply List.Sublist.cons))) rfl (by kernel_rfl) (by kernel_rfl) (v_is (v' := .bool true) (v_eql rfl rfl) (by rfl)) rfl ?_
  refine a_take 2 pan_cx (by kernel_rfl) (fun _ hw => hw.sub (by repeat (first | exact List.Sublist.slnil | exact List.Sublist.refl _ | apply List.Sublist.cons_cons | apply List.Sublist.cons))) rfl (by kernel_rfl) (by kernel_rfl) (v_move rfl) rfl ?_
  refine a_want 3 pan_cx (by kernel_rfl) (fun _ hw => hw.sub (by repeat (first | exact List.Sublist.slnil | exact List.Sublist.refl _ | apply List.Sublist.cons_cons | apply List.Sublist.cons))) rfl (by kernel_rfl) (by kernel_rfl) rfl rfl (v_move rfl) rfl ?_
  refine a_want 4 pan_cx (by kernel_rfl) (fun _ hw => hw.sub (by repeat (first | exact List.Sublist.slnil | exact List.Sublist.refl _ | apply List.Sublist.cons_cons | apply List.Sublist.cons))) rfl (by kernel_rfl) (by kernel_rfl) rfl rfl (v_is (v' := .bool true) (v_eql rfl rfl) (by rfl)) rfl ?_
  refine a_take 5 pan_cx (by kernel_rfl) (fun _ hw => hw.sub (by repeat (first | exact List.Sublist.slnil | exact List.Sublist.refl _ | apply List.Sublist.cons_cons | apply List.Sublist.cons))) rfl (by kernel_rfl) (by kernel_rfl) (v_pickT rfl rfl) rfl ?_
  refine a_take 6 pan_cx (by kernel_rfl) (fun _ hw => hw.sub (by repeat (first | exact List.Sublist.slnil | exact List.Sublist.refl _ | apply List.Sublist.cons_cons | apply List.Sublist.cons))) rfl (by kernel_rfl) (by kernel_rfl) (v_move rfl) rfl ?_
  refine a_want 7 pan_cx (by kernel_rfl) (fun _ hw => hw.sub (by repeat (first | exact List.Sublist.slnil | exact List.Sublist.refl _ | apply List.Sublist.cons_cons | apply List.Sublist.cons))) rfl (by kernel_rfl) (by kernel_rfl) rfl rfl (v_move rfl) rfl ?_
  refine a_want 8 pan_cx (by kernel_rfl) (fun _ hw => hw.sub (by repeat (first | exact List.Sublist.slnil | exact List.Sublist.refl _ | apply List.Sublist.cons_cons | apply List.Sublist.cons))) rfl (by kernel_rfl) (by kernel_rfl) rfl rfl (v_is (v' := .bool true) (v_eql rfl rfl) (by rfl)) rfl ?_
  refine a_take 9 pan_cx (by kernel_rfl) (fun _ hw => hw.sub (by repeat (first | exact List.Sublist.slnil | exact List.Sublist.refl _ | apply List.Sublist.cons_cons | apply List.Sublist.cons))) rfl (by kernel_rfl) (by kernel_rfl) (v_pickT rfl rfl) rfl ?_
  refine a_take 10 pan_cx (by kernel_rfl) (fun _ hw => hw.sub (by repeat (first | exact List.Sublist.slnil | exact List.Sublist.refl _ | apply List.Sublist.cons_cons | apply List.Sublist.cons))) rfl (by kernel_rfl) (by kernel_rfl) (v_move rfl) rfl ?_
  refine a_want 11 pan_cx (by kernel_rfl) (fun _ hw => hw.sub (by repeat (first | exact List.Sublist.slnil | exact List.Sublist.refl _ | apply List.Sublist.cons_cons | apply List.Sublist.cons))) rfl (by kernel_rfl) (by kernel_rfl) rfl rfl (v_move rfl) rfl ?_
  refine a_want 12 pan_cx (by kernel_rfl) (fun _ hw => hw.sub (by repeat (first | exact List.Sublist.slnil | exact List.Sublist.refl _ | apply List.Sublist.cons_cons | apply List.Sublist.cons))) rfl (by kernel_rfl) (by kernel_rfl) rfl rfl (v_is (v' := .bool true) (v_eql rfl rfl) (by rfl)) rfl ?_
  refine a_take 13 pan_cx (by kernel_rfl) (fun _ hw => hw.sub (by repeat (first | exact List.Sublist.slnil | exact List.Sublist.refl _ | apply List.Sublist.cons_cons | apply List.Sublist.cons))) rfl (by kernel_rfl) (by kernel_rfl) (v_pickT rfl rfl) rfl ?_
  refine a_take 14 pan_cx (by kernel_rfl) (fun _ hw => hw.sub (by repeat (first | exact List.Sublist.slnil | exact List.Sublist.refl _ | apply List.Sublist.cons_cons | apply List.Sublist.cons))) rfl (by kernel_rfl) (by kernel_rfl) (v_move rfl) rfl ?_
  refine a_want 15 pan_cx (by kernel_rfl) (fun _ hw => hw.sub (by repeat (first | exact List.Sublist.slnil | exact List.Sublist.refl _ | apply List.Sublist.cons_cons | apply List.Sublist.cons))) rfl (by kernel_rfl) (by kernel_rfl) rfl rfl (v_move rfl) rfl ?_
  refine a_take 16 pan_cx (by kernel_rfl) (fun _ hw => hw.sub (by repeat (first | exact List.Sublist.slnil | exact List.Sublist.refl _ | apply List.Sublist.cons_cons | apply List.Sublist.cons))) rfl (by kernel_rfl) (by kernel_rfl) (v_pickT rfl rfl) rfl ?_
  refine a_take 17 pan_cx (by kernel_rfl) (fun _ hw => hw.sub (by repeat (first | exact List.Sublist.slnil | exact List.Sublist.refl _ | apply List.Sublist.cons_cons | apply List.Sublist.cons))) rfl (by kernel_rfl) (by kernel_rfl) (v_move rfl) rfl ?_
  refine a_want 18 pan_cx (by kernel_rfl) (fun _ hw => hw.sub (by repeat (first | exact List.Sublist.slnil | exact List.Sublist.refl _ | apply List.Sublist.cons_cons | apply List.Sublist.cons))) rfl (by kernel_rfl) (by kernel_rfl) rfl rfl (v_loadBN 0 rfl Try.underlying23 rfl Try.hi23 Try.cz23 rfl (cs' := intCells [0, 0, 5, 0, 0, 0, 0, 0, 0, 0]) rfl rfl) rfl ?_
  refine a_want 19 pan_cx (by kernel_rfl) (fun _ hw => hw.sub (by repeat (first | exact List.Sublist.slnil | exact List.Sublist.refl _ | apply List.Sublist.cons_cons | apply List.Sublist.cons))) rfl (by kernel_rfl) (by kernel_rfl) rfl rfl (v_move rfl) rfl ?_
  refine a_oneW 20 (by kernel_rfl) rfl rfl rfl ?_
  refine x_call0 (v := intsV [0, 0, 5, 0, 0, 0, 0, 0, 0, 0]) rfl rfl rfl Try.call54 rfl (fun w hw => by have := stState_spec ⟨p, pl, bv4, ev4, A4, k4⟩ sq4 w (StV.of (y := ⟨p, pl, bv4, ev4, A4, k4⟩) (q := sq4) hw (fun c hc => List.mem_cons_of_mem _ (List.mem_append_left _ hc))); rwa [sg_st] at this) ?_
  refine a_and (fun _ hw => hw.sub (by repeat (first | exact List.Sublist.slnil | exact List.Sublist.refl _ | apply List.Sublist.cons_cons | apply List.Sublist.cons))) ?_
  refine a_want 21 pan_cx (by kernel_rfl) (fun _ hw => hw.sub (by repeat (first | exact List.Sublist.slnil | exact List.Sublist.refl _ | apply List.Sublist.cons_cons | apply List.Sublist.cons))) rfl (by kernel_rfl) (by kernel_rfl) rfl rfl (v_is (v' := .bool true) (v_eqlInts Try.underlying23 (by kernel_rfl) Try.underlying2 Try.hi2 Try.cz2 (by first | rfl | assumption | (simp; omega)) (by first | rfl | assumption | (simp; omega)) rfl rfl) (by rfl)) rfl ?_
  refine a_take 22 pan_cx (by kernel_rfl) (fun _ hw => hw.sub (by repeat (first | exact List.Sublist.slnil | exact List.Sublist.refl _ | apply List.Sublist.cons_cons | apply List.Sublist.cons))) rfl (by kernel_rfl) (by kernel_rfl) (v_pickT rfl rfl) rfl ?_
  refine a_take 23 pan_cx (by kernel_rfl) (fun _ hw => hw.sub (by repeat (first | exact List.Sublist.slnil | exact List.Sublist.refl _ | apply List.Sublist.cons_cons | apply List.Sublist.cons))) rfl (by kernel_rfl) (by kernel_rfl) (v_move rfl) rfl ?_
  refine a_want 24 pan_cx (by kernel_rfl) (fun _ hw => hw.sub (by repeat (first | exact List.Sublist.slnil | exact List.Sublist.refl _ | apply List.Sublist.cons_cons | apply List.Sublist.cons))) rfl (by kernel_rfl) (by kernel_rfl) rfl rfl (v_indexAB Try.underlying23 Try.hi2 Try.cz2 rfl rfl (by first | omega | decide)) rfl ?_
  refine a_want 25 pan_cx (by kernel_rfl) (fun _ hw => hw.sub (by repeat (first | exact List.Sublist.slnil | exact List.Sublist.refl _ | apply List.Sublist.cons_cons | apply List.Sublist.cons))) rfl (by kernel_rfl) (by kernel_rfl) rfl rfl (v_loadB 0 rfl Try.underlying2 rfl rfl rfl) rfl ?_
  refine a_want 26 pan_cx (by kernel_rfl) (fun _ hw => hw.sub (by repeat (first | exact List.Sublist.slnil | exact List.Sublist.refl _ | apply List.Sublist.cons_cons | apply List.Sublist.cons))) rfl (by kernel_rfl) (by kernel_rfl) rfl rfl (v_is (v' := .bool true) (v_eql rfl rfl) (by rfl)) rfl ?_
  refine a_take 27 pan_cx (by kernel_rfl) (fun _ hw => hw.sub (by repeat (first | exact List.Sublist.slnil | exact List.Sublist.refl _ | apply List.Sublist.cons_cons | apply List.Sublist.cons))) rfl (by kernel_rfl) (by kernel_rfl) (v_pickT rfl rfl) rfl ?_
  refine a_take 28 pan_cx (by kernel_rfl) (fun _ hw => hw.sub (by repeat (first | exact List.Sublist.slnil | exact List.Sublist.refl _ | apply List.Sublist.cons_cons | apply List.Sublist.cons))) rfl (by kernel_rfl) (by kernel_rfl) (v_move rfl) rfl ?_
  refine a_want 29 pan_cx (by kernel_rfl) (fun _ hw => hw.sub (by repeat (first | exact List.Sublist.slnil | exact List.Sublist.refl _ | apply List.Sublist.cons_cons | apply List.Sublist.cons))) rfl (by kernel_rfl) (by kernel_rfl) rfl rfl (v_move rfl) rfl ?_
  refine a_oneW 30 (by kernel_rfl) rfl rfl rfl ?_
  refine x_call0 (v := .int .i64 1) rfl rfl rfl Try.call53 rfl (fun w hw => stDone_spec ⟨p, pl, bv4, ev4, A4, k4⟩ sq4 w (StV.of (y := ⟨p, pl, bv4, ev4, A4, k4⟩) (q := sq4) hw (fun c hc => List.mem_cons_of_mem _ (List.mem_append_left _ hc)))) ?_
  refine a_and (fun _ hw => hw.sub (by repeat (first | exact List.Sublist.slnil | exact List.Sublist.refl _ | apply List.Sublist.cons_cons | apply List.Sublist.cons))) ?_
  refine a_want 31 pan_cx (by kernel_rfl) (fun _ hw => hw.sub (by repeat (first | exact List.Sublist.slnil | exact List.Sublist.refl _ | apply List.Sublist.cons_cons | apply List.Sublist.cons))) rfl (by kernel_rfl) (by kernel_rfl) rfl rfl (v_is (v' := .bool true) (v_eql rfl rfl) (by rfl)) rfl ?_
  refine a_take 32 pan_cx (by kernel_rfl) (fun _ hw => hw.sub (by repeat (first | exact List.Sublist.slnil | exact List.Sublist.refl _ | apply List.Sublist.cons_cons | apply List.Sublist.cons))) rfl (by kernel_rfl) (by kernel_rfl) (v_pickT rfl rfl) rfl ?_
  refine a_take 33 pan_cx (by kernel_rfl) (fun _ hw => hw.sub (by repeat (first | exact List.Sublist.slnil | exact List.Sublist.refl _ | apply List.Sublist.cons_cons | apply List.Sublist.cons))) rfl (by kernel_rfl) (by kernel_rfl) (v_move rfl) rfl ?_
  refine a_want 34 pan_cx (by kernel_rfl) (fun _ hw => hw.sub (by repeat (first | exact List.Sublist.slnil | exact List.Sublist.refl _ | apply List.Sublist.cons_cons | apply List.Sublist.cons))) rfl (by kernel_rfl) (by kernel_rfl) rfl rfl (v_move rfl) rfl ?_
  refine a_oneW 35 (by kernel_rfl) rfl rfl rfl ?_
  refine x_call (dst := some 70) (mc := []) (σ := Value) (fun _ => True) (fun sl => sl) (fun sl => [Own sl 30 5 1 (resL (lastL [sgr] 1))]) rfl rfl rfl Try.call57 (fun w hw => by have := stLast_spec ⟨p, pl, bv4, ev4, A4, k4⟩ sq4 w (StV.of (y := ⟨p, pl, bv4, ev4, A4, k4⟩) (q := sq4) hw (fun c hc => List.mem_cons_of_mem _ (List.mem_append_left _ hc))) (by rw [sg_len]; decide); rwa [sg_len] at this) rfl (fun sl _ => ?_); refine g_shape 0 rfl fun A9 k9 hv9 _ => ?_; subst hv9
  refine a_and (fun _ hw => hw.sub (by repeat (first | exact List.Sublist.slnil | exact List.Sublist.refl _ | apply List.Sublist.cons_cons | apply List.Sublist.cons))) ?_
  refine a_want 36 pan_cx (by kernel_rfl) (fun _ hw => hw.sub (by repeat (first | exact List.Sublist.slnil | exact List.Sublist.refl _ | apply List.Sublist.cons_cons | apply List.Sublist.cons))) rfl (by kernel_rfl) (by kernel_rfl) rfl rfl (v_lenS Try.underlying57 rfl) rfl ?_
  refine a_want 37 pan_cx (by kernel_rfl) (fun _ hw => hw.sub (by repeat (first | exact List.Sublist.slnil | exact List.Sublist.refl _ | apply List.Sublist.cons_cons | apply List.Sublist.cons))) rfl (by kernel_rfl) (by kernel_rfl) rfl rfl (v_is (v' := .bool true) (v_eql rfl rfl) (by rfl)) rfl ?_
  refine a_take 38 pan_cx (by kernel_rfl) (fun _ hw => hw.sub (by repeat (first | exact List.Sublist.slnil | exact List.Sublist.refl _ | apply List.Sublist.cons_cons | apply List.Sublist.cons))) rfl (by kernel_rfl) (by kernel_rfl) (v_pickT rfl rfl) rfl ?_
  refine a_take 39 pan_cx (by kernel_rfl) (fun _ hw => hw.sub (by repeat (first | exact List.Sublist.slnil | exact List.Sublist.refl _ | apply List.Sublist.cons_cons | apply List.Sublist.cons))) rfl (by kernel_rfl) (by kernel_rfl) (v_assign rfl) rfl ?_
  refine a_done (by kernel_rfl) ?_
  refine e_retQ (q_ret1 rfl (.tmp rfl) ?_)
  exact fun w' hw' => ⟨rfl, hw'.res.nil⟩
end Go.SL

