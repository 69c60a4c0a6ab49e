/- YtebdkaadbakhlabGreatDoor: part X2 of this seat's own texts. -/
import Derived.Test.YtebdkaadbakhlabGreatDoorX1
set_option linter.unusedVariables false
set_option linter.unusedSimpArgs false
section

open Go Go.Proofs Go.SL
set_option maxRecDepth 100000
set_option maxHeartbeats 4000000
namespace Go.SL
theorem rdNew_bad (s : List Int) (v : Value) (r : RoundL) (w : World) (h : IsRound w.cell? v r) (hs10 : s.length = 10) (hf : roundFaultL r ≠ 0) :
    Calls Tryz.prog 119 #[intsV s, v] w fun e w' => e = .returned (.tuple #[.pointer none, .int .i64 (roundFaultL r)]) ∧ Res w [] [] w' := by
  have hlz : (intCells s).length = 10 := by rw [intCells, List.length_map]; exact hs10
  have hsr := h
  rw [← off_none w] at hsr
  obtain ⟨A, kp, rfl, hle, hc⟩ := h.form
  refine enter0 (N := 44) Tryz.func119 rfl rfl rfl ?_
  refine esr ?_
  refine w_op rfl ?_
  refine x_box rfl rfl (fun b2 => ?_)
  refine wa rfl rfl ?_
  refine wa rfl rfl ?_
  refine wsr ?_
  refine w_val (v_loadBA 0 rfl Tryz.underlying49 rfl Tryz.hi49 (Tryz.cz49.trans hlz.symm) rfl) rfl ?_
  refine wm rfl rfl ?_
  refine w_op rfl ?_
  refine x_call0 (v := .tuple #[.pointer none, .int .i64 (roundFaultL r)]) rfl rfl rfl Tryz.call135 rfl (fun w hw => tabNew_bad s _ r w (hsr.mono hw.off) hs10 hf) ?_
  refine wm rfl rfl ?_
  refine w_val (v_extract rfl rfl) rfl ?_
  refine w_val (v_extract rfl rfl) rfl ?_
  refine wa rfl rfl ?_
  refine wa rfl rfl ?_
  refine w_nil ?_
  refine e_seq ?_
  refine esr ?_
  refine wm rfl rfl ?_
  refine w_val (v_is (v' := .bool true) (v_neq rfl rfl) (by rw [decide_eq_true hf])) rfl ?_
  refine w_nil ?_
  refine e_condT rfl ?_
  refine esr ?_
  refine wm rfl rfl ?_
  refine wa rfl rfl ?_
  refine wa rfl rfl ?_
  refine w_nil ?_
  refine e_retQ (q_ret2 rfl (.tmp rfl) (.tmp rfl) ?_)
  exact fun w' hw' => ⟨rfl, hw'.res.nil⟩
theorem rdNew_ok (s : List Int) (v : Value) (r : RoundL) (w : World) (h : IsRound w.cell? v r) (hs10 : s.length = 10) (hf : roundFaultL r = 0) :
    Calls Tryz.prog 119 #[intsV s, v] w fun e w' => ∃ y : RdP, True ∧ e = .returned (.tuple #[.pointer (some ⟨y.pr, 0, none⟩), .int .i64 0]) ∧ Res w [] (rnH y r.length (newP s r)) w' := by
  obtain ⟨h8, hck⟩ := roundFault_ok hf
  have hlz : (intCells s).length = 10 := by rw [intCells, List.length_map]; exact hs10
  have hsr := h
  rw [← off_none w] at h hsr
  obtain ⟨A, kp, rfl, hle, hc⟩ := h.form
  refine enter0 (N := 44) Tryz.func119 rfl rfl rfl ?_
  refine esr ?_
  refine w_op rfl ?_
  refine x_box rfl rfl (fun b2 => ?_)
  refine wa rfl rfl ?_
  refine wa rfl rfl ?_
  refine wsr ?_
  refine w_val (v_loadBA 0 rfl Tryz.underlying49 rfl Tryz.hi49 (Tryz.cz49.trans hlz.symm) rfl) rfl ?_
  refine wm rfl rfl ?_
  refine w_op rfl ?_
  refine x_call (dst := some 14) (mc := []) (σ := Nat × (Nat → Value)) (fun _ => True) (fun x => .tuple #[.pointer (some ⟨x.1, 0, none⟩), .int .i64 0]) (fun x => tbH x.1 204 x.2 (newT s r)) rfl rfl rfl Tryz.call135 (fun w hw => tabNew_ok s _ r w (hsr.mono hw.off) hs10 hf) rfl (fun x _ => ?_)
  obtain ⟨pt, ht⟩ := x
  dsimp only
  refine wm rfl rfl ?_
  refine w_val (v_extract rfl rfl) rfl ?_
  refine w_val (v_extract rfl rfl) rfl ?_
  refine wa rfl rfl ?_
  refine wa rfl rfl ?_
  refine w_nil ?_
  refine e_seq ?_
  refine esr ?_
  refine wm rfl rfl ?_
  refine w_val (v_is (v' := .bool false) (v_neq rfl rfl) (by rfl)) rfl ?_
  refine w_nil ?_
  refine e_condF rfl ?_
  refine e_skip ?_
  refine esr ?_
  refine wm rfl rfl ?_
  refine w_val (v_build (v := .agg #[ptrV pt, nilS]) _ rfl (by intro _; simp [Instr.build, Instr.fill, Tryz.zeroValue182, ptrV, go_sem])) rfl ?_
  refine w_op rfl ?_
  refine x_box rfl rfl (fun b22 => ?_)
  refine wa rfl rfl ?_
  refine w_nil ?_
  refine e_seq ?_
  refine esr ?_
  refine wm rfl rfl ?_
  refine w_val (v_lenS Tryz.underlying40 rfl) rfl ?_
  refine wm rfl rfl ?_
  refine w_nil ?_
  refine e_block ?_
  unfold newP
  generalize newT s r = T0 at *
  refine e_loopH (σ := Nat × (Nat → Nat) × (Nat → Value) × Value) [8, 23, 24] (.cons rfl (.cons rfl (.cons rfl .nil))) (fun x => [(25, .int .i64 (x.1 : Int))]) (fun x => rnH ⟨b22, pt, ht, x.2.1, x.2.2.1, x.2.2.2⟩ x.1 (fun i => wk0 (r.getD i []) i, T0)) (fun x => x.1 ≤ r.length) (fun x => r.length - x.1) (0, fun _ => 0, fun _ => nilS, nilS) (Nat.zero_le _) (by repeat (first | exact Sub.nil _ | refine Sub.cons rfl ?_)) (fun _ hw => ?hinit) ?_
  case hinit =>
    have h1 := (hw.ownNil 198 1)
    have h2 := St.lstShut (cs := []) h1
    exact h2.pick [0, 3, 4, 2, 1] (by decide)
  rintro ⟨j, pw, dvw, wv⟩ hj
  dsimp only at hj ⊢
  refine esr ?_
  refine w_val (v_lss rfl rfl) rfl ?_
  refine w_nil ?_
  refine e_seq ?_
  refine e_condD rfl (fun hlt => ?_) (fun hlt => ?_)
  · have hj' : j < r.length := by omega
    obtain ⟨ad, u, rfl, hcell, hud⟩ := hc j hj'
    have hgd : r.getD j [] = r[j] := by simp [List.getD, hj']
    have hckj := hck _ (List.getElem_mem hj')
    rw [← hgd] at hud hckj
    refine e_skip ?_
    refine e_seq ?_
    refine e_block ?_
    refine esr ?_
    refine wm rfl rfl ?_
    refine w_val (v_indexS Tryz.underlying40 Tryz.hi71 Tryz.cz71 rfl rfl (by first | omega | decide)) rfl ?_
    refine w_val (v_loadO Tryz.underlying71 rfl rfl (hcell)) rfl ?_
    refine wa rfl rfl ?_
    refine wa rfl rfl ?_
    refine w_nil ?_
    refine g_shape2 4 rfl fun A0 c0 hv0 hk0 hA0 => ?_
    subst hv0
    refine e_cutH (σ := Nat × Value × Option Addr × Nat) [8, 23, 24, 25] (.cons rfl (.cons rfl (.cons rfl (.cons rfl .nil)))) (fun _ => []) (fun y => rnH ⟨b22, pt, ht, upd pw j y.1, upd dvw j y.2.1, .slice y.2.2.1 (j + 1) y.2.2.2⟩ (j + 1) (fun i => wk0 (r.getD i []) i, T0)) (fun _ => True) ?_ ?_
    · refine e_draw ([]) Tryz.mixed ?_
      refine tk 0 rfl (v_move rfl) rfl ?_
      refine tk 1 rfl (v_move rfl) rfl ?_
      refine tk 2 rfl (v_nilCheck rfl) rfl ?_
      refine tk 3 rfl (v_fieldAddrB (o := 1) Tryz.underlying182 rfl rfl Tryz.nz180 rfl) rfl ?_
      refine tk 5 rfl (v_move rfl) rfl ?_
      refine tk 6 rfl (v_move rfl) rfl ?_
      refine a_all [4, 7] (by kernel_rfl) rfl ?_
      intro i hi
      simp only [List.mem_cons, List.not_mem_nil, or_false] at hi
      rcases hi with rfl | rfl
      · refine a_op rfl rfl ?_
        refine x_val (v_loadB 3 rfl Tryz.underlying180 rfl rfl rfl) rfl ?_
        refine tn ?_
        refine t1 7 rfl rfl ?_
        refine x_call (dst := some 37) (mc := []) (σ := Nat × Value) (fun _ => True) (fun x => .pointer (some ⟨x.1, 0, none⟩)) (fun x => wkH x.1 x.2 (wk0 (r.getD j []) j)) rfl rfl rfl Tryz.call136 (fun w hw => wkNew_ok _ (r.getD j []) j w (hud.mono hw.off) hckj (by omega)) rfl (fun x _ => ?_); obtain ⟨p, dv⟩ := x; dsimp only
        refine tn ?_
        refine t1 8 rfl rfl ?_
        refine x_buildSlice _ ([ptrV p]) rfl (run_buildSlice Tryz.underlying180 Tryz.hi198 Tryz.cz198 Tryz.zeroValue198 rfl (by kernel_rfl)) rfl (fun b38 => ?_)
        refine tn ?_
        refine t1 9 rfl rfl ?_
        refine x_appendIS (z := .pointer none) (n := j) (xs := ptrs j pw) (size := 1) (bytes := 8) (k := 1) (news := [ptrV p]) 7 rfl rfl rfl Tryz.underlying180 (by kernel_rfl) rfl (by decide) (fun w hw => blk_rds (hw.hold _ (List.mem_cons_self ..)) rfl) (by intro u hu; rw [List.mem_singleton.1 hu]; rfl) (by omega) (by simp only [maxLen]; omega) rfl (fun A4 cap4 _ => ?_)
        refine tn ?_
        refine tk 10 rfl (v_nilCheck rfl) rfl ?_
        refine tk 11 rfl (v_fieldAddrB (o := 1) Tryz.underlying182 rfl rfl Tryz.nz180 rfl) rfl ?_
        refine t1 12 rfl rfl ?_
        refine x_store1 6 rfl rfl rfl Tryz.hi180 Tryz.cz180 rfl (by first | (simp; done) | (simp [intCells_len]; omega) | exact Nat.zero_lt_succ _) rfl ?_
        refine tn ?_
        refine td ?_
        exact e_cutEnd (p, dv, A4, cap4) trivial (by repeat (first | exact Sub.nil _ | refine Sub.cons rfl ?_)) (fun _ hw => St.wkGrow (X := fun i => wk0 (r.getD i []) i) (j := j) (by rw [ptrs_grow] at hw; exact hw.pick [1, 2, 3, 4, 5, 6, 7] (by decide)))
      · refine a_op rfl rfl ?_
        refine x_call (dst := some 37) (mc := []) (σ := Nat × Value) (fun _ => True) (fun x => .pointer (some ⟨x.1, 0, none⟩)) (fun x => wkH x.1 x.2 (wk0 (r.getD j []) j)) rfl rfl rfl Tryz.call136 (fun w hw => wkNew_ok _ (r.getD j []) j w (hud.mono hw.off) hckj (by omega)) rfl (fun x _ => ?_); obtain ⟨p, dv⟩ := x; dsimp only
        refine tn ?_
        refine a_all [4, 8] (by kernel_rfl) rfl ?_
        intro i hi
        simp only [List.mem_cons, List.not_mem_nil, or_false] at hi
        rcases hi with rfl | rfl
        · refine a_op rfl rfl ?_
          refine x_val (v_loadB 5 rfl Tryz.underlying180 rfl rfl rfl) rfl ?_
          refine tn ?_
          refine t1 8 rfl rfl ?_
          refine x_buildSlice _ ([ptrV p]) rfl (run_buildSlice Tryz.underlying180 Tryz.hi198 Tryz.cz198 Tryz.zeroValue198 rfl (by kernel_rfl)) rfl (fun b38 => ?_)
          refine tn ?_
          refine t1 9 rfl rfl ?_
          refine x_appendIS (z := .pointer none) (n := j) (xs := ptrs j pw) (size := 1) (bytes := 8) (k := 1) (news := [ptrV p]) 7 rfl rfl rfl Tryz.underlying180 (by kernel_rfl) rfl (by decide) (fun w hw => blk_rds (hw.hold _ (List.mem_cons_self ..)) rfl) (by intro u hu; rw [List.mem_singleton.1 hu]; rfl) (by omega) (by simp only [maxLen]; omega) rfl (fun A4 cap4 _ => ?_)
          refine tn ?_
          refine tk 10 rfl (v_nilCheck rfl) rfl ?_
          refine tk 11 rfl (v_fieldAddrB (o := 1) Tryz.underlying182 rfl rfl Tryz.nz180 rfl) rfl ?_
          refine t1 12 rfl rfl ?_
          refine x_store1 6 rfl rfl rfl Tryz.hi180 Tryz.cz180 rfl (by first | (simp; done) | (simp [intCells_len]; omega) | exact Nat.zero_lt_succ _) rfl ?_
          refine tn ?_
          refine td ?_
          exact e_cutEnd (p, dv, A4, cap4) trivial (by repeat (first | exact Sub.nil _ | refine Sub.cons rfl ?_)) (fun _ hw => St.wkGrow (X := fun i => wk0 (r.getD i []) i) (j := j) (by rw [ptrs_grow] at hw; exact hw.pick [1, 2, 3, 4, 5, 6, 7] (by decide)))
        · refine a_op rfl rfl ?_
          refine x_buildSlice _ ([ptrV p]) rfl (run_buildSlice Tryz.underlying180 Tryz.hi198 Tryz.cz198 Tryz.zeroValue198 rfl (by kernel_rfl)) rfl (fun b38 => ?_)
          refine tn ?_
          refine t1 4 rfl rfl ?_
          refine x_val (v_loadB 6 rfl Tryz.underlying180 rfl rfl rfl) rfl ?_
          refine tn ?_
          refine t1 9 rfl rfl ?_
          refine x_appendIS (z := .pointer none) (n := j) (xs := ptrs j pw) (size := 1) (bytes := 8) (k := 1) (news := [ptrV p]) 7 rfl rfl rfl Tryz.underlying180 (by kernel_rfl) rfl (by decide) (fun w hw => blk_rds (hw.hold _ (List.mem_cons_self ..)) rfl) (by intro u hu; rw [List.mem_singleton.1 hu]; rfl) (by omega) (by simp only [maxLen]; omega) rfl (fun A4 cap4 _ => ?_)
          refine tn ?_
          refine tk 10 rfl (v_nilCheck rfl) rfl ?_
          refine tk 11 rfl (v_fieldAddrB (o := 1) Tryz.underlying182 rfl rfl Tryz.nz180 rfl) rfl ?_
          refine t1 12 rfl rfl ?_
          refine x_store1 6 rfl rfl rfl Tryz.hi180 Tryz.cz180 rfl (by first | (simp; done) | (simp [intCells_len]; omega) | exact Nat.zero_lt_succ _) rfl ?_
          refine tn ?_
          refine td ?_
          exact e_cutEnd (p, dv, A4, cap4) trivial (by repeat (first | exact Sub.nil _ | refine Sub.cons rfl ?_)) (fun _ hw => St.wkGrow (X := fun i => wk0 (r.getD i []) i) (j := j) (by rw [ptrs_grow] at hw; exact hw.pick [1, 2, 3, 4, 5, 6, 7] (by decide)))
    · rintro ⟨p, dv, A4, cap4⟩ -
      dsimp only
      refine e_blk ?_
      refine e_region ?_
      refine w_val (v_add rfl rfl (by omega)) rfl ?_
      refine wm rfl rfl ?_
      refine w_nil ?_
      exact e_round ((j + 1, upd pw j p, upd dvw j dv, .slice A4 (j + 1) cap4)) (by dsimp only; omega) (by dsimp only; omega) (by repeat (first | exact Sub.nil _ | refine Sub.cons rfl ?_)) (fun _ hw => hw)
  · have e : j = r.length := by omega
    subst e
    refine e_exit rfl ?_
    refine esr ?_
    refine wm rfl rfl ?_
    refine wa rfl rfl ?_
    refine wa rfl rfl ?_
    refine w_nil ?_
    refine e_retQ (q_ret2 rfl (.tmp rfl) (.tmp rfl) ?_)
    exact fun w' hw' => ⟨⟨b22, pt, ht, pw, dvw, wv⟩, trivial, rfl, hw'.res⟩
end Go.SL
end
section

open Go Go.Proofs Go.SL
set_option maxRecDepth 100000
set_option maxHeartbeats 4000000
namespace Go.SL
/-- the code of a run -/
def runC (r : RoundL) (n : Nat) : Int := if roundFaultL r ≠ 0 then roundFaultL r else if 300 < n then 4 else 0
theorem rdRun_bad (s : List Int) (v vp : Value) (r : RoundL) (p : List Int) (w : World) (h : IsRound w.cell? v r) (hs10 : s.length = 10) (hp : IsInts w.cell? vp p) (hc : runC r p.length ≠ 0) :
    Calls Tryz.prog 98 #[intsV s, v, vp] w fun e w' => e = .returned (.tuple #[intsV zero10, .slice none 0 0, .int .i64 (runC r p.length)]) ∧ Res w [] [] w' := by
  have hlz : (intCells s).length = 10 := by rw [intCells, List.length_map]; exact hs10
  have hsr := h
  rw [← off_none w] at hsr hp
  obtain ⟨A, kp, rfl, hle, hcc⟩ := h.form
  obtain ⟨Ap, kpp, rfl, hlep, hpc⟩ := hp.form
  refine enter0 (N := 55) Tryz.func98 rfl rfl rfl ?_
  by_cases hf : roundFaultL r = 0
  · have h3 : 300 < p.length := by
      unfold runC at hc
      rw [if_neg (by simp [hf])] at hc
      by_cases h3 : 300 < p.length
      · exact h3
      · rw [if_neg h3] at hc; exact absurd rfl hc
    have e : runC r p.length = 4 := by unfold runC; rw [if_neg (by simp [hf]), if_pos h3]
    rw [e]
    refine esr ?_
    refine w_op rfl ?_
    refine x_box rfl rfl (fun b3 => ?_)
    refine w_op rfl ?_
    refine x_alloc (z := .agg #[.int .i64 0, .int .i64 0, .int .i64 0, .int .i64 0, .int .i64 0, .int .i64 0, .int .i64 0, .int .i64 0, .int .i64 0, .int .i64 0]) (by intro w; exact Tryz.zeroValue49 w) rfl (fun b6 => ?_)
    refine wa rfl rfl ?_
    refine wa rfl rfl ?_
    refine wsr ?_
    refine w_val (v_loadBA 1 rfl Tryz.underlying49 rfl Tryz.hi49 (Tryz.cz49.trans hlz.symm) rfl) rfl ?_
    refine wm rfl rfl ?_
    refine w_op rfl ?_
    refine x_call (dst := some 16) (mc := []) (σ := RdP) (fun _ => True) (fun y => .tuple #[.pointer (some ⟨y.pr, 0, none⟩), .int .i64 0]) (fun y => rnH y r.length (newP s r)) rfl rfl rfl Tryz.call119 (fun w hw => rdNew_ok s _ r w (hsr.mono hw.off) hs10 hf) rfl (fun y _ => ?_); obtain ⟨pr, pt, ht, pw, dvw, wv⟩ := y; dsimp only
    refine wm rfl rfl ?_
    refine w_val (v_extract rfl rfl) rfl ?_
    refine w_val (v_extract rfl rfl) rfl ?_
    refine wa rfl rfl ?_
    refine wa rfl rfl ?_
    refine w_nil ?_
    refine e_seq ?_
    refine esr ?_
    refine wm rfl rfl ?_
    refine w_val (v_is (v' := .bool false) (v_neq rfl rfl) (by rfl)) rfl ?_
    refine w_nil ?_
    refine e_condF rfl ?_
    refine e_skip ?_
    refine e_seq ?_
    refine esr ?_
    refine wm rfl rfl ?_
    refine w_val (v_lenS Tryz.underlying59 rfl) rfl ?_
    refine w_val (v_is (v' := .bool true) (v_gtr rfl rfl) (by rw [decide_eq_true (by omega)])) rfl ?_
    refine w_nil ?_
    refine e_condDT rfl (by omega) ?_
    refine esr ?_
    refine w_val (v_build (v := intsV zero10) _ rfl (by intro _; simp [Instr.build, Instr.fill, Tryz.zeroValue49, go_sem]; rfl)) rfl ?_
    refine w_op rfl ?_
    refine x_storeA 5 rfl rfl rfl Tryz.hi49 (Tryz.cz49.trans (by simp [Value.cells, intsV, resCells, intCells, hs10, zero10_len])) (by simp [Value.cells, intsV, resCells, intCells, hs10, zero10_len]) (by first | exact one_intCells _ | exact one_resCells _ _) ?_
    refine wa rfl rfl ?_
    refine wa rfl rfl ?_
    refine w_nil ?_
    refine e_retQ (q_ret3 rfl (ResV.agg 5 rfl rfl (by rw [isAggD, Tryz.underlying49]; rfl) (Tryz.cz49) Tryz.hi49) (.tmp rfl) (.tmp rfl) ?_)
    exact fun w' hw' => ⟨rfl, hw'.res.nil⟩
  · have e : runC r p.length = roundFaultL r := by unfold runC; rw [if_pos hf]
    rw [e]
    refine esr ?_
    refine w_op rfl ?_
    refine x_box rfl rfl (fun b3 => ?_)
    refine w_op rfl ?_
    refine x_alloc (z := .agg #[.int .i64 0, .int .i64 0, .int .i64 0, .int .i64 0, .int .i64 0, .int .i64 0, .int .i64 0, .int .i64 0, .int .i64 0, .int .i64 0]) (by intro w; exact Tryz.zeroValue49 w) rfl (fun b6 => ?_)
    refine wa rfl rfl ?_
    refine wa rfl rfl ?_
    refine wsr ?_
    refine w_val (v_loadBA 1 rfl Tryz.underlying49 rfl Tryz.hi49 (Tryz.cz49.trans hlz.symm) rfl) rfl ?_
    refine wm rfl rfl ?_
    refine w_op rfl ?_
    refine x_call0 (v := .tuple #[.pointer none, .int .i64 (roundFaultL r)]) rfl rfl rfl Tryz.call119 rfl (fun w hw => rdNew_bad s _ r w (hsr.mono hw.off) hs10 hf) ?_
    refine wm rfl rfl ?_
    refine w_val (v_extract rfl rfl) rfl ?_
    refine w_val (v_extract rfl rfl) rfl ?_
    refine wa rfl rfl ?_
    refine wa rfl rfl ?_
    refine w_nil ?_
    refine e_seq ?_
    refine esr ?_
    refine wm rfl rfl ?_
    refine w_val (v_is (v' := .bool true) (v_neq rfl rfl) (by rw [decide_eq_true hf])) rfl ?_
    refine w_nil ?_
    refine e_condT rfl ?_
    refine esr ?_
    refine w_val (v_build (v := intsV zero10) _ rfl (by intro _; simp [Instr.build, Instr.fill, Tryz.zeroValue49, go_sem]; rfl)) rfl ?_
    refine wm rfl rfl ?_
    refine w_op rfl ?_
    refine x_storeA 0 rfl rfl rfl Tryz.hi49 (Tryz.cz49.trans (by simp [Value.cells, intsV, resCells, intCells, hs10, zero10_len])) (by simp [Value.cells, intsV, resCells, intCells, hs10, zero10_len]) (by first | exact one_intCells _ | exact one_resCells _ _) ?_
    refine wa rfl rfl ?_
    refine wa rfl rfl ?_
    refine w_nil ?_
    refine e_retQ (q_ret3 rfl (ResV.agg 0 rfl rfl (by rw [isAggD, Tryz.underlying49]; rfl) (Tryz.cz49) Tryz.hi49) (.tmp rfl) (.tmp rfl) ?_)
    exact fun w' hw' => ⟨rfl, hw'.res.nil⟩
theorem rdRun_ok (s : List Int) (v vp : Value) (r : RoundL) (p : List Int) (w : World) (h : IsRound w.cell? v r) (hs10 : s.length = 10) (hp : IsInts w.cell? vp p) (hf : roundFaultL r = 0) (hpl : p.length ≤ 300) :
    Calls Tryz.prog 98 #[intsV s, v, vp] w fun e w' => ∃ x : Option Addr × Nat, r.length ≤ x.2 ∧ e = .returned (.tuple #[intsV (stAt s r r.length), .slice x.1 r.length r.length, .int .i64 0]) ∧ Res w [] [Own (.slice x.1 r.length x.2) 111 5 r.length (resL (resAll s r))] w' := by
  have hlz : (intCells s).length = 10 := by rw [intCells, List.length_map]; exact hs10
  have h8 := (roundFault_ok hf).1
  have hsr := h
  rw [← off_none w] at hsr hp
  obtain ⟨A, kp, rfl, hle, hcc⟩ := h.form
  obtain ⟨Ap, kpp, rfl, hlep, hpc⟩ := hp.form
  refine enter0 (N := 55) Tryz.func98 rfl rfl rfl ?_
  refine esr ?_
  refine w_op rfl ?_
  refine x_box rfl rfl (fun b3 => ?_)
  refine w_op rfl ?_
  refine x_alloc (z := .agg #[.int .i64 0, .int .i64 0, .int .i64 0, .int .i64 0, .int .i64 0, .int .i64 0, .int .i64 0, .int .i64 0, .int .i64 0, .int .i64 0]) (by intro w; exact Tryz.zeroValue49 w) rfl (fun b6 => ?_)
  refine wa rfl rfl ?_
  refine wa rfl rfl ?_
  refine wsr ?_
  refine w_val (v_loadBA 1 rfl Tryz.underlying49 rfl Tryz.hi49 (Tryz.cz49.trans hlz.symm) rfl) rfl ?_
  refine wm rfl rfl ?_
  refine w_op rfl ?_
  refine x_call (dst := some 16) (mc := []) (σ := RdP) (fun _ => True) (fun y => .tuple #[.pointer (some ⟨y.pr, 0, none⟩), .int .i64 0]) (fun y => rnH y r.length (newP s r)) rfl rfl rfl Tryz.call119 (fun w hw => rdNew_ok s _ r w (hsr.mono hw.off) hs10 hf) rfl (fun y _ => ?_); obtain ⟨pr, pt, ht, pw, dvw, wv⟩ := y; dsimp only
  refine wm rfl rfl ?_
  refine w_val (v_extract rfl rfl) rfl ?_
  refine w_val (v_extract rfl rfl) rfl ?_
  refine wa rfl rfl ?_
  refine wa rfl rfl ?_
  refine w_nil ?_
  refine e_seq ?_
  refine esr ?_
  refine wm rfl rfl ?_
  refine w_val (v_is (v' := .bool false) (v_neq rfl rfl) (by rfl)) rfl ?_
  refine w_nil ?_
  refine e_condF rfl ?_
  refine e_skip ?_
  refine e_seq ?_
  refine esr ?_
  refine wm rfl rfl ?_
  refine w_val (v_lenS Tryz.underlying59 rfl) rfl ?_
  refine w_val (v_is (v' := .bool false) (v_gtr rfl rfl) (by rw [decide_eq_false (by omega)])) rfl ?_
  refine w_nil ?_
  refine e_condF rfl ?_
  refine e_skip ?_
  refine e_seq ?_
  refine esr ?_
  refine wm rfl rfl ?_
  refine w_val (v_lenS Tryz.underlying59 rfl) rfl ?_
  refine wm rfl rfl ?_
  refine w_nil ?_
  refine e_block ?_
  refine e_loopH (σ := Nat × RunS) [6, 9, 27, 28] (.cons rfl (.cons rfl (.cons rfl (.cons rfl .nil)))) (fun x => [(29, .int .i64 (x.1 : Int))]) (fun x => rnH ⟨pr, pt, ht, pw, dvw, wv⟩ r.length x.2 ++ [.blk b6 49 (intCells zero10)]) (fun x => x.1 ≤ p.length ∧ InvR s r x.2.1 x.2.2) (fun x => p.length - x.1) (0, newP s r) ⟨Nat.zero_le _, inv_new hs10 hf⟩ (by repeat (first | exact Sub.nil _ | refine Sub.cons rfl ?_)) (fun _ hw => hw.pick [0, 1, 2, 3, 4, 5] (by decide)) ?_
  rintro ⟨i, P⟩ ⟨hi, hinv⟩
  dsimp only at hi hinv ⊢
  refine esr ?_
  refine w_val (v_lss rfl rfl) rfl ?_
  refine w_nil ?_
  refine e_seq ?_
  refine e_condD rfl (fun hlt => ?_) (fun hlt => ?_)
  · have hi' : i < p.length := by omega
    obtain ⟨ad, rfl, hcell⟩ := hpc i hi'
    generalize p[i] = pi at *
    by_cases h0 : 0 < r.length
    · obtain ⟨k, hk, hkm⟩ := u64_rem' pi h0
      have hn := pick_nat (P := P) hk
      refine e_skip ?_
      refine e_seq ?_
      refine e_block ?_
      refine esr ?_
      refine w_val (v_indexS Tryz.underlying59 Tryz.hi3 Tryz.cz3 rfl rfl (by first | omega | decide)) rfl ?_
      refine w_val (v_loadO Tryz.underlying3 rfl rfl (hcell)) rfl ?_
      refine wa rfl rfl ?_
      refine wsr ?_
      refine wm rfl rfl ?_
      refine w_op rfl ?_
      refine x_call0 (v := .int .i64 (r.length : Int)) rfl rfl rfl Tryz.call120 rfl (fun w hw => rdLen_spec pr r.length P.1 w (rnH_v (y := ⟨pr, pt, ht, pw, dvw, wv⟩) hinv hw (by simp) (by simp) (by simp))) ?_
      refine w_val (v_is (v' := .bool true) (v_gtr rfl rfl) (by rw [decide_eq_true (by omega)])) rfl ?_
      refine w_nil ?_
      refine e_condT rfl ?_
      refine e_region ?_
      refine wm rfl rfl ?_
      refine wm rfl rfl ?_
      refine w_val (v_conv Tryz.underlying25 (by rw [Tryz.underlying3]; rfl) rfl) rfl ?_
      refine wm rfl rfl ?_
      refine w_op rfl ?_
      refine x_call0 (v := .int .i64 (r.length : Int)) rfl rfl rfl Tryz.call120 rfl (fun w hw => rdLen_spec pr r.length P.1 w (rnH_v (y := ⟨pr, pt, ht, pw, dvw, wv⟩) hinv hw (by simp) (by simp) (by simp))) ?_
      refine w_val (v_is (v' := .int .u64 ((r.length : Nat) : Int)) (v_conv Tryz.underlying25 (by rw [Tryz.underlying3]; rfl) rfl) (by rw [wrap_u64 (by omega) (by omega)])) rfl ?_
      refine w_val (v_is (v' := .int .u64 (k : Int)) (v_rem rfl rfl (by omega)) (by rw [hkm])) rfl ?_
      refine w_val (v_is (v' := .int .i64 (k : Int)) (v_conv Tryz.underlying3 (by rw [Tryz.underlying25]; rfl) rfl) (by rw [wrap_i64 (by omega) (by omega)])) rfl ?_
      refine w_op rfl ?_
      refine x_call (dst := some 44) (mc := rnH ⟨pr, pt, ht, pw, dvw, wv⟩ r.length P) (mr := [.blk b6 49 (intCells zero10)]) (σ := Unit) (fun _ => True) (fun _ => .tuple #[.int .i64 (stepW (P.1 k) P.2).1.1, .int .i64 (stepW (P.1 k) P.2).1.2]) (fun _ => rnH ⟨pr, pt, ht, pw, dvw, wv⟩ r.length (runP P k)) rfl rfl rfl Tryz.call121 (fun w hw => by have := rdPick_spec s r ⟨pr, pt, ht, pw, dvw, wv⟩ P k w (res_part hw).1 (res_part hw).2 hinv; rwa [hn] at this) rfl (fun _ _ => ?_)
      refine w_nil ?_
      refine e_blk ?_
      refine e_region ?_
      refine w_val (v_add rfl rfl (by omega)) rfl ?_
      refine wm rfl rfl ?_
      refine w_nil ?_
      exact e_round ((i + 1, runP P k)) (⟨by dsimp only; omega, hinv.run hk⟩) (by dsimp only; omega) (by repeat (first | exact Sub.nil _ | refine Sub.cons rfl ?_)) (fun _ hw => hw)
    · refine e_skip ?_
      refine e_seq ?_
      refine e_block ?_
      refine esr ?_
      refine w_val (v_indexS Tryz.underlying59 Tryz.hi3 Tryz.cz3 rfl rfl (by first | omega | decide)) rfl ?_
      refine w_val (v_loadO Tryz.underlying3 rfl rfl (hcell)) rfl ?_
      refine wa rfl rfl ?_
      refine wsr ?_
      refine wm rfl rfl ?_
      refine w_op rfl ?_
      refine x_call0 (v := .int .i64 (r.length : Int)) rfl rfl rfl Tryz.call120 rfl (fun w hw => rdLen_spec pr r.length P.1 w (rnH_v (y := ⟨pr, pt, ht, pw, dvw, wv⟩) hinv hw (by simp) (by simp) (by simp))) ?_
      refine w_val (v_is (v' := .bool false) (v_gtr rfl rfl) (by rw [decide_eq_false (by omega)])) rfl ?_
      refine w_nil ?_
      refine e_condF rfl ?_
      refine e_skip ?_
      refine e_blk ?_
      refine e_region ?_
      refine w_val (v_add rfl rfl (by omega)) rfl ?_
      refine wm rfl rfl ?_
      refine w_nil ?_
      exact e_round ((i + 1, P)) (⟨by dsimp only; omega, hinv⟩) (by dsimp only; omega) (by repeat (first | exact Sub.nil _ | refine Sub.cons rfl ?_)) (fun _ hw => hw)
  · refine e_exit rfl ?_
    refine esr ?_
    refine wm rfl rfl ?_
    refine w_op rfl ?_
    refine x_call (dst := some 47) (mc := rnH ⟨pr, pt, ht, pw, dvw, wv⟩ r.length P) (mr := [.blk b6 49 (intCells zero10)]) (σ := RunS) (fun P' => InvR s r P'.1 P'.2 ∧ AllO r.length P'.1) (fun _ => .tuple #[]) (fun P' => rnH ⟨pr, pt, ht, pw, dvw, wv⟩ r.length P') rfl rfl rfl Tryz.call122 (fun w hw => rdFinish_spec s r ⟨pr, pt, ht, pw, dvw, wv⟩ P w (res_part hw).1 (res_part hw).2 hinv) rfl (fun P' hP' => ?_)
    refine w_nil ?_
    obtain ⟨hinv', ho⟩ := hP'
    have hst := (hinv'.state ho).1
    have hrx := hinv'.resX ho
    have hzl := stAt_len (r := r) hs10 r.length
    have hn := hinv'.short
    generalize stAt s r r.length = z at *
    refine esr ?_
    refine wm rfl rfl ?_
    refine wn rfl rfl ?_
    refine w_val (v_fieldAddrB (o := 0) Tryz.underlying182 rfl rfl Tryz.nz179 rfl) rfl ?_
    refine w_val (v_loadB 3 rfl Tryz.underlying179 rfl rfl rfl) rfl ?_
    refine w_op rfl ?_
    refine x_call0 (v := intsV z) rfl rfl rfl Tryz.call123 rfl (fun w hw => by have := tabState_spec pt ht P'.2 w (hw.tbV 1 rfl rfl) hn; rwa [hst] at this) ?_
    refine wm rfl rfl ?_
    refine w_op rfl ?_
    refine x_call (dst := some 54) (mc := []) (σ := Option Addr × Nat) (fun x => r.length ≤ x.2) (fun x => .slice x.1 r.length r.length) (fun x => [Own (.slice x.1 r.length x.2) 111 5 r.length (resL (resAll s r))]) rfl rfl rfl Tryz.call124 (fun w hw => by have := rdResults_spec pr r.length P'.1 w (rnH_v (y := ⟨pr, pt, ht, pw, dvw, wv⟩) hinv' hw (by simp) (by simp) (by simp)) (by omega); rwa [hrx] at this) rfl (fun x hx => ?_); obtain ⟨xa, xk⟩ := x; dsimp only at hx; dsimp only
    refine w_op rfl ?_
    refine x_storeA 6 rfl rfl rfl Tryz.hi49 (Tryz.cz49.trans (by simp [Value.cells, intsV, resCells, intCells, zero10_len, hzl])) (by simp [Value.cells, intsV, resCells, intCells, zero10_len, hzl]) (by first | exact one_intCells _ | exact one_resCells _ _) ?_
    refine wa rfl rfl ?_
    refine wa rfl rfl ?_
    refine w_nil ?_
    refine e_retQ (q_ret3 rfl (ResV.agg 6 rfl rfl (by rw [isAggD, Tryz.underlying49]; rfl) (Tryz.cz49.trans (by simp [intCells, hzl])) Tryz.hi49) (.tmp rfl) (.tmp rfl) ?_)
    exact fun w' hw' => ⟨(xa, xk), hx, rfl, hw'.res.sub (.cons_cons _ (List.nil_sublist _))⟩
end Go.SL
end
