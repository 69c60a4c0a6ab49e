/- YtebdkaadbakhlaaGreatDoor: part X2 of this seat's own texts. -/
import Derived.Test.YtebdkaadbakhlaaGreatDoorX1
set_option linter.unusedVariables false
set_option linter.unusedSimpArgs false
section
open Go Go.Proofs Go.SL
set_option maxRecDepth 100000
set_option maxHeartbeats 4000000
namespace Go.SL
theorem rdNew_bad (s : List Int) (v : Value) (r : RoundL) (w : World) (h : IsRound w.cell? v r) (hs10 : s.length = 10) (hf : roundFaultL r ≠ 0) :
  Calls Tryz.prog 147 #[intsV s, v] w fun e w' => e = .returned (.tuple #[.pointer none, .int .i64 (roundFaultL r)]) ∧ Res w [] [] w' := by
 have hlz : (intCells s).length = 10 := by rw [intCells, List.length_map]; exact hs10
 have hsr := h
 rw [← off_none w] at hsr
 obtain ⟨A, kp, rfl, hle, hc⟩ := h.form
 refine enter0 (N := 44) Tryz.func147 rfl rfl rfl <| esr <| w_op rfl ?_
 refine x_box rfl rfl (fun b2 => ?_)
 refine wa rfl rfl <| wa rfl rfl <| wsr <| w_val (v_loadBA 0 rfl uT32 rfl Tryz.hi32 (Tryz.cz32.trans hlz.symm) rfl) rfl <| wm rfl rfl <| w_op rfl ?_
 refine x_call0 (v := .tuple #[.pointer none, .int .i64 (roundFaultL r)]) rfl rfl rfl Tryz.call163 rfl (fun w hw => tabNew_bad s _ r w (hsr.mono hw.off) hs10 hf) ?_
 refine wm rfl rfl <| w_val (v_extract rfl rfl) rfl <| w_val (v_extract rfl rfl) rfl <| wa rfl rfl <| wa rfl rfl <| w_nil <| e_seq <| esr <| wm rfl rfl ?_
 refine w_val (v_is (v' := .bool true) (v_neq rfl rfl) (by rw [decide_eq_true hf])) rfl ?_
 refine w_nil <| e_condT rfl <| esr <| wm rfl rfl <| wa rfl rfl <| wa rfl rfl <| w_nil ?_
 refine e_retQ (q_ret2 rfl (.tmp rfl) (.tmp rfl) ?_)
 exact fun w' hw' => ⟨rfl, hw'.res.nil⟩
theorem rdNew_ok (s : List Int) (v : Value) (r : RoundL) (w : World) (h : IsRound w.cell? v r) (hs10 : s.length = 10) (hf : roundFaultL r = 0) :
  Calls Tryz.prog 147 #[intsV s, v] w fun e w' => ∃ y : RdP, True ∧ e = .returned (.tuple #[.pointer (some ⟨y.pr, 0, none⟩), .int .i64 0]) ∧ Res w [] (rnH y r.length (newP s r)) w' := by
 obtain ⟨h8, hck⟩ := roundFault_ok hf
 have hlz : (intCells s).length = 10 := by rw [intCells, List.length_map]; exact hs10
 have hsr := h
 rw [← off_none w] at h hsr
 obtain ⟨A, kp, rfl, hle, hc⟩ := h.form
 refine enter0 (N := 44) Tryz.func147 rfl rfl rfl <| esr <| w_op rfl ?_
 refine x_box rfl rfl (fun b2 => ?_)
 refine wa rfl rfl <| wa rfl rfl <| wsr <| w_val (v_loadBA 0 rfl uT32 rfl Tryz.hi32 (Tryz.cz32.trans hlz.symm) rfl) rfl <| wm rfl rfl <| w_op rfl ?_
 refine x_call (dst := some 14) (mc := []) (σ := Nat × (Nat → Value)) (fun _ => True) (fun x => .tuple #[.pointer (some ⟨x.1, 0, none⟩), .int .i64 0]) (fun x => tbH x.1 228 x.2 (newT s r)) rfl rfl rfl Tryz.call163 (fun w hw => tabNew_ok s _ r w (hsr.mono hw.off) hs10 hf) rfl (fun x _ => ?_)
 obtain ⟨pt, ht⟩ := x
 dsimp only
 refine wm rfl rfl <| w_val (v_extract rfl rfl) rfl <| w_val (v_extract rfl rfl) rfl <| wa rfl rfl <| wa rfl rfl <| w_nil <| e_seq <| esr <| wm rfl rfl ?_
 refine w_val (v_is (v' := .bool false) (v_neq rfl rfl) (by rfl)) rfl ?_
 refine w_nil <| e_condF rfl <| e_skip <| esr <| wm rfl rfl ?_
 refine w_val (v_build (v := .agg #[ptrV pt, nilS]) _ rfl (by intro _; simp [Instr.build, Instr.fill, Tryz.zeroValue206, ptrV, go_sem])) rfl ?_
 refine w_op rfl ?_
 refine x_box rfl rfl (fun b22 => ?_)
 refine wa rfl rfl <| w_nil <| e_seq <| esr <| wm rfl rfl <| w_val (v_lenS uT37 rfl) rfl <| wm rfl rfl <| w_nil <| e_block ?_
 unfold newP
 generalize newT s r = T0 at *
 refine e_loopH (σ := Nat × (Nat → Nat) × (Nat → Value) × Value) [8, 23, 24] (.cons rfl (.cons rfl (.cons rfl .nil))) (fun x => [(25, .int .i64 (x.1 : Int))]) (fun x => rnH ⟨b22, pt, ht, x.2.1, x.2.2.1, x.2.2.2⟩ x.1 (fun i => wk0 (r.getD i []) i, T0)) (fun x => x.1 ≤ r.length) (fun x => r.length - x.1) (0, fun _ => 0, fun _ => nilS, nilS) (Nat.zero_le _) (by repeat first | exact .nil _ | refine .cons rfl ?_) (fun _ hw => ?hinit) ?_
 case hinit =>
  have h1 := (hw.ownNil 222 1)
  have h2 := St.lstShut (cs := []) h1
  exact h2.pick [0, 3, 4, 2, 1] (by decide)
 rintro ⟨j, pw, dvw, wv⟩ hj
 dsimp only at hj ⊢
 refine esr <| w_val (v_lss rfl rfl) rfl <| w_nil <| e_seq ?_
 refine e_condD rfl (fun hlt => ?_) (fun hlt => ?_)
 ·have hj' : j < r.length := by omega
  obtain ⟨ad, u, rfl, hcell, hud⟩ := hc j hj'
  have hgd : r.getD j [] = r[j] := by simp [List.getD, hj']
  have hckj := hck _ (List.getElem_mem hj')
  rw [← hgd] at hud hckj
  refine e_skip <| e_seq <| e_block <| esr <| wm rfl rfl ?_
  refine w_val (v_indexS uT37 Tryz.hi80 Tryz.cz80 rfl rfl (by first | omega | decide)) rfl ?_
  refine w_val (v_loadO uT80 rfl rfl (hcell)) rfl <| wa rfl rfl <| wa rfl rfl <| w_nil ?_
  refine g_shape2 4 rfl fun A0 c0 hv0 hk0 hA0 => ?_
  subst hv0
  refine e_cutH (σ := Nat × Value × Option Addr × Nat) [8, 23, 24, 25] (.cons rfl (.cons rfl (.cons rfl (.cons rfl .nil)))) (fun _ => []) (fun y => rnH ⟨b22, pt, ht, upd pw j y.1, upd dvw j y.2.1, .slice y.2.2.1 (j + 1) y.2.2.2⟩ (j + 1) (fun i => wk0 (r.getD i []) i, T0)) (fun _ => True) ?_ ?_
  ·refine e_draw ([]) Tryz.mixed <| tk 0 rfl (v_move rfl) rfl <| tk 1 rfl (v_move rfl) rfl <| tk 2 rfl (v_nilCheck rfl) rfl <| tk 3 rfl (v_fieldAddrB (o := 1) uT206 rfl rfl Tryz.nz204 rfl) rfl <| tk 5 rfl (v_move rfl) rfl <| tk 6 rfl (v_move rfl) rfl ?_
   refine a_all [4, 7] (by kernel_rfl) rfl ?_
   intro i hi
   simp only [List.mem_cons, List.not_mem_nil, or_false] at hi
   rcases hi with rfl | rfl
   ·refine a_op rfl rfl <| x_val (v_loadB 3 rfl uT204 rfl rfl rfl) rfl <| tn <| t1 7 rfl rfl ?_
    refine x_call (dst := some 37) (mc := []) (σ := Nat × Value) (fun _ => True) (fun x => .pointer (some ⟨x.1, 0, none⟩)) (fun x => wkH x.1 x.2 (wk0 (r.getD j []) j)) rfl rfl rfl Tryz.call164 (fun w hw => wkNew_ok _ (r.getD j []) j w (hud.mono hw.off) hckj (by omega)) rfl (fun x _ => ?_); obtain ⟨p, dv⟩ := x; dsimp only
    refine tn <| t1 8 rfl rfl ?_
    refine x_buildSlice _ ([ptrV p]) rfl (run_buildSlice uT204 Tryz.hi222 Tryz.cz222 Tryz.zeroValue222 rfl (by kernel_rfl)) rfl (fun b38 => ?_)
    refine tn <| t1 9 rfl rfl ?_
    refine x_appendIS (z := .pointer none) (n := j) (xs := ptrs j pw) (size := 1) (bytes := 8) (k := 1) (news := [ptrV p]) 7 rfl rfl rfl uT204 (by kernel_rfl) rfl (by decide) (fun w hw => blk_rds (hw.hold _ (List.mem_cons_self ..)) rfl) (by intro u hu; rw [List.mem_singleton.1 hu]; rfl) (by omega) (by simp only [maxLen]; omega) rfl (fun A4 cap4 _ => ?_)
    refine tn <| tk 10 rfl (v_nilCheck rfl) rfl <| tk 11 rfl (v_fieldAddrB (o := 1) uT206 rfl rfl Tryz.nz204 rfl) rfl <| t1 12 rfl rfl ?_
    refine x_store1 6 rfl rfl rfl Tryz.hi204 Tryz.cz204 rfl (by first | (simp; done) | (simp [intCells_len]; omega) | exact Nat.zero_lt_succ _) rfl ?_
    refine tn <| td ?_
    exact e_cutEnd (p, dv, A4, cap4) trivial (by repeat first | exact .nil _ | refine .cons rfl ?_) (fun _ hw => St.wkGrow (X := fun i => wk0 (r.getD i []) i) (j := j) (by rw [ptrs_grow] at hw; exact hw.pick [1, 2, 3, 4, 5, 6, 7] (by decide)))
   ·refine a_op rfl rfl ?_
    refine x_call (dst := some 37) (mc := []) (σ := Nat × Value) (fun _ => True) (fun x => .pointer (some ⟨x.1, 0, none⟩)) (fun x => wkH x.1 x.2 (wk0 (r.getD j []) j)) rfl rfl rfl Tryz.call164 (fun w hw => wkNew_ok _ (r.getD j []) j w (hud.mono hw.off) hckj (by omega)) rfl (fun x _ => ?_); obtain ⟨p, dv⟩ := x; dsimp only
    refine tn ?_
    refine a_all [4, 8] (by kernel_rfl) rfl ?_
    intro i hi
    simp only [List.mem_cons, List.not_mem_nil, or_false] at hi
    rcases hi with rfl | rfl
    ·refine a_op rfl rfl <| x_val (v_loadB 5 rfl uT204 rfl rfl rfl) rfl <| tn <| t1 8 rfl rfl ?_
     refine x_buildSlice _ ([ptrV p]) rfl (run_buildSlice uT204 Tryz.hi222 Tryz.cz222 Tryz.zeroValue222 rfl (by kernel_rfl)) rfl (fun b38 => ?_)
     refine tn <| t1 9 rfl rfl ?_
     refine x_appendIS (z := .pointer none) (n := j) (xs := ptrs j pw) (size := 1) (bytes := 8) (k := 1) (news := [ptrV p]) 7 rfl rfl rfl uT204 (by kernel_rfl) rfl (by decide) (fun w hw => blk_rds (hw.hold _ (List.mem_cons_self ..)) rfl) (by intro u hu; rw [List.mem_singleton.1 hu]; rfl) (by omega) (by simp only [maxLen]; omega) rfl (fun A4 cap4 _ => ?_)
     refine tn <| tk 10 rfl (v_nilCheck rfl) rfl <| tk 11 rfl (v_fieldAddrB (o := 1) uT206 rfl rfl Tryz.nz204 rfl) rfl <| t1 12 rfl rfl ?_
     refine x_store1 6 rfl rfl rfl Tryz.hi204 Tryz.cz204 rfl (by first | (simp; done) | (simp [intCells_len]; omega) | exact Nat.zero_lt_succ _) rfl ?_
     refine tn <| td ?_
     exact e_cutEnd (p, dv, A4, cap4) trivial (by repeat first | exact .nil _ | refine .cons rfl ?_) (fun _ hw => St.wkGrow (X := fun i => wk0 (r.getD i []) i) (j := j) (by rw [ptrs_grow] at hw; exact hw.pick [1, 2, 3, 4, 5, 6, 7] (by decide)))
    ·refine a_op rfl rfl ?_
     refine x_buildSlice _ ([ptrV p]) rfl (run_buildSlice uT204 Tryz.hi222 Tryz.cz222 Tryz.zeroValue222 rfl (by kernel_rfl)) rfl (fun b38 => ?_)
     refine tn <| t1 4 rfl rfl <| x_val (v_loadB 6 rfl uT204 rfl rfl rfl) rfl <| tn <| t1 9 rfl rfl ?_
     refine x_appendIS (z := .pointer none) (n := j) (xs := ptrs j pw) (size := 1) (bytes := 8) (k := 1) (news := [ptrV p]) 7 rfl rfl rfl uT204 (by kernel_rfl) rfl (by decide) (fun w hw => blk_rds (hw.hold _ (List.mem_cons_self ..)) rfl) (by intro u hu; rw [List.mem_singleton.1 hu]; rfl) (by omega) (by simp only [maxLen]; omega) rfl (fun A4 cap4 _ => ?_)
     refine tn <| tk 10 rfl (v_nilCheck rfl) rfl <| tk 11 rfl (v_fieldAddrB (o := 1) uT206 rfl rfl Tryz.nz204 rfl) rfl <| t1 12 rfl rfl ?_
     refine x_store1 6 rfl rfl rfl Tryz.hi204 Tryz.cz204 rfl (by first | (simp; done) | (simp [intCells_len]; omega) | exact Nat.zero_lt_succ _) rfl ?_
     refine tn <| td ?_
     exact e_cutEnd (p, dv, A4, cap4) trivial (by repeat first | exact .nil _ | refine .cons rfl ?_) (fun _ hw => St.wkGrow (X := fun i => wk0 (r.getD i []) i) (j := j) (by rw [ptrs_grow] at hw; exact hw.pick [1, 2, 3, 4, 5, 6, 7] (by decide)))
  ·rintro ⟨p, dv, A4, cap4⟩ -
   dsimp only
   refine e_blk <| e_region ?_
   refine w_val (v_add rfl rfl (by omega)) rfl ?_
   refine wm rfl rfl <| w_nil ?_
   exact e_round ((j + 1, upd pw j p, upd dvw j dv, .slice A4 (j + 1) cap4)) (by dsimp only; omega) (by dsimp only; omega) (by repeat first | exact .nil _ | refine .cons rfl ?_) (fun _ hw => hw)
 ·have e : j = r.length := by omega
  subst e
  refine e_exit rfl <| esr <| wm rfl rfl <| wa rfl rfl <| wa rfl rfl <| w_nil ?_
  refine e_retQ (q_ret2 rfl (.tmp rfl) (.tmp rfl) ?_)
  exact fun w' hw' => ⟨⟨b22, pt, ht, pw, dvw, wv⟩, trivial, rfl, hw'.res⟩
end Go.SL
end
section
open Go Go.Proofs Go.SL
set_option maxRecDepth 100000
set_option maxHeartbeats 4000000
namespace Go.SL
def runC (r : RoundL) (n : Nat) : Int := if roundFaultL r ≠ 0 then roundFaultL r else if 300 < n then 4 else 0
theorem rdRun_bad (s : List Int) (v vp : Value) (r : RoundL) (p : List Int) (w : World) (h : IsRound w.cell? v r) (hs10 : s.length = 10) (hp : IsInts w.cell? vp p) (hc : runC r p.length ≠ 0) :
  Calls Tryz.prog 125 #[intsV s, v, vp] w fun e w' => e = .returned (.tuple #[intsV zero10, .slice none 0 0, .int .i64 (runC r p.length)]) ∧ Res w [] [] w' := by
 have hlz : (intCells s).length = 10 := by rw [intCells, List.length_map]; exact hs10
 have hsr := h
 rw [← off_none w] at hsr hp
 obtain ⟨A, kp, rfl, hle, hcc⟩ := h.form
 obtain ⟨Ap, kpp, rfl, hlep, hpc⟩ := hp.form
 refine enter0 (N := 55) Tryz.func125 rfl rfl rfl ?_
 by_cases hf : roundFaultL r = 0
 ·have h3 : 300 < p.length := by
   unfold runC at hc
   rw [if_neg (by simp [hf])] at hc
   by_cases h3 : 300 < p.length
   ·exact h3
   ·rw [if_neg h3] at hc; exact absurd rfl hc
  have e : runC r p.length = 4 := by unfold runC; rw [if_neg (by simp [hf]), if_pos h3]
  rw [e]
  refine esr <| w_op rfl ?_
  refine x_box rfl rfl (fun b3 => ?_)
  refine w_op rfl ?_
  refine x_alloc (z := .agg #[.int .i64 0, .int .i64 0, .int .i64 0, .int .i64 0, .int .i64 0, .int .i64 0, .int .i64 0, .int .i64 0, .int .i64 0, .int .i64 0]) (by intro w; exact Tryz.zeroValue32 w) rfl (fun b6 => ?_)
  refine wa rfl rfl <| wa rfl rfl <| wsr <| w_val (v_loadBA 1 rfl uT32 rfl Tryz.hi32 (Tryz.cz32.trans hlz.symm) rfl) rfl <| wm rfl rfl <| w_op rfl ?_
  refine x_call (dst := some 16) (mc := []) (σ := RdP) (fun _ => True) (fun y => .tuple #[.pointer (some ⟨y.pr, 0, none⟩), .int .i64 0]) (fun y => rnH y r.length (newP s r)) rfl rfl rfl Tryz.call147 (fun w hw => rdNew_ok s _ r w (hsr.mono hw.off) hs10 hf) rfl (fun y _ => ?_); obtain ⟨pr, pt, ht, pw, dvw, wv⟩ := y; dsimp only
  refine wm rfl rfl <| w_val (v_extract rfl rfl) rfl <| w_val (v_extract rfl rfl) rfl <| wa rfl rfl <| wa rfl rfl <| w_nil <| e_seq <| esr <| wm rfl rfl ?_
  refine w_val (v_is (v' := .bool false) (v_neq rfl rfl) (by rfl)) rfl ?_
  refine w_nil <| e_condF rfl <| e_skip <| e_seq <| esr <| wm rfl rfl <| w_val (v_lenS uT70 rfl) rfl ?_
  refine w_val (v_is (v' := .bool true) (v_gtr rfl rfl) (by rw [decide_eq_true (by omega)])) rfl ?_
  refine w_nil ?_
  refine e_condDT rfl (by omega) ?_
  refine esr ?_
  refine w_val (v_build (v := intsV zero10) _ rfl (by intro _; simp [Instr.build, Instr.fill, Tryz.zeroValue32, go_sem]; rfl)) rfl ?_
  refine w_op rfl ?_
  refine x_storeA 5 rfl rfl rfl Tryz.hi32 (Tryz.cz32.trans (by simp [Value.cells, intsV, resCells, intCells, hs10, zero10_len])) (by simp [Value.cells, intsV, resCells, intCells, hs10, zero10_len]) (by first | exact one_intCells _ | exact one_resCells _ _) ?_
  refine wa rfl rfl <| wa rfl rfl <| w_nil ?_
  refine e_retQ (q_ret3 rfl (ResV.agg 5 rfl rfl (by rw [isAggD, uT32]; rfl) (Tryz.cz32) Tryz.hi32) (.tmp rfl) (.tmp rfl) ?_)
  exact fun w' hw' => ⟨rfl, hw'.res.nil⟩
 ·have e : runC r p.length = roundFaultL r := by unfold runC; rw [if_pos hf]
  rw [e]
  refine esr <| w_op rfl ?_
  refine x_box rfl rfl (fun b3 => ?_)
  refine w_op rfl ?_
  refine x_alloc (z := .agg #[.int .i64 0, .int .i64 0, .int .i64 0, .int .i64 0, .int .i64 0, .int .i64 0, .int .i64 0, .int .i64 0, .int .i64 0, .int .i64 0]) (by intro w; exact Tryz.zeroValue32 w) rfl (fun b6 => ?_)
  refine wa rfl rfl <| wa rfl rfl <| wsr <| w_val (v_loadBA 1 rfl uT32 rfl Tryz.hi32 (Tryz.cz32.trans hlz.symm) rfl) rfl <| wm rfl rfl <| w_op rfl ?_
  refine x_call0 (v := .tuple #[.pointer none, .int .i64 (roundFaultL r)]) rfl rfl rfl Tryz.call147 rfl (fun w hw => rdNew_bad s _ r w (hsr.mono hw.off) hs10 hf) ?_
  refine wm rfl rfl <| w_val (v_extract rfl rfl) rfl <| w_val (v_extract rfl rfl) rfl <| wa rfl rfl <| wa rfl rfl <| w_nil <| e_seq <| esr <| wm rfl rfl ?_
  refine w_val (v_is (v' := .bool true) (v_neq rfl rfl) (by rw [decide_eq_true hf])) rfl ?_
  refine w_nil <| e_condT rfl <| esr ?_
  refine w_val (v_build (v := intsV zero10) _ rfl (by intro _; simp [Instr.build, Instr.fill, Tryz.zeroValue32, go_sem]; rfl)) rfl ?_
  refine wm rfl rfl <| w_op rfl ?_
  refine x_storeA 0 rfl rfl rfl Tryz.hi32 (Tryz.cz32.trans (by simp [Value.cells, intsV, resCells, intCells, hs10, zero10_len])) (by simp [Value.cells, intsV, resCells, intCells, hs10, zero10_len]) (by first | exact one_intCells _ | exact one_resCells _ _) ?_
  refine wa rfl rfl <| wa rfl rfl <| w_nil ?_
  refine e_retQ (q_ret3 rfl (ResV.agg 0 rfl rfl (by rw [isAggD, uT32]; rfl) (Tryz.cz32) Tryz.hi32) (.tmp rfl) (.tmp rfl) ?_)
  exact fun w' hw' => ⟨rfl, hw'.res.nil⟩
theorem rdRun_ok (s : List Int) (v vp : Value) (r : RoundL) (p : List Int) (w : World) (h : IsRound w.cell? v r) (hs10 : s.length = 10) (hp : IsInts w.cell? vp p) (hf : roundFaultL r = 0) (hpl : p.length ≤ 300) :
  Calls Tryz.prog 125 #[intsV s, v, vp] w fun e w' => ∃ x : Option Addr × Nat, r.length ≤ x.2 ∧ e = .returned (.tuple #[intsV (stAt s r r.length), .slice x.1 r.length r.length, .int .i64 0]) ∧ Res w [] [Own (.slice x.1 r.length x.2) 96 5 r.length (resL (resAll s r))] w' := by
 have hlz : (intCells s).length = 10 := by rw [intCells, List.length_map]; exact hs10
 have h8 := (roundFault_ok hf).1
 have hsr := h
 rw [← off_none w] at hsr hp
 obtain ⟨A, kp, rfl, hle, hcc⟩ := h.form
 obtain ⟨Ap, kpp, rfl, hlep, hpc⟩ := hp.form
 refine enter0 (N := 55) Tryz.func125 rfl rfl rfl <| esr <| w_op rfl ?_
 refine x_box rfl rfl (fun b3 => ?_)
 refine w_op rfl ?_
 refine x_alloc (z := .agg #[.int .i64 0, .int .i64 0, .int .i64 0, .int .i64 0, .int .i64 0, .int .i64 0, .int .i64 0, .int .i64 0, .int .i64 0, .int .i64 0]) (by intro w; exact Tryz.zeroValue32 w) rfl (fun b6 => ?_)
 refine wa rfl rfl <| wa rfl rfl <| wsr <| w_val (v_loadBA 1 rfl uT32 rfl Tryz.hi32 (Tryz.cz32.trans hlz.symm) rfl) rfl <| wm rfl rfl <| w_op rfl ?_
 refine x_call (dst := some 16) (mc := []) (σ := RdP) (fun _ => True) (fun y => .tuple #[.pointer (some ⟨y.pr, 0, none⟩), .int .i64 0]) (fun y => rnH y r.length (newP s r)) rfl rfl rfl Tryz.call147 (fun w hw => rdNew_ok s _ r w (hsr.mono hw.off) hs10 hf) rfl (fun y _ => ?_); obtain ⟨pr, pt, ht, pw, dvw, wv⟩ := y; dsimp only
 refine wm rfl rfl <| w_val (v_extract rfl rfl) rfl <| w_val (v_extract rfl rfl) rfl <| wa rfl rfl <| wa rfl rfl <| w_nil <| e_seq <| esr <| wm rfl rfl ?_
 refine w_val (v_is (v' := .bool false) (v_neq rfl rfl) (by rfl)) rfl ?_
 refine w_nil <| e_condF rfl <| e_skip <| e_seq <| esr <| wm rfl rfl <| w_val (v_lenS uT70 rfl) rfl ?_
 refine w_val (v_is (v' := .bool false) (v_gtr rfl rfl) (by rw [decide_eq_false (by omega)])) rfl ?_
 refine w_nil <| e_condF rfl <| e_skip <| e_seq <| esr <| wm rfl rfl <| w_val (v_lenS uT70 rfl) rfl <| wm rfl rfl <| w_nil <| e_block ?_
 refine e_loopH (σ := Nat × RunS) [6, 9, 27, 28] (.cons rfl (.cons rfl (.cons rfl (.cons rfl .nil)))) (fun x => [(29, .int .i64 (x.1 : Int))]) (fun x => rnH ⟨pr, pt, ht, pw, dvw, wv⟩ r.length x.2 ++ [.blk b6 32 (intCells zero10)]) (fun x => x.1 ≤ p.length ∧ InvR s r x.2.1 x.2.2) (fun x => p.length - x.1) (0, newP s r) ⟨Nat.zero_le _, inv_new hs10 hf⟩ (by repeat first | exact .nil _ | refine .cons rfl ?_) (fun _ hw => hw.pick [0, 1, 2, 3, 4, 5] (by decide)) ?_
 rintro ⟨i, P⟩ ⟨hi, hinv⟩
 dsimp only at hi hinv ⊢
 refine esr <| w_val (v_lss rfl rfl) rfl <| w_nil <| e_seq ?_
 refine e_condD rfl (fun hlt => ?_) (fun hlt => ?_)
 ·have hi' : i < p.length := by omega
  obtain ⟨ad, rfl, hcell⟩ := hpc i hi'
  generalize p[i] = pi at *
  by_cases h0 : 0 < r.length
  ·obtain ⟨k, hk, hkm⟩ := u64_rem' pi h0
   have hn := pick_nat (P := P) hk
   refine e_skip <| e_seq <| e_block <| esr ?_
   refine w_val (v_indexS uT70 Tryz.hi3 Tryz.cz3 rfl rfl (by first | omega | decide)) rfl ?_
   refine w_val (v_loadO uT3 rfl rfl (hcell)) rfl <| wa rfl rfl <| wsr <| wm rfl rfl <| w_op rfl ?_
   refine x_call0 (v := .int .i64 (r.length : Int)) rfl rfl rfl Tryz.call148 rfl (fun w hw => rdLen_spec pr r.length P.1 w (rnH_v (y := ⟨pr, pt, ht, pw, dvw, wv⟩) hinv hw (by simp) (by simp) (by simp))) ?_
   refine w_val (v_is (v' := .bool true) (v_gtr rfl rfl) (by rw [decide_eq_true (by omega)])) rfl ?_
   refine w_nil <| e_condT rfl <| e_region <| wm rfl rfl <| wm rfl rfl ?_
   refine w_val (v_conv uT122 (by rw [uT3]; rfl) rfl) rfl ?_
   refine wm rfl rfl <| w_op rfl ?_
   refine x_call0 (v := .int .i64 (r.length : Int)) rfl rfl rfl Tryz.call148 rfl (fun w hw => rdLen_spec pr r.length P.1 w (rnH_v (y := ⟨pr, pt, ht, pw, dvw, wv⟩) hinv hw (by simp) (by simp) (by simp))) ?_
   refine w_val (v_is (v' := .int .u64 ((r.length : Nat) : Int)) (v_conv uT122 (by rw [uT3]; rfl) rfl) (by rw [wrap_u64 (by omega) (by omega)])) rfl ?_
   refine w_val (v_is (v' := .int .u64 (k : Int)) (v_rem rfl rfl (by omega)) (by rw [hkm])) rfl ?_
   refine w_val (v_is (v' := .int .i64 (k : Int)) (v_conv uT3 (by rw [uT122]; rfl) rfl) (by rw [wrap_i64 (by omega) (by omega)])) rfl ?_
   refine w_op rfl ?_
   refine x_call (dst := some 44) (mc := rnH ⟨pr, pt, ht, pw, dvw, wv⟩ r.length P) (mr := [.blk b6 32 (intCells zero10)]) (σ := Unit) (fun _ => True) (fun _ => .tuple #[.int .i64 (stepW (P.1 k) P.2).1.1, .int .i64 (stepW (P.1 k) P.2).1.2]) (fun _ => rnH ⟨pr, pt, ht, pw, dvw, wv⟩ r.length (runP P k)) rfl rfl rfl Tryz.call149 (fun w hw => by have := rdPick_spec s r ⟨pr, pt, ht, pw, dvw, wv⟩ P k w (res_part hw).1 (res_part hw).2 hinv; rwa [hn] at this) rfl (fun _ _ => ?_)
   refine w_nil <| e_blk <| e_region ?_
   refine w_val (v_add rfl rfl (by omega)) rfl ?_
   refine wm rfl rfl <| w_nil ?_
   exact e_round ((i + 1, runP P k)) (⟨by dsimp only; omega, hinv.run hk⟩) (by dsimp only; omega) (by repeat first | exact .nil _ | refine .cons rfl ?_) (fun _ hw => hw)
  ·refine e_skip <| e_seq <| e_block <| esr ?_
   refine w_val (v_indexS uT70 Tryz.hi3 Tryz.cz3 rfl rfl (by first | omega | decide)) rfl ?_
   refine w_val (v_loadO uT3 rfl rfl (hcell)) rfl <| wa rfl rfl <| wsr <| wm rfl rfl <| w_op rfl ?_
   refine x_call0 (v := .int .i64 (r.length : Int)) rfl rfl rfl Tryz.call148 rfl (fun w hw => rdLen_spec pr r.length P.1 w (rnH_v (y := ⟨pr, pt, ht, pw, dvw, wv⟩) hinv hw (by simp) (by simp) (by simp))) ?_
   refine w_val (v_is (v' := .bool false) (v_gtr rfl rfl) (by rw [decide_eq_false (by omega)])) rfl ?_
   refine w_nil <| e_condF rfl <| e_skip <| e_blk <| e_region ?_
   refine w_val (v_add rfl rfl (by omega)) rfl ?_
   refine wm rfl rfl <| w_nil ?_
   exact e_round ((i + 1, P)) (⟨by dsimp only; omega, hinv⟩) (by dsimp only; omega) (by repeat first | exact .nil _ | refine .cons rfl ?_) (fun _ hw => hw)
 ·refine e_exit rfl <| esr <| wm rfl rfl <| w_op rfl ?_
  refine x_call (dst := some 47) (mc := rnH ⟨pr, pt, ht, pw, dvw, wv⟩ r.length P) (mr := [.blk b6 32 (intCells zero10)]) (σ := RunS) (fun P' => InvR s r P'.1 P'.2 ∧ AllO r.length P'.1) (fun _ => .tuple #[]) (fun P' => rnH ⟨pr, pt, ht, pw, dvw, wv⟩ r.length P') rfl rfl rfl Tryz.call150 (fun w hw => rdFinish_spec s r ⟨pr, pt, ht, pw, dvw, wv⟩ P w (res_part hw).1 (res_part hw).2 hinv) rfl (fun P' hP' => ?_)
  refine w_nil ?_
  obtain ⟨hinv', ho⟩ := hP'
  have hst := (hinv'.state ho).1
  have hrx := hinv'.resX ho
  have hzl := stAt_len (r := r) hs10 r.length
  have hn := hinv'.short
  generalize stAt s r r.length = z at *
  refine esr <| wm rfl rfl <| wn rfl rfl <| w_val (v_fieldAddrB (o := 0) uT206 rfl rfl Tryz.nz203 rfl) rfl <| w_val (v_loadB 3 rfl uT203 rfl rfl rfl) rfl <| w_op rfl ?_
  refine x_call0 (v := intsV z) rfl rfl rfl Tryz.call151 rfl (fun w hw => by have := tabState_spec pt ht P'.2 w (hw.tbV 1 rfl rfl) hn; rwa [hst] at this) ?_
  refine wm rfl rfl <| w_op rfl ?_
  refine x_call (dst := some 54) (mc := []) (σ := Option Addr × Nat) (fun x => r.length ≤ x.2) (fun x => .slice x.1 r.length r.length) (fun x => [Own (.slice x.1 r.length x.2) 96 5 r.length (resL (resAll s r))]) rfl rfl rfl Tryz.call152 (fun w hw => by have := rdResults_spec pr r.length P'.1 w (rnH_v (y := ⟨pr, pt, ht, pw, dvw, wv⟩) hinv' hw (by simp) (by simp) (by simp)) (by omega); rwa [hrx] at this) rfl (fun x hx => ?_); obtain ⟨xa, xk⟩ := x; dsimp only at hx; dsimp only
  refine w_op rfl ?_
  refine x_storeA 6 rfl rfl rfl Tryz.hi32 (Tryz.cz32.trans (by simp [Value.cells, intsV, resCells, intCells, zero10_len, hzl])) (by simp [Value.cells, intsV, resCells, intCells, zero10_len, hzl]) (by first | exact one_intCells _ | exact one_resCells _ _) ?_
  refine wa rfl rfl <| wa rfl rfl <| w_nil ?_
  refine e_retQ (q_ret3 rfl (ResV.agg 6 rfl rfl (by rw [isAggD, uT32]; rfl) (Tryz.cz32.trans (by simp [intCells, hzl])) Tryz.hi32) (.tmp rfl) (.tmp rfl) ?_)
  exact fun w' hw' => ⟨(xa, xk), hx, rfl, hw'.res.sub (.cons_cons _ (List.nil_sublist _))⟩
end Go.SL
end
