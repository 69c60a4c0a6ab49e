/- Ytebdkaadbakhlac: part U2 of this seat's own texts. -/
import Derived.Test.YtebdkaadbakhlacU1
import Derived.Test.YtebdkaadbakhlacW2
set_option linter.unusedVariables false
set_option linter.unusedSimpArgs false
section

open Go Go.Proofs Go.SL
set_option maxRecDepth 100000
namespace Go.SL
theorem zero10_len : zero10.length = 10 := rfl
abbrev ResL := List (Int × List Int)
def resL (rs : ResL) : List Value := rs.flatMap fun x => resCells x.1 x.2
theorem resL_app (a b : ResL) : resL (a ++ b) = resL a ++ resL b := by simp [resL]
theorem resL_one (c : Int) (g : List Int) : resL [(c, g)] = resCells c g := by simp [resL]
/-- all deeds of a round: the state, the results -/
def allL (s : List Int) : RoundL → List Int × ResL
  | [] => (s, [])
  | d :: r => ((allL (doL arithL s d).1 r).1, (doL arithL s d).2 :: (allL (doL arithL s d).1 r).2)
def serAllL (s : List Int) (r : RoundL) : List Int × ResL × Int := if roundFaultL r ≠ 0 then (zero10, [], roundFaultL r) else ((allL s r).1, (allL s r).2, 0)
theorem allL_at {r : RoundL} {k : Nat} (h : k < r.length) (s : List Int) : allL s (r.drop k) = ((allL (doL arithL s r[k]).1 (r.drop (k + 1))).1, (doL arithL s r[k]).2 :: (allL (doL arithL s r[k]).1 (r.drop (k + 1))).2) := by
  rw [List.drop_eq_getElem_cons h]; rfl
theorem doL_len {s : List Int} {d : DeedL} (hs : s.length = 10) : (doL arithL s d).1.length = 10 ∧ (doL arithL s d).2.2.length = 4 := by
  have h : (runL arithL d zero4 s).2.1.length = 4 ∧ (runL arithL d zero4 s).2.2.length = s.length := runF_len arithL d.length d zero4 s
  simp only [doL]
  generalize runL arithL d zero4 s = R at h
  by_cases hb : R.1 = true
  · rw [if_pos hb]; exact ⟨hs, h.1⟩
  · rw [if_neg hb]; exact ⟨h.2.trans hs, h.1⟩
theorem serDo_of_ok {s : List Int} {d : DeedL} (h : (checkL d).1 = 0) : serDoL s d = ((doL arithL s d).1, (doL arithL s d).2.1, (doL arithL s d).2.2, 0) := by
  unfold serDoL
  rw [if_neg (by omega)]
theorem serAll_spec (s0 : List Int) (v : Value) (r : RoundL) (w : World) (h : IsRound w.cell? v r) (hs0 : s0.length = 10) : Calls Try.prog 47 #[intsV s0, v] w
    fun e w' => ∃ sl : Value, True ∧ e = .returned (.tuple #[intsV (serAllL s0 r).1, sl, .int .i64 (serAllL s0 r).2.2]) ∧ Res w [] [Own sl 30 5 (serAllL s0 r).2.1.length (resL (serAllL s0 r).2.1)] w' := by
  have hr := h
  rw [← off_none w] at h hr
  obtain ⟨A, kp, rfl, hle, hc⟩ := h.form
  refine enter0 (N := 41) Try.func47 rfl rfl rfl ?_
  refine e_seq ?_
  refine e_region ?_
  refine w_op rfl ?_
  refine x_box rfl rfl (fun b2 => ?_)
  refine w_op rfl ?_
  refine x_alloc (z := .agg #[.int .i64 0, .int .i64 0, .int .i64 0, .int .i64 0, .int .i64 0, .int .i64 0, .int .i64 0, .int .i64 0, .int .i64 0, .int .i64 0]) (by intro w; exact Try.zeroValue23 w) rfl (fun b4 => ?_)
  refine w_val (v_assign rfl) rfl ?_
  refine w_val (v_assign rfl) rfl ?_
  refine w_nil ?_
  refine e_seq ?_
  refine e_seq ?_
  refine e_region ?_
  refine w_val (v_move rfl) rfl ?_
  refine w_op rfl ?_
  refine x_call0 (v := .int .i64 (roundFaultL r)) rfl rfl rfl Try.call80 rfl (fun w hw => codeRound_spec _ r w (hr.mono hw.off)) ?_
  refine w_val (v_assign rfl) rfl ?_
  refine w_nil ?_
  refine e_seq ?_
  refine e_region ?_
  refine w_val (v_move rfl) rfl ?_
  refine w_val (v_neq rfl rfl) rfl ?_
  refine w_nil ?_
  refine e_condD rfl (fun hf => ?_) (fun hf => ?_)
  · refine e_seq ?_
    refine e_region ?_
    refine w_val (v_build (v := intsV zero10) _ rfl (by intro _; simp [Instr.build, Instr.fill, Try.zeroValue23, go_sem]; rfl)) rfl ?_
    refine w_val (v_move rfl) rfl ?_
    refine w_op rfl ?_
    refine x_storeA 0 rfl rfl rfl Try.hi23 (Try.cz23.trans (by simp [Value.cells, intsV, resCells, intCells, hs0, zero10_len])) (by simp [Value.cells, intsV, resCells, intCells, hs0, zero10_len]) (by first | exact one_intCells _ | exact one_resCells _ _) ?_
    refine w_val (v_assign rfl) rfl ?_
    refine w_val (v_assign rfl) rfl ?_
    refine w_nil ?_
    refine e_retQ (q_ret3 rfl (ResV.agg 0 rfl rfl (by rw [isAggD, Try.underlying23]; rfl) (Try.cz23) Try.hi23) (.tmp rfl) (.tmp rfl) ?_)
    exact fun w' hw' => ⟨.slice none 0 0, trivial, by simp only [serAllL]; rw [if_pos hf]; rfl, by simp only [serAllL]; rw [if_pos hf]; exact (hw'.ownNil 30 5).res.sub (.cons_cons _ (List.nil_sublist _))⟩
  · have hf' : roundFaultL r = 0 := by omega
    obtain ⟨h8, hck⟩ := roundFault_ok hf'
    have hall : serAllL s0 r = ((allL s0 r).1, (allL s0 r).2, 0) := by unfold serAllL; rw [if_neg hf]
    generalize hR : allL s0 r = R at hall
    rw [hall]
    refine e_skip ?_
    refine e_seq ?_
    refine e_region ?_
    refine w_val (v_assign rfl) rfl ?_
    refine w_nil ?_
    refine e_seq ?_
    refine e_seq ?_
    refine e_region ?_
    refine w_val (v_move rfl) rfl ?_
    refine w_val (v_lenS Try.underlying38 rfl) rfl ?_
    refine w_val (v_move rfl) rfl ?_
    refine w_nil ?_
    refine e_block ?_
    refine e_loopH (σ := Nat × List Int × ResL × Value) [2, 4, 5, 6, 20, 21] (.cons rfl (.cons rfl (.cons rfl (.cons rfl (.cons rfl (.cons rfl .nil)))))) (fun x => [(22, .int .i64 x.1), (8, x.2.2.2)]) (fun x => [Own x.2.2.2 30 5 x.2.2.1.length (resL x.2.2.1), .blk b4 23 (intCells zero10), .blk b2 23 (intCells x.2.1)]) (fun x => x.1 ≤ r.length ∧ x.2.1.length = 10 ∧ x.2.2.1.length = x.1 ∧ ((allL x.2.1 (r.drop x.1)).1, x.2.2.1 ++ (allL x.2.1 (r.drop x.1)).2) = R) (fun x => r.length - x.1) (0, s0, [], .slice none 0 0) ⟨by simp, hs0, rfl, hR⟩ (by repeat (first | exact Sub.nil _ | refine Sub.cons rfl ?_)) (fun _ hw => hw.ownNil 30 5) ?_
    rintro ⟨k, s, rs, sl⟩ ⟨hk, hs, hrs, hrun⟩
    dsimp only at hk hs hrs hrun
    refine e_seq ?_
    refine e_region ?_
    refine w_val (v_lss rfl rfl) rfl ?_
    refine w_nil ?_
    refine e_seq ?_
    refine e_condD rfl (fun hlt => ?_) (fun hlt => ?_)
    · have hlt' : k < r.length := by omega
      obtain ⟨ad, u, rfl, hcell, hd⟩ := hc k hlt'
      have hdck := hck r[k] (List.getElem_mem _)
      rw [allL_at hlt'] at hrun
      generalize r[k] = d at *
      obtain ⟨hx10, hg4⟩ := doL_len (d := d) hs
      have hser := serDo_of_ok (s := s) hdck
      refine e_skip ?_
      refine e_seq ?_
      refine e_block ?_
      refine e_seq ?_
      refine e_region ?_
      refine w_val (v_indexS Try.underlying38 Try.hi25 Try.cz25 rfl rfl (by first | omega | decide)) rfl ?_
      refine w_val (v_loadO Try.underlying25 rfl rfl (hcell)) rfl ?_
      refine w_val (v_assign rfl) rfl ?_
      refine w_nil ?_
      refine e_seq ?_
      refine e_region ?_
      refine w_val (v_loadBA 2 rfl Try.underlying23 rfl Try.hi23 (Try.cz23.trans (by simp [Value.cells, intsV, resCells, intCells, hs0, hs])) rfl) rfl ?_
      refine w_val (v_move rfl) rfl ?_
      refine w_op rfl ?_
      refine x_call0 (v := serDoV (serDoL s d)) rfl rfl rfl Try.call16 rfl (fun w hw => serialDo_spec s u d w (hd.mono hw.off) hs) ?_
      rw [hser]
      generalize doL arithL s d = x at *
      obtain ⟨x, c, g⟩ := x
      dsimp only at hx10 hg4 hrun
      dsimp only [serDoV]
      refine w_val (v_move rfl) rfl ?_
      refine w_val (v_extract rfl rfl) rfl ?_
      refine w_val (v_extract rfl rfl) rfl ?_
      refine w_val (v_extract rfl rfl) rfl ?_
      refine w_op rfl ?_
      refine x_alloc (z := .agg #[.int .i64 0, .int .i64 0, .int .i64 0, .int .i64 0, .int .i64 0, .int .i64 0, .int .i64 0, .int .i64 0, .int .i64 0, .int .i64 0]) (by intro w; exact Try.zeroValue23 w) rfl (fun b11 => ?_)
      refine w_op rfl ?_
      refine x_alloc (z := .agg #[.int .i64 0, .int .i64 0, .int .i64 0, .int .i64 0, .int .i64 0]) (by intro w; exact Try.zeroValue30 w) rfl (fun b12 => ?_)
      refine w_op rfl ?_
      refine x_storeA 1 rfl rfl rfl Try.hi23 (Try.cz23.trans (by simp [Value.cells, intsV, resCells, intCells, hs0, hs, hx10, hg4])) (by simp [Value.cells, intsV, resCells, intCells, hs0, hs, hx10, hg4]) (by first | exact one_intCells _ | exact one_resCells _ _) ?_
      refine w_op rfl ?_
      refine x_storeA 0 rfl rfl rfl Try.hi30 (Try.cz30.trans (by simp [Value.cells, intsV, resCells, intCells, hs0, hs, hx10, hg4])) (by simp [Value.cells, intsV, resCells, intCells, hs0, hs, hx10, hg4]) (by first | exact one_intCells _ | exact one_resCells _ _) ?_
      refine w_val (v_assign rfl) rfl ?_
      refine w_nil ?_
      refine e_seq ?_
      refine e_region ?_
      refine w_val (v_loadBA 1 rfl Try.underlying23 rfl Try.hi23 (Try.cz23.trans (by simp [Value.cells, intsV, resCells, intCells, hs0, hs, hx10, hg4])) rfl) rfl ?_
      refine w_op rfl ?_
      refine x_storeA 4 rfl rfl rfl Try.hi23 (Try.cz23.trans (by simp [Value.cells, intsV, resCells, intCells, hs0, hs, hx10, hg4])) (by simp [Value.cells, intsV, resCells, intCells, hs0, hs, hx10, hg4]) (by first | exact one_intCells _ | exact one_resCells _ _) ?_
      refine w_nil ?_
      refine e_region ?_
      refine w_val (v_move rfl) rfl ?_
      refine w_val (v_loadBA 0 rfl Try.underlying30 rfl Try.hi30 (Try.cz30.trans (by simp [Value.cells, intsV, resCells, intCells, hs0, hs, hx10, hg4])) rfl) rfl ?_
      obtain ⟨g0, g1, g2, g3, rfl⟩ := list4 hg4
      refine w_op rfl ?_
      refine x_buildSlice _ (resCells c [g0, g1, g2, g3]) rfl (run_buildSlice Try.underlying57 Try.hi30 Try.cz30 Try.zeroValue30 rfl (by kernel_rfl)) rfl (fun b36 => ?_)
      refine w_op rfl ?_
      refine x_appendI (z := .agg #[.int .i64 0, .int .i64 0, .int .i64 0, .int .i64 0, .int .i64 0]) (n := rs.length) (xs := resL rs) (size := 5) (bytes := 40) (k := 1) (news := resCells c [g0, g1, g2, g3]) 3 rfl rfl rfl Try.underlying57 (by kernel_rfl) rfl (by decide) (fun w hw => blk_rds (hw.hold _ (List.mem_cons_self ..)) rfl) (by intro u hu; exact one_resCells c [g0, g1, g2, g3] u (by simpa using hu)) (by omega) (by simp only [maxLen]; omega) rfl (fun sl' => ?_)
      refine w_val (v_assign rfl) rfl ?_
      refine w_nil ?_
      refine e_blk ?_
      refine e_region ?_
      refine w_val (v_add rfl rfl (by omega)) rfl ?_
      refine w_val (v_move rfl) rfl ?_
      refine w_nil ?_
      refine e_round ((k + 1, x, rs ++ [(c, [g0, g1, g2, g3])], sl')) (⟨by dsimp only; omega, hx10, by simp [hrs], by rw [← hrun]; simp⟩) (by dsimp only; omega) (by repeat (first | exact Sub.nil _ | refine Sub.cons rfl ?_)) (fun _ hw => ?_)
      have h1 : resL (rs ++ [(c, [g0, g1, g2, g3])]) = resL rs ++ resCells c [g0, g1, g2, g3] := by rw [resL_app, resL_one]
      have h2 : (rs ++ [(c, [g0, g1, g2, g3])]).length = rs.length + 1 := by simp
      dsimp only
      rw [h1, h2]
      exact hw.sub (.cons _ (.cons _ (.cons _ (List.Sublist.refl _))))
    · obtain rfl : k = r.length := by omega
      have e0 : allL s (r.drop r.length) = (s, []) := by rw [List.drop_length]; rfl
      rw [e0] at hrun
      simp only [List.append_nil] at hrun
      subst hrun
      refine e_exit rfl ?_
      refine e_seq ?_
      refine e_region ?_
      refine w_val (v_loadBA 2 rfl Try.underlying23 rfl Try.hi23 (Try.cz23.trans (by simp [Value.cells, intsV, resCells, intCells, hs0, hs, zero10_len])) rfl) rfl ?_
      refine w_val (v_move rfl) rfl ?_
      refine w_op rfl ?_
      refine x_storeA 1 rfl rfl rfl Try.hi23 (Try.cz23.trans (by simp [Value.cells, intsV, resCells, intCells, hs0, hs, zero10_len])) (by simp [Value.cells, intsV, resCells, intCells, hs0, hs, zero10_len]) (by first | exact one_intCells _ | exact one_resCells _ _) ?_
      refine w_val (v_assign rfl) rfl ?_
      refine w_val (v_assign rfl) rfl ?_
      refine w_nil ?_
      refine e_retQ (q_ret3 rfl (ResV.agg 1 rfl rfl (by rw [isAggD, Try.underlying23]; rfl) (Try.cz23.trans (by simp [intCells, hs])) Try.hi23) (.tmp rfl) (.tmp rfl) ?_)
      exact fun w' hw' => ⟨sl, trivial, rfl, hw'.res.sub (.cons_cons _ (List.nil_sublist _))⟩
end Go.SL
end
section

open Go Go.Proofs Go.SL
set_option maxRecDepth 100000
namespace Go.SL
theorem refAll_spec (s0 : List Int) (v : Value) (r : RoundL) (w : World) (h : IsRound w.cell? v r) (hs0 : s0.length = 10) (hf' : roundFaultL r = 0) : Calls Try.prog 87 #[intsV s0, v] w
    fun e w' => ∃ sl : Value, True ∧ e = .returned (.tuple #[intsV (allL s0 r).1, sl]) ∧ Res w [] [Own sl 30 5 (allL s0 r).2.length (resL (allL s0 r).2)] w' := by
  have hr := h
  rw [← off_none w] at h hr
  obtain ⟨A, kp, rfl, hle, hc⟩ := h.form
  obtain ⟨h8, hck⟩ := roundFault_ok hf'
  generalize hR : allL s0 r = R
  refine enter0 (N := 32) Try.func87 rfl rfl rfl ?_
  refine e_seq ?_
  refine e_region ?_
  refine w_op rfl ?_
  refine x_box rfl rfl (fun b2 => ?_)
  refine w_op rfl ?_
  refine x_alloc (z := .agg #[.int .i64 0, .int .i64 0, .int .i64 0, .int .i64 0, .int .i64 0, .int .i64 0, .int .i64 0, .int .i64 0, .int .i64 0, .int .i64 0]) (by intro w; exact Try.zeroValue23 w) rfl (fun b4 => ?_)
  refine w_val (v_assign rfl) rfl ?_
  refine w_nil ?_
  refine e_seq ?_
  refine e_region ?_
  refine w_val (v_assign rfl) rfl ?_
  refine w_nil ?_
  refine e_seq ?_
  refine e_seq ?_
  refine e_region ?_
  refine w_val (v_assign rfl) rfl ?_
  refine w_nil ?_
  refine e_block ?_
  refine e_loopH (σ := Nat × List Int × ResL × Value) [1, 2, 4, 5] (.cons rfl (.cons rfl (.cons rfl (.cons rfl .nil)))) (fun x => [(7, .int .i64 x.1), (6, x.2.2.2)]) (fun x => [Own x.2.2.2 30 5 x.2.2.1.length (resL x.2.2.1), .blk b4 23 (intCells zero10), .blk b2 23 (intCells x.2.1)]) (fun x => x.1 ≤ r.length ∧ x.2.1.length = 10 ∧ x.2.2.1.length = x.1 ∧ ((allL x.2.1 (r.drop x.1)).1, x.2.2.1 ++ (allL x.2.1 (r.drop x.1)).2) = R) (fun x => r.length - x.1) (0, s0, [], .slice none 0 0) ⟨by simp, hs0, rfl, hR⟩ (by repeat (first | exact Sub.nil _ | refine Sub.cons rfl ?_)) (fun _ hw => hw.ownNil 30 5) ?_
  rintro ⟨k, s, rs, sl⟩ ⟨hk, hs, hrs, hrun⟩
  dsimp only at hk hs hrs hrun
  refine e_seq ?_
  refine e_seq ?_
  refine e_region ?_
  refine w_val (v_move rfl) rfl ?_
  refine w_val (v_move rfl) rfl ?_
  refine w_val (v_lenS Try.underlying38 rfl) rfl ?_
  refine w_val (v_lss rfl rfl) rfl ?_
  refine w_nil ?_
  refine e_condD rfl (fun hlt => ?_) (fun hlt => ?_)
  · have hlt' : k < r.length := by omega
    obtain ⟨ad, u, rfl, hcell, hd⟩ := hc k hlt'
    have hdck := hck r[k] (List.getElem_mem _)
    rw [allL_at hlt'] at hrun
    generalize r[k] = d at *
    obtain ⟨hx10, hg4⟩ := doL_len (d := d) hs
    have hcall := fun (w1 : World) (hl : Le (off w (feet [])) w1.cell?) => refDo_spec s u d w1 (hd.mono hl) hs hdck
    generalize doL arithL s d = x at *
    obtain ⟨x, c, g⟩ := x
    dsimp only at hx10 hg4 hrun hcall
    refine e_skip ?_
    refine e_seq ?_
    refine e_block ?_
    refine e_seq ?_
    refine e_cutH (σ := Nat × Nat) [1, 2, 4, 5, 6, 7] (.cons rfl (.cons rfl (.cons rfl (.cons rfl (.cons rfl (.cons rfl .nil)))))) (fun y => [(8, .pointer (some ⟨y.1, 0, none⟩)), (9, .pointer (some ⟨y.2, 0, none⟩))]) (fun y => [.blk y.1 23 (intCells x), .blk y.2 30 (resCells c g), Own sl 30 5 rs.length (resL rs), .blk b4 23 (intCells zero10), .blk b2 23 (intCells s)]) (fun _ => True) ?_ ?_
    · refine e_draw ([.blk b2 23 (intCells s)]) Try.mixed ?_
      refine a_take 0 pan_cx (by kernel_rfl) (fun _ hw => hw.sub (by repeat (first | exact List.Sublist.slnil | exact List.Sublist.refl _ | apply List.Sublist.cons_cons | apply List.Sublist.cons))) rfl (by kernel_rfl) (by kernel_rfl) (v_loadBA 0 rfl Try.underlying23 rfl Try.hi23 (Try.cz23.trans (by simp [Value.cells, intsV, resCells, intCells, hs0, hs, hx10, hg4])) rfl) rfl ?_
      refine a_take 1 pan_cx (by kernel_rfl) (fun _ hw => hw.sub (by repeat (first | exact List.Sublist.slnil | exact List.Sublist.refl _ | apply List.Sublist.cons_cons | apply List.Sublist.cons))) rfl (by kernel_rfl) (by kernel_rfl) (v_move rfl) rfl ?_
      refine a_take 2 pan_cx (by kernel_rfl) (fun _ hw => hw.sub (by repeat (first | exact List.Sublist.slnil | exact List.Sublist.refl _ | apply List.Sublist.cons_cons | apply List.Sublist.cons))) rfl (by kernel_rfl) (by kernel_rfl) (v_move rfl) rfl ?_
      refine a_take 3 pan_cx (by kernel_rfl) (fun _ hw => hw.sub (by repeat (first | exact List.Sublist.slnil | exact List.Sublist.refl _ | apply List.Sublist.cons_cons | apply List.Sublist.cons))) rfl (by kernel_rfl) (by kernel_rfl) (v_indexS Try.underlying38 Try.hi25 Try.cz25 rfl rfl (by first | omega | decide)) rfl ?_
      refine a_take 4 pan_cx (by kernel_rfl) (fun _ hw => hw.sub (by repeat (first | exact List.Sublist.slnil | exact List.Sublist.refl _ | apply List.Sublist.cons_cons | apply List.Sublist.cons))) rfl (by kernel_rfl) (by kernel_rfl) (v_loadO Try.underlying25 rfl rfl (hcell)) rfl ?_
      refine a_all [5, 9, 10] (by kernel_rfl) rfl ?_
      intro i hi
      simp only [List.mem_cons, List.not_mem_nil, or_false] at hi
      rcases hi with rfl | rfl | rfl
      · refine a_op rfl rfl ?_
        refine x_call0 (v := .tuple #[intsV x, .agg (resCells c g).toArray]) rfl rfl rfl Try.call37 rfl (fun w hw => hcall w hw.off) ?_
        refine a_and (fun _ hw => hw.sub (by repeat (first | exact List.Sublist.slnil | exact List.Sublist.refl _ | apply List.Sublist.cons_cons | apply List.Sublist.cons))) ?_
        refine a_take 6 pan_cx (by kernel_rfl) (fun _ hw => hw.sub (by repeat (first | exact List.Sublist.slnil | exact List.Sublist.refl _ | apply List.Sublist.cons_cons | apply List.Sublist.cons))) rfl (by kernel_rfl) (by kernel_rfl) (v_move rfl) rfl ?_
        refine a_take 7 pan_cx (by kernel_rfl) (fun _ hw => hw.sub (by repeat (first | exact List.Sublist.slnil | exact List.Sublist.refl _ | apply List.Sublist.cons_cons | apply List.Sublist.cons))) rfl (by kernel_rfl) (by kernel_rfl) (v_extract rfl rfl) rfl ?_
        refine a_take 8 pan_cx (by kernel_rfl) (fun _ hw => hw.sub (by repeat (first | exact List.Sublist.slnil | exact List.Sublist.refl _ | apply List.Sublist.cons_cons | apply List.Sublist.cons))) rfl (by kernel_rfl) (by kernel_rfl) (v_extract rfl rfl) rfl ?_
        refine a_all [9, 10] (by kernel_rfl) rfl ?_
        intro i hi
        simp only [List.mem_cons, List.not_mem_nil, or_false] at hi
        rcases hi with rfl | rfl
        · refine a_op rfl rfl ?_
          refine x_alloc (z := .agg #[.int .i64 0, .int .i64 0, .int .i64 0, .int .i64 0, .int .i64 0, .int .i64 0, .int .i64 0, .int .i64 0, .int .i64 0, .int .i64 0]) (by intro w; exact Try.zeroValue23 w) rfl (fun b8 => ?_)
          refine a_and (fun _ hw => hw.sub (by repeat (first | exact List.Sublist.slnil | exact List.Sublist.refl _ | apply List.Sublist.cons_cons | apply List.Sublist.cons))) ?_
          refine a_one 10 (by kernel_rfl) rfl rfl ?_
          refine x_alloc (z := .agg #[.int .i64 0, .int .i64 0, .int .i64 0, .int .i64 0, .int .i64 0]) (by intro w; exact Try.zeroValue30 w) rfl (fun b9 => ?_)
          refine a_and (fun _ hw => hw.sub (by repeat (first | exact List.Sublist.slnil | exact List.Sublist.refl _ | apply List.Sublist.cons_cons | apply List.Sublist.cons))) ?_
          refine a_one 11 (by kernel_rfl) rfl rfl ?_
          refine x_storeA 1 rfl rfl rfl Try.hi23 (Try.cz23.trans (by simp [Value.cells, intsV, resCells, intCells, hs0, hs, hx10, hg4])) (by simp [Value.cells, intsV, resCells, intCells, hs0, hs, hx10, hg4]) (by first | exact one_intCells _ | exact one_resCells _ _) ?_
          refine a_and (fun _ hw => hw.sub (by repeat (first | exact List.Sublist.slnil | exact List.Sublist.refl _ | apply List.Sublist.cons_cons | apply List.Sublist.cons))) ?_
          refine a_one 12 (by kernel_rfl) rfl rfl ?_
          refine x_storeA 0 rfl rfl rfl Try.hi30 (Try.cz30.trans (by simp [Value.cells, intsV, resCells, intCells, hs0, hs, hx10, hg4])) (by simp [Value.cells, intsV, resCells, intCells, hs0, hs, hx10, hg4]) (by first | exact one_intCells _ | exact one_resCells _ _) ?_
          refine a_and (fun _ hw => hw.sub (by repeat (first | exact List.Sublist.slnil | exact List.Sublist.refl _ | apply List.Sublist.cons_cons | apply List.Sublist.cons))) ?_
          refine a_done (by kernel_rfl) ?_
          exact e_cutEnd (b8, b9) trivial (by repeat (first | exact Sub.nil _ | refine Sub.cons rfl ?_)) (fun _ hw => by first | exact hw | exact hw.perm (.swap _ _ _))
        · refine a_op rfl rfl ?_
          refine x_alloc (z := .agg #[.int .i64 0, .int .i64 0, .int .i64 0, .int .i64 0, .int .i64 0]) (by intro w; exact Try.zeroValue30 w) rfl (fun b9 => ?_)
          refine a_and (fun _ hw => hw.sub (by repeat (first | exact List.Sublist.slnil | exact List.Sublist.refl _ | apply List.Sublist.cons_cons | apply List.Sublist.cons))) ?_
          refine a_one 9 (by kernel_rfl) rfl rfl ?_
          refine x_alloc (z := .agg #[.int .i64 0, .int .i64 0, .int .i64 0, .int .i64 0, .int .i64 0, .int .i64 0, .int .i64 0, .int .i64 0, .int .i64 0, .int .i64 0]) (by intro w; exact Try.zeroValue23 w) rfl (fun b8 => ?_)
          refine a_and (fun _ hw => hw.sub (by repeat (first | exact List.Sublist.slnil | exact List.Sublist.refl _ | apply List.Sublist.cons_cons | apply List.Sublist.cons))) ?_
          refine a_one 11 (by kernel_rfl) rfl rfl ?_
          refine x_storeA 0 rfl rfl rfl Try.hi23 (Try.cz23.trans (by simp [Value.cells, intsV, resCells, intCells, hs0, hs, hx10, hg4])) (by simp [Value.cells, intsV, resCells, intCells, hs0, hs, hx10, hg4]) (by first | exact one_intCells _ | exact one_resCells _ _) ?_
          refine a_and (fun _ hw => hw.sub (by repeat (first | exact List.Sublist.slnil | exact List.Sublist.refl _ | apply List.Sublist.cons_cons | apply List.Sublist.cons))) ?_
          refine a_one 12 (by kernel_rfl) rfl rfl ?_
          refine x_storeA 1 rfl rfl rfl Try.hi30 (Try.cz30.trans (by simp [Value.cells, intsV, resCells, intCells, hs0, hs, hx10, hg4])) (by simp [Value.cells, intsV, resCells, intCells, hs0, hs, hx10, hg4]) (by first | exact one_intCells _ | exact one_resCells _ _) ?_
          refine a_and (fun _ hw => hw.sub (by repeat (first | exact List.Sublist.slnil | exact List.Sublist.refl _ | apply List.Sublist.cons_cons | apply List.Sublist.cons))) ?_
          refine a_done (by kernel_rfl) ?_
          exact e_cutEnd (b8, b9) trivial (by repeat (first | exact Sub.nil _ | refine Sub.cons rfl ?_)) (fun _ hw => by first | exact hw | exact hw.perm (.swap _ _ _))
      · refine a_op rfl rfl ?_
        refine x_alloc (z := .agg #[.int .i64 0, .int .i64 0, .int .i64 0, .int .i64 0, .int .i64 0, .int .i64 0, .int .i64 0, .int .i64 0, .int .i64 0, .int .i64 0]) (by intro w; exact Try.zeroValue23 w) rfl (fun b8 => ?_)
        refine a_and (fun _ hw => hw.sub (by repeat (first | exact List.Sublist.slnil | exact List.Sublist.refl _ | apply List.Sublist.cons_cons | apply List.Sublist.cons))) ?_
        refine a_all [5, 10] (by kernel_rfl) rfl ?_
        intro i hi
        simp only [List.mem_cons, List.not_mem_nil, or_false] at hi
        rcases hi with rfl | rfl
        · refine a_op rfl rfl ?_
          refine x_call0 (v := .tuple #[intsV x, .agg (resCells c g).toArray]) rfl rfl rfl Try.call37 rfl (fun w hw => hcall w hw.off) ?_
          refine a_and (fun _ hw => hw.sub (by repeat (first | exact List.Sublist.slnil | exact List.Sublist.refl _ | apply List.Sublist.cons_cons | apply List.Sublist.cons))) ?_
          refine a_take 6 pan_cx (by kernel_rfl) (fun _ hw => hw.sub (by repeat (first | exact List.Sublist.slnil | exact List.Sublist.refl _ | apply List.Sublist.cons_cons | apply List.Sublist.cons))) rfl (by kernel_rfl) (by kernel_rfl) (v_move rfl) rfl ?_
          refine a_take 7 pan_cx (by kernel_rfl) (fun _ hw => hw.sub (by repeat (first | exact List.Sublist.slnil | exact List.Sublist.refl _ | apply List.Sublist.cons_cons | apply List.Sublist.cons))) rfl (by kernel_rfl) (by kernel_rfl) (v_extract rfl rfl) rfl ?_
          refine a_take 8 pan_cx (by kernel_rfl) (fun _ hw => hw.sub (by repeat (first | exact List.Sublist.slnil | exact List.Sublist.refl _ | apply List.Sublist.cons_cons | apply List.Sublist.cons))) rfl (by kernel_rfl) (by kernel_rfl) (v_extract rfl rfl) rfl ?_
          refine a_one 10 (by kernel_rfl) rfl rfl ?_
          refine x_alloc (z := .agg #[.int .i64 0, .int .i64 0, .int .i64 0, .int .i64 0, .int .i64 0]) (by intro w; exact Try.zeroValue30 w) rfl (fun b9 => ?_)
          refine a_and (fun _ hw => hw.sub (by repeat (first | exact List.Sublist.slnil | exact List.Sublist.refl _ | apply List.Sublist.cons_cons | apply List.Sublist.cons))) ?_
          refine a_one 11 (by kernel_rfl) rfl rfl ?_
          refine x_storeA 1 rfl rfl rfl Try.hi23 (Try.cz23.trans (by simp [Value.cells, intsV, resCells, intCells, hs0, hs, hx10, hg4])) (by simp [Value.cells, intsV, resCells, intCells, hs0, hs, hx10, hg4]) (by first | exact one_intCells _ | exact one_resCells _ _) ?_
          refine a_and (fun _ hw => hw.sub (by repeat (first | exact List.Sublist.slnil | exact List.Sublist.refl _ | apply List.Sublist.cons_cons | apply List.Sublist.cons))) ?_
          refine a_one 12 (by kernel_rfl) rfl rfl ?_
          refine x_storeA 0 rfl rfl rfl Try.hi30 (Try.cz30.trans (by simp [Value.cells, intsV, resCells, intCells, hs0, hs, hx10, hg4])) (by simp [Value.cells, intsV, resCells, intCells, hs0, hs, hx10, hg4]) (by first | exact one_intCells _ | exact one_resCells _ _) ?_
          refine a_and (fun _ hw => hw.sub (by repeat (first | exact List.Sublist.slnil | exact List.Sublist.refl _ | apply List.Sublist.cons_cons | apply List.Sublist.cons))) ?_
          refine a_done (by kernel_rfl) ?_
          exact e_cutEnd (b8, b9) trivial (by repeat (first | exact Sub.nil _ | refine Sub.cons rfl ?_)) (fun _ hw => by first | exact hw | exact hw.perm (.swap _ _ _))
        · refine a_op rfl rfl ?_
          refine x_alloc (z := .agg #[.int .i64 0, .int .i64 0, .int .i64 0, .int .i64 0, .int .i64 0]) (by intro w; exact Try.zeroValue30 w) rfl (fun b9 => ?_)
          refine a_and (fun _ hw => hw.sub (by repeat (first | exact List.Sublist.slnil | exact List.Sublist.refl _ | apply List.Sublist.cons_cons | apply List.Sublist.cons))) ?_
          refine a_one 5 (by kernel_rfl) rfl rfl ?_
          refine x_call0 (v := .tuple #[intsV x, .agg (resCells c g).toArray]) rfl rfl rfl Try.call37 rfl (fun w hw => hcall w hw.off) ?_
          refine a_and (fun _ hw => hw.sub (by repeat (first | exact List.Sublist.slnil | exact List.Sublist.refl _ | apply List.Sublist.cons_cons | apply List.Sublist.cons))) ?_
          refine a_take 6 pan_cx (by kernel_rfl) (fun _ hw => hw.sub (by repeat (first | exact List.Sublist.slnil | exact List.Sublist.refl _ | apply List.Sublist.cons_cons | apply List.Sublist.cons))) rfl (by kernel_rfl) (by kernel_rfl) (v_move rfl) rfl ?_
          refine a_take 7 pan_cx (by kernel_rfl) (fun _ hw => hw.sub (by repeat (first | exact List.Sublist.slnil | exact List.Sublist.refl _ | apply List.Sublist.cons_cons | apply List.Sublist.cons))) rfl (by kernel_rfl) (by kernel_rfl) (v_extract rfl rfl) rfl ?_
          refine a_take 8 pan_cx (by kernel_rfl) (fun _ hw => hw.sub (by repeat (first | exact List.Sublist.slnil | exact List.Sublist.refl _ | apply List.Sublist.cons_cons | apply List.Sublist.cons))) rfl (by kernel_rfl) (by kernel_rfl) (v_extract rfl rfl) rfl ?_
          refine a_one 11 (by kernel_rfl) rfl rfl ?_
          refine x_storeA 1 rfl rfl rfl Try.hi23 (Try.cz23.trans (by simp [Value.cells, intsV, resCells, intCells, hs0, hs, hx10, hg4])) (by simp [Value.cells, intsV, resCells, intCells, hs0, hs, hx10, hg4]) (by first | exact one_intCells _ | exact one_resCells _ _) ?_
          refine a_and (fun _ hw => hw.sub (by repeat (first | exact List.Sublist.slnil | exact List.Sublist.refl _ | apply List.Sublist.cons_cons | apply List.Sublist.cons))) ?_
          refine a_one 12 (by kernel_rfl) rfl rfl ?_
          refine x_storeA 0 rfl rfl rfl Try.hi30 (Try.cz30.trans (by simp [Value.cells, intsV, resCells, intCells, hs0, hs, hx10, hg4])) (by simp [Value.cells, intsV, resCells, intCells, hs0, hs, hx10, hg4]) (by first | exact one_intCells _ | exact one_resCells _ _) ?_
          refine a_and (fun _ hw => hw.sub (by repeat (first | exact List.Sublist.slnil | exact List.Sublist.refl _ | apply List.Sublist.cons_cons | apply List.Sublist.cons))) ?_
          refine a_done (by kernel_rfl) ?_
          exact e_cutEnd (b8, b9) trivial (by repeat (first | exact Sub.nil _ | refine Sub.cons rfl ?_)) (fun _ hw => by first | exact hw | exact hw.perm (.swap _ _ _))
      · refine a_op rfl rfl ?_
        refine x_alloc (z := .agg #[.int .i64 0, .int .i64 0, .int .i64 0, .int .i64 0, .int .i64 0]) (by intro w; exact Try.zeroValue30 w) rfl (fun b9 => ?_)
        refine a_and (fun _ hw => hw.sub (by repeat (first | exact List.Sublist.slnil | exact List.Sublist.refl _ | apply List.Sublist.cons_cons | apply List.Sublist.cons))) ?_
        refine a_all [5, 9] (by kernel_rfl) rfl ?_
        intro i hi
        simp only [List.mem_cons, List.not_mem_nil, or_false] at hi
        rcases hi with rfl | rfl
        · refine a_op rfl rfl ?_
          refine x_call0 (v := .tuple #[intsV x, .agg (resCells c g).toArray]) rfl rfl rfl Try.call37 rfl (fun w hw => hcall w hw.off) ?_
          refine a_and (fun _ hw => hw.sub (by repeat (first | exact List.Sublist.slnil | exact List.Sublist.refl _ | apply List.Sublist.cons_cons | apply List.Sublist.cons))) ?_
          refine a_take 6 pan_cx (by kernel_rfl) (fun _ hw => hw.sub (by repeat (first | exact List.Sublist.slnil | exact List.Sublist.refl _ | apply List.Sublist.cons_cons | apply List.Sublist.cons))) rfl (by kernel_rfl) (by kernel_rfl) (v_move rfl) rfl ?_
          refine a_take 7 pan_cx (by kernel_rfl) (fun _ hw => hw.sub (by repeat (first | exact List.Sublist.slnil | exact List.Sublist.refl _ | apply List.Sublist.cons_cons | apply List.Sublist.cons))) rfl (by kernel_rfl) (by kernel_rfl) (v_extract rfl rfl) rfl ?_
          refine a_take 8 pan_cx (by kernel_rfl) (fun _ hw => hw.sub (by repeat (first | exact List.Sublist.slnil | exact List.Sublist.refl _ | apply List.Sublist.cons_cons | apply List.Sublist.cons))) rfl (by kernel_rfl) (by kernel_rfl) (v_extract rfl rfl) rfl ?_
          refine a_one 9 (by kernel_rfl) rfl rfl ?_
          refine x_alloc (z := .agg #[.int .i64 0, .int .i64 0, .int .i64 0, .int .i64 0, .int .i64 0, .int .i64 0, .int .i64 0, .int .i64 0, .int .i64 0, .int .i64 0]) (by intro w; exact Try.zeroValue23 w) rfl (fun b8 => ?_)
          refine a_and (fun _ hw => hw.sub (by repeat (first | exact List.Sublist.slnil | exact List.Sublist.refl _ | apply List.Sublist.cons_cons | apply List.Sublist.cons))) ?_
          refine a_one 11 (by kernel_rfl) rfl rfl ?_
          refine x_storeA 0 rfl rfl rfl Try.hi23 (Try.cz23.trans (by simp [Value.cells, intsV, resCells, intCells, hs0, hs, hx10, hg4])) (by simp [Value.cells, intsV, resCells, intCells, hs0, hs, hx10, hg4]) (by first | exact one_intCells _ | exact one_resCells _ _) ?_
          refine a_and (fun _ hw => hw.sub (by repeat (first | exact List.Sublist.slnil | exact List.Sublist.refl _ | apply List.Sublist.cons_cons | apply List.Sublist.cons))) ?_
          refine a_one 12 (by kernel_rfl) rfl rfl ?_
          refine x_storeA 1 rfl rfl rfl Try.hi30 (Try.cz30.trans (by simp [Value.cells, intsV, resCells, intCells, hs0, hs, hx10, hg4])) (by simp [Value.cells, intsV, resCells, intCells, hs0, hs, hx10, hg4]) (by first | exact one_intCells _ | exact one_resCells _ _) ?_
          refine a_and (fun _ hw => hw.sub (by repeat (first | exact List.Sublist.slnil | exact List.Sublist.refl _ | apply List.Sublist.cons_cons | apply List.Sublist.cons))) ?_
          refine a_done (by kernel_rfl) ?_
          exact e_cutEnd (b8, b9) trivial (by repeat (first | exact Sub.nil _ | refine Sub.cons rfl ?_)) (fun _ hw => by first | exact hw | exact hw.perm (.swap _ _ _))
        · refine a_op rfl rfl ?_
          refine x_alloc (z := .agg #[.int .i64 0, .int .i64 0, .int .i64 0, .int .i64 0, .int .i64 0, .int .i64 0, .int .i64 0, .int .i64 0, .int .i64 0, .int .i64 0]) (by intro w; exact Try.zeroValue23 w) rfl (fun b8 => ?_)
          refine a_and (fun _ hw => hw.sub (by repeat (first | exact List.Sublist.slnil | exact List.Sublist.refl _ | apply List.Sublist.cons_cons | apply List.Sublist.cons))) ?_
          refine a_one 5 (by kernel_rfl) rfl rfl ?_
          refine x_call0 (v := .tuple #[intsV x, .agg (resCells c g).toArray]) rfl rfl rfl Try.call37 rfl (fun w hw => hcall w hw.off) ?_
          refine a_and (fun _ hw => hw.sub (by repeat (first | exact List.Sublist.slnil | exact List.Sublist.refl _ | apply List.Sublist.cons_cons | apply List.Sublist.cons))) ?_
          refine a_take 6 pan_cx (by kernel_rfl) (fun _ hw => hw.sub (by repeat (first | exact List.Sublist.slnil | exact List.Sublist.refl _ | apply List.Sublist.cons_cons | apply List.Sublist.cons))) rfl (by kernel_rfl) (by kernel_rfl) (v_move rfl) rfl ?_
          refine a_take 7 pan_cx (by kernel_rfl) (fun _ hw => hw.sub (by repeat (first | exact List.Sublist.slnil | exact List.Sublist.refl _ | apply List.Sublist.cons_cons | apply List.Sublist.cons))) rfl (by kernel_rfl) (by kernel_rfl) (v_extract rfl rfl) rfl ?_
          refine a_take 8 pan_cx (by kernel_rfl) (fun _ hw => hw.sub (by repeat (first | exact List.Sublist.slnil | exact List.Sublist.refl _ | apply List.Sublist.cons_cons | apply List.Sublist.cons))) rfl (by kernel_rfl) (by kernel_rfl) (v_extract rfl rfl) rfl ?_
          refine a_one 11 (by kernel_rfl) rfl rfl ?_
          refine x_storeA 0 rfl rfl rfl Try.hi23 (Try.cz23.trans (by simp [Value.cells, intsV, resCells, intCells, hs0, hs, hx10, hg4])) (by simp [Value.cells, intsV, resCells, intCells, hs0, hs, hx10, hg4]) (by first | exact one_intCells _ | exact one_resCells _ _) ?_
          refine a_and (fun _ hw => hw.sub (by repeat (first | exact List.Sublist.slnil | exact List.Sublist.refl _ | apply List.Sublist.cons_cons | apply List.Sublist.cons))) ?_
          refine a_one 12 (by kernel_rfl) rfl rfl ?_
          refine x_storeA 1 rfl rfl rfl Try.hi30 (Try.cz30.trans (by simp [Value.cells, intsV, resCells, intCells, hs0, hs, hx10, hg4])) (by simp [Value.cells, intsV, resCells, intCells, hs0, hs, hx10, hg4]) (by first | exact one_intCells _ | exact one_resCells _ _) ?_
          refine a_and (fun _ hw => hw.sub (by repeat (first | exact List.Sublist.slnil | exact List.Sublist.refl _ | apply List.Sublist.cons_cons | apply List.Sublist.cons))) ?_
          refine a_done (by kernel_rfl) ?_
          exact e_cutEnd (b8, b9) trivial (by repeat (first | exact Sub.nil _ | refine Sub.cons rfl ?_)) (fun _ hw => by first | exact hw | exact hw.perm (.swap _ _ _))
    · rintro ⟨b8, b9⟩ -
      dsimp only
      obtain ⟨g0, g1, g2, g3, rfl⟩ := list4 hg4
      refine e_seq ?_
      refine e_region ?_
      refine w_val (v_loadBA 0 rfl Try.underlying23 rfl Try.hi23 (Try.cz23.trans (by simp [Value.cells, intsV, resCells, intCells, hs0, hs, hx10, hg4])) rfl) rfl ?_
      refine w_op rfl ?_
      refine x_storeA 4 rfl rfl rfl Try.hi23 (Try.cz23.trans (by simp [Value.cells, intsV, resCells, intCells, hs0, hs, hx10, hg4])) (by simp [Value.cells, intsV, resCells, intCells, hs0, hs, hx10, hg4]) (by first | exact one_intCells _ | exact one_resCells _ _) ?_
      refine w_nil ?_
      refine e_region ?_
      refine w_val (v_move rfl) rfl ?_
      refine w_val (v_loadBA 1 rfl Try.underlying30 rfl Try.hi30 Try.cz30 rfl) rfl ?_
      refine w_op rfl ?_
      refine x_buildSlice _ (resCells c [g0, g1, g2, g3]) rfl (run_buildSlice Try.underlying57 Try.hi30 Try.cz30 Try.zeroValue30 rfl (by kernel_rfl)) rfl (fun b28 => ?_)
      refine w_op rfl ?_
      refine x_appendI (z := .agg #[.int .i64 0, .int .i64 0, .int .i64 0, .int .i64 0, .int .i64 0]) (n := rs.length) (xs := resL rs) (size := 5) (bytes := 40) (k := 1) (news := resCells c [g0, g1, g2, g3]) 3 rfl rfl rfl Try.underlying57 (by kernel_rfl) rfl (by decide) (fun w hw => blk_rds (hw.hold _ (List.mem_cons_self ..)) rfl) (by intro u hu; exact one_resCells c [g0, g1, g2, g3] u (by simpa using hu)) (by omega) (by simp only [maxLen]; omega) rfl (fun sl' => ?_)
      refine w_val (v_assign rfl) rfl ?_
      refine w_nil ?_
      refine e_blk ?_
      refine e_region ?_
      refine w_val (v_move rfl) rfl ?_
      refine w_val (v_add rfl rfl (by omega)) rfl ?_
      refine w_val (v_assign rfl) rfl ?_
      refine w_nil ?_
      refine e_round ((k + 1, x, rs ++ [(c, [g0, g1, g2, g3])], sl')) (⟨by dsimp only; omega, hx10, by simp [hrs], by rw [← hrun]; simp⟩) (by dsimp only; omega) (by repeat (first | exact Sub.nil _ | refine Sub.cons rfl ?_)) (fun _ hw => ?_)
      have h1 : resL (rs ++ [(c, [g0, g1, g2, g3])]) = resL rs ++ resCells c [g0, g1, g2, g3] := by rw [resL_app, resL_one]
      have h2 : (rs ++ [(c, [g0, g1, g2, g3])]).length = rs.length + 1 := by simp
      dsimp only
      rw [h1, h2]
      exact hw.sub (.cons _ (.cons _ (.cons _ (List.Sublist.refl _))))
  · obtain rfl : k = r.length := by omega
    have e0 : allL s (r.drop r.length) = (s, []) := by rw [List.drop_length]; rfl
    rw [e0] at hrun
    simp only [List.append_nil] at hrun
    subst hrun
    refine e_exit rfl ?_
    refine e_seq ?_
    refine e_region ?_
    refine w_val (v_loadBA 2 rfl Try.underlying23 rfl Try.hi23 (Try.cz23.trans (by simp [Value.cells, intsV, resCells, intCells, hs0, hs, zero10_len])) rfl) rfl ?_
    refine w_val (v_move rfl) rfl ?_
    refine w_op rfl ?_
    refine x_storeA 1 rfl rfl rfl Try.hi23 (Try.cz23.trans (by simp [Value.cells, intsV, resCells, intCells, hs0, hs, zero10_len])) (by simp [Value.cells, intsV, resCells, intCells, hs0, hs, zero10_len]) (by first | exact one_intCells _ | exact one_resCells _ _) ?_
    refine w_val (v_assign rfl) rfl ?_
    refine w_nil ?_
    refine e_retQ (q_ret2 rfl (ResV.agg 1 rfl rfl (by rw [isAggD, Try.underlying23]; rfl) (Try.cz23.trans (by simp [intCells, hs])) Try.hi23) (.tmp rfl) ?_)
    exact fun w' hw' => ⟨sl, trivial, rfl, hw'.res.sub (.cons_cons _ (List.nil_sublist _))⟩
theorem resL_at : ∀ {a : ResL}, (∀ x ∈ a, x.2.length = 4) → ∀ {k : Nat} (hk : k < a.length) (j : Nat) (v : Value), (resCells a[k].1 a[k].2)[j]? = some v → (resL a)[k * 5 + j]? = some v
  | [], _, k, hk, _, _, _ => by simp at hk
  | x :: a, ha, 0, hk, j, v, hj => by
    have h4 := ha x (by simp)
    simp only [List.getElem_cons_zero] at hj
    simp only [resL, List.flatMap_cons, Nat.zero_mul, Nat.zero_add]
    rw [List.getElem?_append_left (List.getElem?_eq_some_iff.1 hj).1]
    exact hj
  | x :: a, ha, k + 1, hk, j, v, hj => by
    have h4 := ha x (by simp)
    have hl : (resCells x.1 x.2).length = 5 := by simp [resCells, intCells, h4]
    have := resL_at (a := a) (fun y hy => ha y (by simp [hy])) (k := k) (by simpa using hk) j v (by simpa using hj)
    simp only [resL, List.flatMap_cons]
    rw [List.getElem?_append_right (by rw [hl]; omega), hl, show (k + 1) * 5 + j - 5 = k * 5 + j from by omega]
    exact this
theorem resL_cells {c : View} {ad : Addr} {a : ResL} (ha : ∀ x ∈ a, x.2.length = 4) (h : Cells c ad (resL a)) {k : Nat} (hk : k < a.length) : Cells c (ad.add (k * 5)) (resCells a[k].1 a[k].2) := by
  intro j v hj
  rw [add_add]
  exact h _ _ (resL_at ha hk j v hj)
theorem sameResults_spec (v1 v2 : Value) (a b : ResL) (w : World) (h1 : Rds w.cell? v1 5 a.length (resL a)) (h2 : Rds w.cell? v2 5 b.length (resL b)) (ha : ∀ x ∈ a, x.2.length = 4) (hb : ∀ x ∈ b, x.2.length = 4) (hmax : a.length ≤ 4398046511104) :
    Calls Try.prog 30 #[v1, v2] w fun e w' => e = .returned (.bool (decide (a = b))) ∧ Res w [] [] w' := by
  rw [← off_none w] at h1 h2
  obtain ⟨A1, k1, rfl, hle1, _, hc1⟩ := h1
  obtain ⟨A2, k2, rfl, hle2, _, hc2⟩ := h2
  refine enter0 (N := 26) Try.func30 rfl rfl rfl ?_
  refine e_seq ?_
  refine e_region ?_
  refine w_val (v_assign rfl) rfl ?_
  refine w_nil ?_
  refine e_seq ?_
  refine e_seq ?_
  refine e_region ?_
  refine w_val (v_move rfl) rfl ?_
  refine w_val (v_lenS Try.underlying57 rfl) rfl ?_
  refine w_val (v_move rfl) rfl ?_
  refine w_val (v_lenS Try.underlying57 rfl) rfl ?_
  refine w_val (v_neq rfl rfl) rfl ?_
  refine w_nil ?_
  refine e_condD rfl (fun hl => ?_) (fun hl => ?_)
  · refine e_seq ?_
    refine e_region ?_
    refine w_val (v_assign rfl) rfl ?_
    refine w_nil ?_
    refine e_retQ (q_ret1 rfl (.tmp rfl) ?_)
    exact fun w' hw' => ⟨by rw [decide_eq_false (fun h => hl (by rw [h]))], hw'.res.nil⟩
  · have hl' : a.length = b.length := by omega
    refine e_skip ?_
    refine e_seq ?_
    refine e_seq ?_
    refine e_region ?_
    refine w_val (v_assign rfl) rfl ?_
    refine w_nil ?_
    refine e_block ?_
    refine e_loopK (σ := Nat) [0, 1] (.cons rfl (.cons rfl .nil)) (fun k => [(5, .int .i64 k)]) (fun k => k ≤ a.length ∧ a.take k = b.take k) (fun k => a.length - k) 0 ⟨by omega, rfl⟩ (by repeat (first | exact Sub.nil _ | refine Sub.cons rfl ?_)) ?_
    rintro k ⟨hk, hsame⟩
    refine e_seq ?_
    refine e_seq ?_
    refine e_region ?_
    refine w_val (v_move rfl) rfl ?_
    refine w_val (v_move rfl) rfl ?_
    refine w_val (v_lenS Try.underlying57 rfl) rfl ?_
    refine w_val (v_lss rfl rfl) rfl ?_
    refine w_nil ?_
    refine e_condD rfl (fun hlt => ?_) (fun hlt => ?_)
    · have hlt' : k < a.length := by omega
      obtain ⟨ad1, rfl, hcl1⟩ := hc1 (by omega)
      obtain ⟨ad2, rfl, hcl2⟩ := hc2 (by omega)
      have hop1 := resL_cells ha hcl1 hlt'
      have hop2 := resL_cells hb hcl2 (show k < b.length by omega)
      have hg1 := ha a[k] (List.getElem_mem _)
      have hg2 := hb (b[k]'(by omega)) (List.getElem_mem _)
      have ht1 : a.take (k + 1) = a.take k ++ [a[k]] := List.take_succ_eq_append_getElem hlt'
      have ht2 : b.take (k + 1) = b.take k ++ [b[k]'(by omega)] := List.take_succ_eq_append_getElem (by omega)
      have hne : a[k] ≠ b[k]'(by omega) → a ≠ b := fun h he => h (by subst he; rfl)
      generalize a[k] = x1 at *
      generalize (b[k]'(by omega)) = x2 at *
      obtain ⟨c1, g1⟩ := x1
      obtain ⟨c2, g2⟩ := x2
      dsimp only at hg1 hg2 hop1 hop2
      have hgg1 := hg1
      have hgg2 := hg2
      obtain ⟨p0, p1, p2, p3, rfl⟩ := list4 hg1
      obtain ⟨q0, q1, q2, q3, rfl⟩ := list4 hg2
      refine e_skip ?_
      refine e_seq ?_
      refine e_block ?_
      refine e_seq ?_
      refine e_draw ([]) Try.mixed ?_
      refine a_take 0 pan_cx (by kernel_rfl) (fun _ hw => hw.sub (by repeat (first | exact List.Sublist.slnil | exact List.Sublist.refl _ | apply List.Sublist.cons_cons | apply List.Sublist.cons))) rfl (by kernel_rfl) (by kernel_rfl) (v_move rfl) rfl ?_
      refine a_take 1 pan_cx (by kernel_rfl) (fun _ hw => hw.sub (by repeat (first | exact List.Sublist.slnil | exact List.Sublist.refl _ | apply List.Sublist.cons_cons | apply List.Sublist.cons))) rfl (by kernel_rfl) (by kernel_rfl) (v_move rfl) rfl ?_
      refine a_take 2 pan_cx (by kernel_rfl) (fun _ hw => hw.sub (by repeat (first | exact List.Sublist.slnil | exact List.Sublist.refl _ | apply List.Sublist.cons_cons | apply List.Sublist.cons))) rfl (by kernel_rfl) (by kernel_rfl) (v_indexS Try.underlying57 Try.hi30 Try.cz30 rfl rfl (by first | omega | decide)) rfl ?_
      refine a_take 3 pan_cx (by kernel_rfl) (fun _ hw => hw.sub (by repeat (first | exact List.Sublist.slnil | exact List.Sublist.refl _ | apply List.Sublist.cons_cons | apply List.Sublist.cons))) rfl (by kernel_rfl) (by kernel_rfl) (v_loadON Try.underlying30 rfl Try.hi30 rfl (hop1) Try.cz30) rfl ?_
      refine a_take 4 pan_cx (by kernel_rfl) (fun _ hw => hw.sub (by repeat (first | exact List.Sublist.slnil | exact List.Sublist.refl _ | apply List.Sublist.cons_cons | apply List.Sublist.cons))) rfl (by kernel_rfl) (by kernel_rfl) (v_move rfl) rfl ?_
      refine a_take 5 pan_cx (by kernel_rfl) (fun _ hw => hw.sub (by repeat (first | exact List.Sublist.slnil | exact List.Sublist.refl _ | apply List.Sublist.cons_cons | apply List.Sublist.cons))) rfl (by kernel_rfl) (by kernel_rfl) (v_move rfl) rfl ?_
      refine a_take 6 pan_cx (by kernel_rfl) (fun _ hw => hw.sub (by repeat (first | exact List.Sublist.slnil | exact List.Sublist.refl _ | apply List.Sublist.cons_cons | apply List.Sublist.cons))) rfl (by kernel_rfl) (by kernel_rfl) (v_indexS Try.underlying57 Try.hi30 Try.cz30 rfl rfl (by first | omega | decide)) rfl ?_
      refine a_take 7 pan_cx (by kernel_rfl) (fun _ hw => hw.sub (by repeat (first | exact List.Sublist.slnil | exact List.Sublist.refl _ | apply List.Sublist.cons_cons | apply List.Sublist.cons))) rfl (by kernel_rfl) (by kernel_rfl) (v_loadON Try.underlying30 rfl Try.hi30 rfl (hop2) Try.cz30) rfl ?_
      refine a_take 8 pan_cx (by kernel_rfl) (fun _ hw => hw.sub (by repeat (first | exact List.Sublist.slnil | exact List.Sublist.refl _ | apply List.Sublist.cons_cons | apply List.Sublist.cons))) rfl (by kernel_rfl) (by kernel_rfl) (v_neqRes Try.underlying30 (by kernel_rfl) (by kernel_rfl) (by kernel_rfl) rfl rfl Try.underlying3 Try.underlying28 Try.underlying2 Try.hi2 Try.cz2 Try.hi28 Try.cz28 (by first | rfl | assumption | (simp; omega)) (by first | rfl | assumption | (simp; omega)) rfl rfl) rfl ?_
      refine a_done (by kernel_rfl) ?_
      refine e_condD rfl (fun hd => ?_) (fun hd => ?_)
      · refine e_seq ?_
        refine e_region ?_
        refine w_val (v_assign rfl) rfl ?_
        refine w_nil ?_
        refine e_retQ (q_ret1 rfl (.tmp rfl) ?_)
        exact fun w' hw' => ⟨by rw [decide_eq_false (hne (fun h => hd (by simpa using h)))], hw'.res.nil⟩
      · refine e_skip ?_
        refine e_blk ?_
        refine e_region ?_
        refine w_val (v_move rfl) rfl ?_
        refine w_val (v_add rfl rfl (by omega)) rfl ?_
        refine w_val (v_assign rfl) rfl ?_
        refine w_nil ?_
        exact e_round (k + 1) (⟨by omega, by rw [ht1, ht2, hsame]; simp only [Decidable.not_not] at hd; rw [hd.1, hd.2]⟩) (by omega) (by repeat (first | exact Sub.nil _ | refine Sub.cons rfl ?_)) (fun _ hw => hw)
    · have hab : a = b := by
        have e : k = a.length := by omega
        rw [e, List.take_length, hl', List.take_length] at hsame
        exact hsame
      refine e_exit rfl ?_
      refine e_seq ?_
      refine e_region ?_
      refine w_val (v_assign rfl) rfl ?_
      refine w_nil ?_
      refine e_retQ (q_ret1 rfl (.tmp rfl) ?_)
      exact fun w' hw' => ⟨by rw [decide_eq_true hab], hw'.res.nil⟩
end Go.SL
end
