/- Ytebdkaadbakhlac: part U1 of this seat's own texts. -/
import Derived.Test.YtebdkaadbakhlacW2
import Derived.Test.YtebdkaadbakhlacP1
import Derived.Test.YtebdkaadbakhlacSerM
import Derived.Test.YtebdkaadbakhlacP2
set_option linter.unusedVariables false
set_option linter.unusedSimpArgs false
section

open Go Go.Proofs Go.SL
set_option maxRecDepth 100000
namespace Go.SL
theorem runL_step {ar : Int → Int → Int → Int} {d : DeedL} {k : Nat} {g s : List Int} {R : Bool × List Int × List Int} (h : k < d.length) (hr : runL ar (d.drop k) g s = R) {o : OpL} (ho : d[k] = o) {g' s' : List Int} {j : Nat} (hs : stepL ar o g s = some (g', s', j)) :
    runL ar (d.drop (k + 1 + j)) g' s' = R := by
  rw [← hr, runL_at ar h, ho, hs]
theorem runL_stop {ar : Int → Int → Int → Int} {d : DeedL} {k : Nat} {g s : List Int} {R : Bool × List Int × List Int} (h : k < d.length) (hr : runL ar (d.drop k) g s = R) {o : OpL} (ho : d[k] = o) (hs : stepL ar o g s = none) : R = (true, g, s) := by
  rw [← hr, runL_at ar h, ho, hs]
theorem refDo_spec (s0 : List Int) (v : Value) (d : DeedL) (w : World) (h : IsDeed w.cell? v d) (hs0 : s0.length = 10) (hck : (checkL d).1 = 0) : Calls Try.prog 37 #[intsV s0, v] w
    fun e w' => e = .returned (.tuple #[intsV (doL arithL s0 d).1, .agg (resCells (doL arithL s0 d).2.1 (doL arithL s0 d).2.2).toArray]) ∧ Res w [] [] w' := by
  rw [← off_none w] at h
  obtain ⟨h14, hchk⟩ := checked hck
  obtain ⟨A, kp, rfl, hle, hc⟩ := h.form
  generalize hR : runL arithL d zero4 s0 = R
  have hdo : doL arithL s0 d = if R.1 = true then (s0, 9, R.2.1) else (R.2.2, 0, R.2.1) := by rw [← hR]; rfl
  refine enter0 (N := 86) Try.func37 rfl rfl rfl ?_
  refine e_seq ?_
  refine e_region ?_
  refine w_op rfl ?_
  refine x_box rfl rfl (fun b2 => ?_)
  refine w_op rfl ?_
  refine x_alloc (z := .agg #[.int .i64 0, .int .i64 0, .int .i64 0, .int .i64 0, .int .i64 0, .int .i64 0, .int .i64 0, .int .i64 0, .int .i64 0, .int .i64 0]) (by intro w; exact Try.zeroValue23 w) rfl (fun b4 => ?_)
  refine w_op rfl ?_
  refine x_alloc (z := .agg #[.int .i64 0, .int .i64 0, .int .i64 0, .int .i64 0, .int .i64 0]) (by intro w; exact Try.zeroValue30 w) rfl (fun b5 => ?_)
  refine w_nil ?_
  refine e_seq ?_
  refine e_region ?_
  refine w_val (v_loadBA 2 rfl Try.underlying23 rfl Try.hi23 (Try.cz23.trans (by simp [Value.cells, intsV, resCells, intCells, hs0])) rfl) rfl ?_
  refine w_op rfl ?_
  refine x_alloc (z := .agg #[.int .i64 0, .int .i64 0, .int .i64 0, .int .i64 0, .int .i64 0, .int .i64 0, .int .i64 0, .int .i64 0, .int .i64 0, .int .i64 0]) (by intro w; exact Try.zeroValue23 w) rfl (fun b6 => ?_)
  refine w_op rfl ?_
  refine x_storeA 0 rfl rfl rfl Try.hi23 (Try.cz23.trans (by simp [Value.cells, intsV, resCells, intCells, hs0])) (by simp [Value.cells, intsV, resCells, intCells, hs0]) (by first | exact one_intCells _ | exact one_resCells _ _) ?_
  refine w_nil ?_
  refine e_seq ?_
  refine e_region ?_
  refine w_op rfl ?_
  refine x_alloc (z := .agg #[.int .i64 0, .int .i64 0, .int .i64 0, .int .i64 0]) (by intro w; exact Try.zeroValue28 w) rfl (fun b7 => ?_)
  refine w_nil ?_
  refine e_seq ?_
  refine e_region ?_
  refine w_val (v_assign rfl) rfl ?_
  refine w_nil ?_
  refine e_seq ?_
  refine e_block ?_
  refine e_loopH (σ := Nat × List Int × List Int) [1, 2, 4, 5, 6, 7] (.cons rfl (.cons rfl (.cons rfl (.cons rfl (.cons rfl (.cons rfl .nil)))))) (fun x => [(8, .int .i64 x.1)]) (fun x => [.blk b7 28 (intCells x.2.1), .blk b6 23 (intCells s0), .blk b5 30 (intCells [0, 0, 0, 0, 0]), .blk b4 23 (intCells [0, 0, 0, 0, 0, 0, 0, 0, 0, 0]), .blk b2 23 (intCells x.2.2)]) (fun x => x.1 ≤ d.length ∧ x.2.1.length = 4 ∧ x.2.2.length = 10 ∧ runL arithL (d.drop x.1) x.2.1 x.2.2 = R) (fun x => d.length - x.1) (0, zero4, s0) ⟨by simp, rfl, hs0, hR⟩ (by repeat (first | exact Sub.nil _ | refine Sub.cons rfl ?_)) (fun _ h => h) ?_
  rintro ⟨k, g, s⟩ ⟨hk, hg, hs, hrel⟩
  dsimp only at hk hg hs hrel ⊢
  refine e_seq ?_
  refine e_seq ?_
  refine e_region ?_
  refine w_val (v_move rfl) rfl ?_
  refine w_val (v_move rfl) rfl ?_
  refine w_val (v_lenS Try.underlying25 rfl) rfl ?_
  refine w_val (v_lss rfl rfl) rfl ?_
  refine w_nil ?_
  refine e_condD rfl (fun hlt => ?_) (fun hlt => ?_)
  · have hlt' : k < d.length := by omega
    obtain ⟨ad, rfl, hop⟩ := IsDeed.cells hc hlt'
    obtain ⟨hf, hskip⟩ := hchk k hlt'
    have hrg := rng_all hf
    have hnx := fun g' s' j => runL_step (g' := g') (s' := s') (j := j) hlt' hrel rfl
    have hst := runL_stop hlt' hrel rfl
    generalize ho : d[k] = o at *
    refine e_skip ?_
    refine e_block ?_
    refine e_seq ?_
    refine e_region ?_
    refine w_val (v_move rfl) rfl ?_
    refine w_val (v_move rfl) rfl ?_
    refine w_val (v_indexS Try.underlying25 Try.hi118 Try.cz118 rfl rfl (by first | omega | decide)) rfl ?_
    refine w_val (v_loadON Try.underlying118 rfl Try.hi118 rfl (hop) Try.cz118) rfl ?_
    refine w_op rfl ?_
    refine x_alloc (z := .agg #[.int .i64 0, .int .i64 0, .int .i64 0, .int .i64 0, .int .i64 0]) (by intro w; exact Try.zeroValue118 w) rfl (fun b9 => ?_)
    refine w_op rfl ?_
    refine x_storeA 0 rfl rfl rfl Try.hi118 Try.cz118 rfl (by first | (simp [Value.oneCell', opCells]; done) | assumption | exact one_ints _ | exact one_resCells _ _ | exact one_slotC _) ?_
    refine w_nil ?_
    refine e_seq ?_
    refine e_region ?_
    refine w_val (v_move rfl) rfl ?_
    refine w_val (v_add rfl rfl (by omega)) rfl ?_
    refine w_val (v_assign rfl) rfl ?_
    refine w_nil ?_
    refine e_seq ?_
    refine e_region ?_
    refine w_val (v_fieldAddrB (o := 0) Try.underlying118 rfl rfl Try.nz3 rfl) rfl ?_
    refine w_val (v_loadB 0 rfl Try.underlying3 rfl rfl rfl) rfl ?_
    refine w_nil ?_
    refine e_block ?_
    refine e_seq ?_
    refine e_region ?_
    refine w_val (v_eql rfl rfl) rfl ?_
    refine w_val (v_assign rfl) rfl ?_
    refine w_nil ?_
    rcases hrg with ⟨hk, ha⟩ | ⟨hk, ha⟩ | ⟨hk, ha, ha', hb⟩ | ⟨hk, ha, ha', hb⟩ | ⟨hk, ha, ha', hb⟩ | ⟨hk, ha, ha', hb, hb', hc'⟩
    · refine e_condDT rfl (by omega) ?_
      refine e_region ?_
      refine w_val (v_fieldAddrB (o := 1) Try.underlying118 rfl rfl Try.nz3 rfl) rfl ?_
      refine w_val (v_loadB 0 rfl Try.underlying3 rfl rfl rfl) rfl ?_
      refine w_val (v_fieldAddrB (o := 4) Try.underlying118 rfl rfl Try.nz2 rfl) rfl ?_
      refine w_val (v_loadB 0 rfl Try.underlying2 rfl rfl rfl) rfl ?_
      refine w_val (v_indexAB Try.underlying28 Try.hi2 Try.cz2 rfl rfl (by omega)) rfl ?_
      refine w_op rfl ?_
      refine x_store1 1 rfl rfl rfl Try.hi2 Try.cz2 rfl (by first | (simp; done) | (simp [intCells_len]; omega) | exact Nat.zero_lt_succ _) rfl ?_
      refine w_nil ?_
      refine e_blk ?_
      refine e_blk ?_
      rw [set_ints]
      exact e_round ((k + 1, st g o.a o.n, s)) (⟨by dsimp only; omega, by simp [st, hg], hs, hnx _ _ 0 (step_num _ _ _ hk)⟩) (by dsimp only; omega) (by repeat (first | exact Sub.nil _ | refine Sub.cons rfl ?_)) (fun _ hw => hw.sub (List.sublist_cons_self _ _))
    · refine e_condDF rfl (by omega) ?_
      refine e_seq ?_
      refine e_region ?_
      refine w_val (v_eql rfl rfl) rfl ?_
      refine w_val (v_assign rfl) rfl ?_
      refine w_nil ?_
      refine e_condDF rfl (by omega) ?_
      refine e_seq ?_
      refine e_region ?_
      refine w_val (v_eql rfl rfl) rfl ?_
      refine w_val (v_assign rfl) rfl ?_
      refine w_nil ?_
      refine e_condDF rfl (by omega) ?_
      refine e_seq ?_
      refine e_region ?_
      refine w_val (v_eql rfl rfl) rfl ?_
      refine w_val (v_assign rfl) rfl ?_
      refine w_nil ?_
      refine e_condDT rfl (by omega) ?_
      refine e_seq ?_
      refine e_region ?_
      refine w_val (v_fieldAddrB (o := 1) Try.underlying118 rfl rfl Try.nz3 rfl) rfl ?_
      refine w_val (v_loadB 0 rfl Try.underlying3 rfl rfl rfl) rfl ?_
      refine w_val (v_indexAB Try.underlying28 Try.hi2 Try.cz2 rfl rfl (by first | omega | decide)) rfl ?_
      refine w_val (v_loadB 1 rfl Try.underlying2 rfl rfl (ints_at g o.a (by omega) (by omega))) rfl ?_
      refine w_val (v_neq rfl rfl) rfl ?_
      refine w_nil ?_
      refine e_condD rfl (fun h8 => ?_) (fun h8 => ?_)
      · have hR' := hst (step_stop _ _ _ hk h8)
        obtain ⟨g0, g1, g2, g3, rfl⟩ := list4 hg
        refine e_seq ?_
        refine e_draw ([.blk b7 28 (intCells [g0, g1, g2, g3]), .blk b6 23 (intCells s0)]) Try.mixed ?_
        refine a_take 0 pan_cx (by kernel_rfl) (fun _ hw => hw.sub (by repeat (first | exact List.Sublist.slnil | exact List.Sublist.refl _ | apply List.Sublist.cons_cons | apply List.Sublist.cons))) rfl (by kernel_rfl) (by kernel_rfl) (v_loadBA 1 rfl Try.underlying23 rfl Try.hi23 (Try.cz23.trans (by simp [Value.cells, intsV, resCells, intCells, hs0, hg, hs])) rfl) rfl ?_
        refine a_take 1 pan_cx (by kernel_rfl) (fun _ hw => hw.sub (by repeat (first | exact List.Sublist.slnil | exact List.Sublist.refl _ | apply List.Sublist.cons_cons | apply List.Sublist.cons))) rfl (by kernel_rfl) (by kernel_rfl) (v_loadBA 0 rfl Try.underlying28 rfl Try.hi28 Try.cz28 rfl) rfl ?_
        refine a_take 2 pan_cx (by kernel_rfl) (fun _ hw => hw.sub (by repeat (first | exact List.Sublist.slnil | exact List.Sublist.refl _ | apply List.Sublist.cons_cons | apply List.Sublist.cons))) rfl (by kernel_rfl) (by kernel_rfl) (v_build _ rfl (by intro _; simp [Instr.build, Instr.fill, intCells, Try.zeroValue30, go_sem]; rfl)) rfl ?_
        refine a_one 3 (by kernel_rfl) rfl rfl ?_
        refine x_storeA 4 rfl rfl rfl Try.hi23 (Try.cz23.trans (by simp [Value.cells, intsV, resCells, intCells, hs0, hg, hs])) (by simp [Value.cells, intsV, resCells, intCells, hs0, hg, hs]) (by first | exact one_intCells _ | exact one_resCells _ _) ?_
        refine a_and (fun _ hw => hw.sub (by repeat (first | exact List.Sublist.slnil | exact List.Sublist.refl _ | apply List.Sublist.cons_cons | apply List.Sublist.cons))) ?_
        refine a_one 4 (by kernel_rfl) rfl rfl ?_
        refine x_storeA 3 rfl rfl rfl Try.hi30 Try.cz30 rfl (by first | (simp [Value.oneCell', opCells]; done) | assumption | exact one_ints _ | exact one_resCells _ _ | exact one_slotC _) ?_
        refine a_and (fun _ hw => hw.sub (by repeat (first | exact List.Sublist.slnil | exact List.Sublist.refl _ | apply List.Sublist.cons_cons | apply List.Sublist.cons))) ?_
        refine a_done (by kernel_rfl) ?_
        refine e_retQ (q_ret2 rfl (ResV.agg 4 rfl rfl (by rw [isAggD, Try.underlying23]; rfl) (Try.cz23.trans (by simp [intCells, hs0])) Try.hi23) (ResV.agg 3 rfl rfl (by rw [isAggD, Try.underlying30]; rfl) (Try.cz30.trans (by simp [intCells, hs0])) Try.hi30) ?_)
        exact fun w' hw' => ⟨by rw [hdo, hR']; rfl, hw'.res.nil⟩
      · refine e_skip ?_
        refine e_blk ?_
        refine e_blk ?_
        exact e_round ((k + 1, g, s)) (⟨by dsimp only; omega, hg, hs, hnx _ _ 0 (step_stay _ _ _ hk h8)⟩) (by dsimp only; omega) (by repeat (first | exact Sub.nil _ | refine Sub.cons rfl ?_)) (fun _ hw => hw.sub (List.sublist_cons_self _ _))
    · refine e_condDF rfl (by omega) ?_
      refine e_seq ?_
      refine e_region ?_
      refine w_val (v_eql rfl rfl) rfl ?_
      refine w_val (v_assign rfl) rfl ?_
      refine w_nil ?_
      refine e_condDT rfl (by omega) ?_
      refine e_draw ([.blk b9 118 (opCells o), .blk b2 23 (intCells s)]) Try.mixed ?_
      refine a_take 0 pan_cx (by kernel_rfl) (fun _ hw => hw.sub (by repeat (first | exact List.Sublist.slnil | exact List.Sublist.refl _ | apply List.Sublist.cons_cons | apply List.Sublist.cons))) rfl (by kernel_rfl) (by kernel_rfl) (v_fieldAddrB (o := 1) Try.underlying118 rfl rfl Try.nz3 rfl) rfl ?_
      refine a_take 1 pan_cx (by kernel_rfl) (fun _ hw => hw.sub (by repeat (first | exact List.Sublist.slnil | exact List.Sublist.refl _ | apply List.Sublist.cons_cons | apply List.Sublist.cons))) rfl (by kernel_rfl) (by kernel_rfl) (v_loadB 0 rfl Try.underlying3 rfl rfl rfl) rfl ?_
      refine a_take 2 pan_cx (by kernel_rfl) (fun _ hw => hw.sub (by repeat (first | exact List.Sublist.slnil | exact List.Sublist.refl _ | apply List.Sublist.cons_cons | apply List.Sublist.cons))) rfl (by kernel_rfl) (by kernel_rfl) (v_fieldAddrB (o := 2) Try.underlying118 rfl rfl Try.nz3 rfl) rfl ?_
      refine a_take 3 pan_cx (by kernel_rfl) (fun _ hw => hw.sub (by repeat (first | exact List.Sublist.slnil | exact List.Sublist.refl _ | apply List.Sublist.cons_cons | apply List.Sublist.cons))) rfl (by kernel_rfl) (by kernel_rfl) (v_loadB 0 rfl Try.underlying3 rfl rfl rfl) rfl ?_
      refine a_take 4 pan_cx (by kernel_rfl) (fun _ hw => hw.sub (by repeat (first | exact List.Sublist.slnil | exact List.Sublist.refl _ | apply List.Sublist.cons_cons | apply List.Sublist.cons))) rfl (by kernel_rfl) (by kernel_rfl) (v_indexAB Try.underlying23 Try.hi2 Try.cz2 rfl rfl (by first | omega | decide)) rfl ?_
      refine a_take 5 pan_cx (by kernel_rfl) (fun _ hw => hw.sub (by repeat (first | exact List.Sublist.slnil | exact List.Sublist.refl _ | apply List.Sublist.cons_cons | apply List.Sublist.cons))) rfl (by kernel_rfl) (by kernel_rfl) (v_loadB 1 rfl Try.underlying2 rfl rfl (ints_at s o.b (by omega) (by omega))) rfl ?_
      refine a_take 6 pan_cx (by kernel_rfl) (fun _ hw => hw.sub (by repeat (first | exact List.Sublist.slnil | exact List.Sublist.refl _ | apply List.Sublist.cons_cons | apply List.Sublist.cons))) rfl (by kernel_rfl) (by kernel_rfl) (v_indexAB Try.underlying28 Try.hi2 Try.cz2 rfl rfl (by first | omega | decide)) rfl ?_
      refine a_one 7 (by kernel_rfl) rfl rfl ?_
      refine x_store1 1 rfl rfl rfl Try.hi2 Try.cz2 rfl (by first | (simp; done) | (simp [intCells_len]; omega) | exact Nat.zero_lt_succ _) rfl ?_
      refine a_and (fun _ hw => hw.sub (by repeat (first | exact List.Sublist.slnil | exact List.Sublist.refl _ | apply List.Sublist.cons_cons | apply List.Sublist.cons))) ?_
      refine a_done (by kernel_rfl) ?_
      refine e_blk ?_
      refine e_blk ?_
      rw [set_ints]
      exact e_round ((k + 1, st g o.a (gt s o.b), s)) (⟨by dsimp only; omega, by simp [st, hg], hs, hnx _ _ 0 (step_load _ _ _ hk)⟩) (by dsimp only; omega) (by repeat (first | exact Sub.nil _ | refine Sub.cons rfl ?_)) (fun _ hw => hw.sub (List.sublist_cons_self _ _))
    · refine e_condDF rfl (by omega) ?_
      refine e_seq ?_
      refine e_region ?_
      refine w_val (v_eql rfl rfl) rfl ?_
      refine w_val (v_assign rfl) rfl ?_
      refine w_nil ?_
      refine e_condDF rfl (by omega) ?_
      refine e_seq ?_
      refine e_region ?_
      refine w_val (v_eql rfl rfl) rfl ?_
      refine w_val (v_assign rfl) rfl ?_
      refine w_nil ?_
      refine e_condDT rfl (by omega) ?_
      refine e_draw ([.blk b9 118 (opCells o), .blk b7 28 (intCells g)]) Try.mixed ?_
      refine a_take 0 pan_cx (by kernel_rfl) (fun _ hw => hw.sub (by repeat (first | exact List.Sublist.slnil | exact List.Sublist.refl _ | apply List.Sublist.cons_cons | apply List.Sublist.cons))) rfl (by kernel_rfl) (by kernel_rfl) (v_fieldAddrB (o := 1) Try.underlying118 rfl rfl Try.nz3 rfl) rfl ?_
      refine a_take 1 pan_cx (by kernel_rfl) (fun _ hw => hw.sub (by repeat (first | exact List.Sublist.slnil | exact List.Sublist.refl _ | apply List.Sublist.cons_cons | apply List.Sublist.cons))) rfl (by kernel_rfl) (by kernel_rfl) (v_loadB 0 rfl Try.underlying3 rfl rfl rfl) rfl ?_
      refine a_take 2 pan_cx (by kernel_rfl) (fun _ hw => hw.sub (by repeat (first | exact List.Sublist.slnil | exact List.Sublist.refl _ | apply List.Sublist.cons_cons | apply List.Sublist.cons))) rfl (by kernel_rfl) (by kernel_rfl) (v_fieldAddrB (o := 2) Try.underlying118 rfl rfl Try.nz3 rfl) rfl ?_
      refine a_take 3 pan_cx (by kernel_rfl) (fun _ hw => hw.sub (by repeat (first | exact List.Sublist.slnil | exact List.Sublist.refl _ | apply List.Sublist.cons_cons | apply List.Sublist.cons))) rfl (by kernel_rfl) (by kernel_rfl) (v_loadB 0 rfl Try.underlying3 rfl rfl rfl) rfl ?_
      refine a_take 4 pan_cx (by kernel_rfl) (fun _ hw => hw.sub (by repeat (first | exact List.Sublist.slnil | exact List.Sublist.refl _ | apply List.Sublist.cons_cons | apply List.Sublist.cons))) rfl (by kernel_rfl) (by kernel_rfl) (v_indexAB Try.underlying28 Try.hi2 Try.cz2 rfl rfl (by first | omega | decide)) rfl ?_
      refine a_take 5 pan_cx (by kernel_rfl) (fun _ hw => hw.sub (by repeat (first | exact List.Sublist.slnil | exact List.Sublist.refl _ | apply List.Sublist.cons_cons | apply List.Sublist.cons))) rfl (by kernel_rfl) (by kernel_rfl) (v_loadB 1 rfl Try.underlying2 rfl rfl (ints_at g o.b (by omega) (by omega))) rfl ?_
      refine a_take 6 pan_cx (by kernel_rfl) (fun _ hw => hw.sub (by repeat (first | exact List.Sublist.slnil | exact List.Sublist.refl _ | apply List.Sublist.cons_cons | apply List.Sublist.cons))) rfl (by kernel_rfl) (by kernel_rfl) (v_indexAB Try.underlying23 Try.hi2 Try.cz2 rfl rfl (by first | omega | decide)) rfl ?_
      refine a_one 7 (by kernel_rfl) rfl rfl ?_
      refine x_store1 5 rfl rfl rfl Try.hi2 Try.cz2 rfl (by first | (simp; done) | (simp [intCells_len]; omega) | exact Nat.zero_lt_succ _) rfl ?_
      refine a_and (fun _ hw => hw.sub (by repeat (first | exact List.Sublist.slnil | exact List.Sublist.refl _ | apply List.Sublist.cons_cons | apply List.Sublist.cons))) ?_
      refine a_done (by kernel_rfl) ?_
      refine e_blk ?_
      refine e_blk ?_
      rw [set_ints]
      exact e_round ((k + 1, g, st s o.a (gt g o.b))) (⟨by dsimp only; omega, hg, by simp [st, hs], hnx _ _ 0 (step_store _ _ _ hk)⟩) (by dsimp only; omega) (by repeat (first | exact Sub.nil _ | refine Sub.cons rfl ?_)) (fun _ hw => hw.sub (List.sublist_cons_self _ _))
    · refine e_condDF rfl (by omega) ?_
      refine e_seq ?_
      refine e_region ?_
      refine w_val (v_eql rfl rfl) rfl ?_
      refine w_val (v_assign rfl) rfl ?_
      refine w_nil ?_
      refine e_condDF rfl (by omega) ?_
      refine e_seq ?_
      refine e_region ?_
      refine w_val (v_eql rfl rfl) rfl ?_
      refine w_val (v_assign rfl) rfl ?_
      refine w_nil ?_
      refine e_condDF rfl (by omega) ?_
      refine e_seq ?_
      refine e_region ?_
      refine w_val (v_eql rfl rfl) rfl ?_
      refine w_val (v_assign rfl) rfl ?_
      refine w_nil ?_
      refine e_condDF rfl (by omega) ?_
      refine e_seq ?_
      refine e_region ?_
      refine w_val (v_eql rfl rfl) rfl ?_
      refine w_val (v_assign rfl) rfl ?_
      refine w_nil ?_
      refine e_condDT rfl (by omega) ?_
      refine e_seq ?_
      refine e_region ?_
      refine w_val (v_fieldAddrB (o := 1) Try.underlying118 rfl rfl Try.nz3 rfl) rfl ?_
      refine w_val (v_loadB 0 rfl Try.underlying3 rfl rfl rfl) rfl ?_
      refine w_val (v_indexAB Try.underlying28 Try.hi2 Try.cz2 rfl rfl (by first | omega | decide)) rfl ?_
      refine w_val (v_loadB 1 rfl Try.underlying2 rfl rfl (ints_at g o.a (by omega) (by omega))) rfl ?_
      refine w_val (v_eql rfl rfl) rfl ?_
      refine w_nil ?_
      refine e_condD rfl (fun h9 => ?_) (fun h9 => ?_)
      · refine e_region ?_
        refine w_val (v_move rfl) rfl ?_
        refine w_val (v_fieldAddrB (o := 2) Try.underlying118 rfl rfl Try.nz3 rfl) rfl ?_
        refine w_val (v_loadB 0 rfl Try.underlying3 rfl rfl rfl) rfl ?_
        refine w_val (v_add rfl rfl (by omega)) rfl ?_
        refine w_val (v_assign rfl) rfl ?_
        refine w_nil ?_
        refine e_blk ?_
        refine e_blk ?_
        rw [show ((k : Int) + 1 + o.b) = ((k + 1 + o.b.toNat : Nat) : Int) from by omega]
        exact e_round ((k + 1 + o.b.toNat, g, s)) (⟨by dsimp only; omega, hg, hs, hnx _ _ _ (step_skip _ _ _ hk h9)⟩) (by dsimp only; omega) (by repeat (first | exact Sub.nil _ | refine Sub.cons rfl ?_)) (fun _ hw => hw.sub (List.sublist_cons_self _ _))
      · refine e_skip ?_
        refine e_blk ?_
        refine e_blk ?_
        exact e_round ((k + 1, g, s)) (⟨by dsimp only; omega, hg, hs, hnx _ _ 0 (step_noskip _ _ _ hk h9)⟩) (by dsimp only; omega) (by repeat (first | exact Sub.nil _ | refine Sub.cons rfl ?_)) (fun _ hw => hw.sub (List.sublist_cons_self _ _))
    · refine e_condDF rfl (by omega) ?_
      refine e_seq ?_
      refine e_region ?_
      refine w_val (v_eql rfl rfl) rfl ?_
      refine w_val (v_assign rfl) rfl ?_
      refine w_nil ?_
      refine e_condDF rfl (by omega) ?_
      refine e_seq ?_
      refine e_region ?_
      refine w_val (v_eql rfl rfl) rfl ?_
      refine w_val (v_assign rfl) rfl ?_
      refine w_nil ?_
      refine e_condDF rfl (by omega) ?_
      refine e_seq ?_
      refine e_region ?_
      refine w_val (v_eql rfl rfl) rfl ?_
      refine w_val (v_assign rfl) rfl ?_
      refine w_nil ?_
      refine e_condDF rfl (by omega) ?_
      refine e_seq ?_
      refine e_region ?_
      refine w_val (v_eql rfl rfl) rfl ?_
      refine w_val (v_assign rfl) rfl ?_
      refine w_nil ?_
      refine e_condDF rfl (by omega) ?_
      refine e_cutH (σ := Unit) [1, 2, 4, 5, 6, 7, 8] (.cons rfl (.cons rfl (.cons rfl (.cons rfl (.cons rfl (.cons rfl (.cons rfl .nil))))))) (fun _ => []) (fun _ => [.blk b9 118 (opCells o), .blk b7 28 (intCells (st g o.a (arithL o.kind (gt g o.b) (gt g o.c)))), .blk b6 23 (intCells s0), .blk b5 30 (intCells [0, 0, 0, 0, 0]), .blk b4 23 (intCells [0, 0, 0, 0, 0, 0, 0, 0, 0, 0]), .blk b2 23 (intCells s)]) (fun _ => True) ?_ ?_
      · refine e_draw ([.blk b9 118 (opCells o)]) Try.mixed ?_
        refine a_take 0 pan_cx (by kernel_rfl) (fun _ hw => hw.sub (by repeat (first | exact List.Sublist.slnil | exact List.Sublist.refl _ | apply List.Sublist.cons_cons | apply List.Sublist.cons))) rfl (by kernel_rfl) (by kernel_rfl) (v_fieldAddrB (o := 1) Try.underlying118 rfl rfl Try.nz3 rfl) rfl ?_
        refine a_take 1 pan_cx (by kernel_rfl) (fun _ hw => hw.sub (by repeat (first | exact List.Sublist.slnil | exact List.Sublist.refl _ | apply List.Sublist.cons_cons | apply List.Sublist.cons))) rfl (by kernel_rfl) (by kernel_rfl) (v_loadB 0 rfl Try.underlying3 rfl rfl rfl) rfl ?_
        refine a_take 2 pan_cx (by kernel_rfl) (fun _ hw => hw.sub (by repeat (first | exact List.Sublist.slnil | exact List.Sublist.refl _ | apply List.Sublist.cons_cons | apply List.Sublist.cons))) rfl (by kernel_rfl) (by kernel_rfl) (v_fieldAddrB (o := 0) Try.underlying118 rfl rfl Try.nz3 rfl) rfl ?_
        refine a_take 3 pan_cx (by kernel_rfl) (fun _ hw => hw.sub (by repeat (first | exact List.Sublist.slnil | exact List.Sublist.refl _ | apply List.Sublist.cons_cons | apply List.Sublist.cons))) rfl (by kernel_rfl) (by kernel_rfl) (v_loadB 0 rfl Try.underlying3 rfl rfl rfl) rfl ?_
        refine a_take 4 pan_cx (by kernel_rfl) (fun _ hw => hw.sub (by repeat (first | exact List.Sublist.slnil | exact List.Sublist.refl _ | apply List.Sublist.cons_cons | apply List.Sublist.cons))) rfl (by kernel_rfl) (by kernel_rfl) (v_fieldAddrB (o := 2) Try.underlying118 rfl rfl Try.nz3 rfl) rfl ?_
        refine a_take 5 pan_cx (by kernel_rfl) (fun _ hw => hw.sub (by repeat (first | exact List.Sublist.slnil | exact List.Sublist.refl _ | apply List.Sublist.cons_cons | apply List.Sublist.cons))) rfl (by kernel_rfl) (by kernel_rfl) (v_loadB 0 rfl Try.underlying3 rfl rfl rfl) rfl ?_
        refine a_take 6 pan_cx (by kernel_rfl) (fun _ hw => hw.sub (by repeat (first | exact List.Sublist.slnil | exact List.Sublist.refl _ | apply List.Sublist.cons_cons | apply List.Sublist.cons))) rfl (by kernel_rfl) (by kernel_rfl) (v_indexAB Try.underlying28 Try.hi2 Try.cz2 rfl rfl (by first | omega | decide)) rfl ?_
        refine a_take 8 pan_cx (by kernel_rfl) (fun _ hw => hw.sub (by repeat (first | exact List.Sublist.slnil | exact List.Sublist.refl _ | apply List.Sublist.cons_cons | apply List.Sublist.cons))) rfl (by kernel_rfl) (by kernel_rfl) (v_fieldAddrB (o := 3) Try.underlying118 rfl rfl Try.nz3 rfl) rfl ?_
        refine a_take 9 pan_cx (by kernel_rfl) (fun _ hw => hw.sub (by repeat (first | exact List.Sublist.slnil | exact List.Sublist.refl _ | apply List.Sublist.cons_cons | apply List.Sublist.cons))) rfl (by kernel_rfl) (by kernel_rfl) (v_loadB 0 rfl Try.underlying3 rfl rfl rfl) rfl ?_
        refine a_take 10 pan_cx (by kernel_rfl) (fun _ hw => hw.sub (by repeat (first | exact List.Sublist.slnil | exact List.Sublist.refl _ | apply List.Sublist.cons_cons | apply List.Sublist.cons))) rfl (by kernel_rfl) (by kernel_rfl) (v_indexAB Try.underlying28 Try.hi2 Try.cz2 rfl rfl (by first | omega | decide)) rfl ?_
        refine a_all [7, 11] (by kernel_rfl) rfl ?_
        intro i hi
        simp only [List.mem_cons, List.not_mem_nil, or_false] at hi
        rcases hi with rfl | rfl
        · refine a_op rfl rfl ?_
          refine x_val (v_loadB 1 rfl Try.underlying2 rfl rfl (ints_at g o.b (by omega) (by omega))) rfl ?_
          refine a_and (fun _ hw => hw.sub (by repeat (first | exact List.Sublist.slnil | exact List.Sublist.refl _ | apply List.Sublist.cons_cons | apply List.Sublist.cons))) ?_
          refine a_one 11 (by kernel_rfl) rfl rfl ?_
          refine x_val (v_loadB 1 rfl Try.underlying2 rfl rfl (ints_at g o.c (by omega) (by omega))) rfl ?_
          refine a_and (fun _ hw => hw.sub (by repeat (first | exact List.Sublist.slnil | exact List.Sublist.refl _ | apply List.Sublist.cons_cons | apply List.Sublist.cons))) ?_
          refine a_one 12 (by kernel_rfl) rfl rfl ?_
          refine x_call0 (v := .int .i64 (arithL o.kind (gt g o.b) (gt g o.c))) rfl rfl rfl Try.call74 rfl (fun w hw => reckon_spec _ _ _ w) ?_
          refine a_and (fun _ hw => hw.sub (by repeat (first | exact List.Sublist.slnil | exact List.Sublist.refl _ | apply List.Sublist.cons_cons | apply List.Sublist.cons))) ?_
          refine a_take 13 pan_cx (by kernel_rfl) (fun _ hw => hw.sub (by repeat (first | exact List.Sublist.slnil | exact List.Sublist.refl _ | apply List.Sublist.cons_cons | apply List.Sublist.cons))) rfl (by kernel_rfl) (by kernel_rfl) (v_indexAB Try.underlying28 Try.hi2 Try.cz2 rfl rfl (by first | omega | decide)) rfl ?_
          refine a_one 14 (by kernel_rfl) rfl rfl ?_
          refine x_store1 1 rfl rfl rfl Try.hi2 Try.cz2 rfl (by first | (simp; done) | (simp [intCells_len]; omega) | exact Nat.zero_lt_succ _) rfl ?_
          refine a_and (fun _ hw => hw.sub (by repeat (first | exact List.Sublist.slnil | exact List.Sublist.refl _ | apply List.Sublist.cons_cons | apply List.Sublist.cons))) ?_
          refine a_done (by kernel_rfl) ?_
          rw [set_ints]
          exact e_cutEnd () trivial (by repeat (first | exact Sub.nil _ | refine Sub.cons rfl ?_)) (fun _ hw => hw)
        · refine a_op rfl rfl ?_
          refine x_val (v_loadB 1 rfl Try.underlying2 rfl rfl (ints_at g o.c (by omega) (by omega))) rfl ?_
          refine a_and (fun _ hw => hw.sub (by repeat (first | exact List.Sublist.slnil | exact List.Sublist.refl _ | apply List.Sublist.cons_cons | apply List.Sublist.cons))) ?_
          refine a_one 7 (by kernel_rfl) rfl rfl ?_
          refine x_val (v_loadB 1 rfl Try.underlying2 rfl rfl (ints_at g o.b (by omega) (by omega))) rfl ?_
          refine a_and (fun _ hw => hw.sub (by repeat (first | exact List.Sublist.slnil | exact List.Sublist.refl _ | apply List.Sublist.cons_cons | apply List.Sublist.cons))) ?_
          refine a_one 12 (by kernel_rfl) rfl rfl ?_
          refine x_call0 (v := .int .i64 (arithL o.kind (gt g o.b) (gt g o.c))) rfl rfl rfl Try.call74 rfl (fun w hw => reckon_spec _ _ _ w) ?_
          refine a_and (fun _ hw => hw.sub (by repeat (first | exact List.Sublist.slnil | exact List.Sublist.refl _ | apply List.Sublist.cons_cons | apply List.Sublist.cons))) ?_
          refine a_take 13 pan_cx (by kernel_rfl) (fun _ hw => hw.sub (by repeat (first | exact List.Sublist.slnil | exact List.Sublist.refl _ | apply List.Sublist.cons_cons | apply List.Sublist.cons))) rfl (by kernel_rfl) (by kernel_rfl) (v_indexAB Try.underlying28 Try.hi2 Try.cz2 rfl rfl (by first | omega | decide)) rfl ?_
          refine a_one 14 (by kernel_rfl) rfl rfl ?_
          refine x_store1 1 rfl rfl rfl Try.hi2 Try.cz2 rfl (by first | (simp; done) | (simp [intCells_len]; omega) | exact Nat.zero_lt_succ _) rfl ?_
          refine a_and (fun _ hw => hw.sub (by repeat (first | exact List.Sublist.slnil | exact List.Sublist.refl _ | apply List.Sublist.cons_cons | apply List.Sublist.cons))) ?_
          refine a_done (by kernel_rfl) ?_
          rw [set_ints]
          exact e_cutEnd () trivial (by repeat (first | exact Sub.nil _ | refine Sub.cons rfl ?_)) (fun _ hw => hw)
      · rintro - -
        refine e_blk ?_
        refine e_blk ?_
        exact e_round ((k + 1, st g o.a (arithL o.kind (gt g o.b) (gt g o.c)), s)) (⟨by dsimp only; omega, by simp [st, hg], hs, hnx _ _ 0 (step_ar _ _ _ hk)⟩) (by dsimp only; omega) (by repeat (first | exact Sub.nil _ | refine Sub.cons rfl ?_)) (fun _ hw => hw.sub (List.sublist_cons_self _ _))
  · have hR' : R = (false, g, s) := by rw [← hrel, runL_end _ (by omega)]
    obtain ⟨g0, g1, g2, g3, rfl⟩ := list4 hg
    refine e_exit rfl ?_
    refine e_seq ?_
    refine e_draw ([.blk b7 28 (intCells [g0, g1, g2, g3]), .blk b2 23 (intCells s)]) Try.mixed ?_
    refine a_take 0 pan_cx (by kernel_rfl) (fun _ hw => hw.sub (by repeat (first | exact List.Sublist.slnil | exact List.Sublist.refl _ | apply List.Sublist.cons_cons | apply List.Sublist.cons))) rfl (by kernel_rfl) (by kernel_rfl) (v_loadBA 1 rfl Try.underlying23 rfl Try.hi23 (Try.cz23.trans (by simp [Value.cells, intsV, resCells, intCells, hs0, hg, hs])) rfl) rfl ?_
    refine a_take 1 pan_cx (by kernel_rfl) (fun _ hw => hw.sub (by repeat (first | exact List.Sublist.slnil | exact List.Sublist.refl _ | apply List.Sublist.cons_cons | apply List.Sublist.cons))) rfl (by kernel_rfl) (by kernel_rfl) (v_loadBA 0 rfl Try.underlying28 rfl Try.hi28 Try.cz28 rfl) rfl ?_
    refine a_take 2 pan_cx (by kernel_rfl) (fun _ hw => hw.sub (by repeat (first | exact List.Sublist.slnil | exact List.Sublist.refl _ | apply List.Sublist.cons_cons | apply List.Sublist.cons))) rfl (by kernel_rfl) (by kernel_rfl) (v_build _ rfl (by intro _; simp [Instr.build, Instr.fill, intCells, Try.zeroValue30, go_sem]; rfl)) rfl ?_
    refine a_one 3 (by kernel_rfl) rfl rfl ?_
    refine x_storeA 3 rfl rfl rfl Try.hi23 (Try.cz23.trans (by simp [Value.cells, intsV, resCells, intCells, hs0, hg, hs])) (by simp [Value.cells, intsV, resCells, intCells, hs0, hg, hs]) (by first | exact one_intCells _ | exact one_resCells _ _) ?_
    refine a_and (fun _ hw => hw.sub (by repeat (first | exact List.Sublist.slnil | exact List.Sublist.refl _ | apply List.Sublist.cons_cons | apply List.Sublist.cons))) ?_
    refine a_one 4 (by kernel_rfl) rfl rfl ?_
    refine x_storeA 2 rfl rfl rfl Try.hi30 Try.cz30 rfl (by first | (simp [Value.oneCell', opCells]; done) | assumption | exact one_ints _ | exact one_resCells _ _ | exact one_slotC _) ?_
    refine a_and (fun _ hw => hw.sub (by repeat (first | exact List.Sublist.slnil | exact List.Sublist.refl _ | apply List.Sublist.cons_cons | apply List.Sublist.cons))) ?_
    refine a_done (by kernel_rfl) ?_
    refine e_retQ (q_ret2 rfl (ResV.agg 3 rfl rfl (by rw [isAggD, Try.underlying23]; rfl) (Try.cz23.trans (by simp [intCells, hs])) Try.hi23) (ResV.agg 2 rfl rfl (by rw [isAggD, Try.underlying30]; rfl) (Try.cz30.trans (by simp [intCells, hs])) Try.hi30) ?_)
    exact fun w' hw' => ⟨by rw [hdo, hR']; rfl, hw'.res.nil⟩
end Go.SL
end
section

open Go Go.Proofs Go.SL
set_option maxRecDepth 100000
namespace Go.SL
def outL (o : OpL) (g s : List Int) : Int × List Int × List Int := match stepL arithL o g s with
  | none => (0, g, s)
  | some (g', s', k) => (1 + k, g', s')
theorem outL_some {o : OpL} {g s g' s' : List Int} {k : Nat} (h : stepL arithL o g s = some (g', s', k)) : outL o g s = (1 + (k : Int), g', s') := by simp [outL, h]
theorem outL_none {o : OpL} {g s : List Int} (h : stepL arithL o g s = none) : outL o g s = (0, g, s) := by simp [outL, h]
theorem runnerOp_spec (b : Nat) (g s : List Int) (o : OpL) (hf : opFaultL o = 0) (hg : g.length = 4) (hs : s.length = 10) (w : World) (hb : (Chunk.blk b 126 (intCells (g ++ s))).holds w) :
    Calls Try.prog 66 #[.pointer (some ⟨b, 0, none⟩), opV o] w fun e w' => e = .returned (.int .i64 (outL o g s).1) ∧ Res w [.blk b 126 (intCells (g ++ s))] [.blk b 126 (intCells ((outL o g s).2.1 ++ (outL o g s).2.2))] w' := by
  have hrg := rng_all hf
  refine enter (mc := [.blk b 126 (intCells (g ++ s))]) (N := 93) Try.func66 rfl rfl rfl ?_ ?_ ?_
  · intro c hc; simp only [List.mem_singleton] at hc; subst hc; exact hb
  · simp
  refine e_seq ?_
  refine e_region ?_
  refine w_op rfl ?_
  refine x_box rfl rfl (fun b3 => ?_)
  refine w_val (v_assign rfl) rfl ?_
  refine w_nil ?_
  refine e_seq ?_
  refine e_seq ?_
  refine e_region ?_
  refine w_val (v_fieldAddrB (o := 0) Try.underlying118 rfl rfl Try.nz3 rfl) rfl ?_
  refine w_val (v_loadB 0 rfl Try.underlying3 rfl rfl rfl) rfl ?_
  refine w_nil ?_
  refine e_block ?_
  refine e_seq ?_
  refine e_region ?_
  refine w_val (v_eql rfl rfl) rfl ?_
  refine w_val (v_assign rfl) rfl ?_
  refine w_nil ?_
  rcases hrg with ⟨hk, ha⟩ | ⟨hk, ha⟩ | ⟨hk, ha, ha', hb1⟩ | ⟨hk, ha, ha', hb1⟩ | ⟨hk, ha, ha', hb1⟩ | ⟨hk, ha, ha', hb1, hb', hc'⟩
  · refine e_condDT rfl (by omega) ?_
    refine e_draw ([.blk b3 118 (opCells o)]) Try.mixed ?_
    refine a_take 0 pan_cx (by kernel_rfl) (fun _ hw => hw.sub (by repeat (first | exact List.Sublist.slnil | exact List.Sublist.refl _ | apply List.Sublist.cons_cons | apply List.Sublist.cons))) rfl (by kernel_rfl) (by kernel_rfl) (v_move rfl) rfl ?_
    refine a_take 1 pan_cx (by kernel_rfl) (fun _ hw => hw.sub (by repeat (first | exact List.Sublist.slnil | exact List.Sublist.refl _ | apply List.Sublist.cons_cons | apply List.Sublist.cons))) rfl (by kernel_rfl) (by kernel_rfl) (v_fieldAddrB (o := 1) Try.underlying118 rfl rfl Try.nz3 rfl) rfl ?_
    refine a_take 2 pan_cx (by kernel_rfl) (fun _ hw => hw.sub (by repeat (first | exact List.Sublist.slnil | exact List.Sublist.refl _ | apply List.Sublist.cons_cons | apply List.Sublist.cons))) rfl (by kernel_rfl) (by kernel_rfl) (v_loadB 0 rfl Try.underlying3 rfl rfl rfl) rfl ?_
    refine a_take 3 pan_cx (by kernel_rfl) (fun _ hw => hw.sub (by repeat (first | exact List.Sublist.slnil | exact List.Sublist.refl _ | apply List.Sublist.cons_cons | apply List.Sublist.cons))) rfl (by kernel_rfl) (by kernel_rfl) (v_fieldAddrB (o := 4) Try.underlying118 rfl rfl Try.nz2 rfl) rfl ?_
    refine a_take 4 pan_cx (by kernel_rfl) (fun _ hw => hw.sub (by repeat (first | exact List.Sublist.slnil | exact List.Sublist.refl _ | apply List.Sublist.cons_cons | apply List.Sublist.cons))) rfl (by kernel_rfl) (by kernel_rfl) (v_loadB 0 rfl Try.underlying2 rfl rfl rfl) rfl ?_
    refine a_take 5 pan_cx (by kernel_rfl) (fun _ hw => hw.sub (by repeat (first | exact List.Sublist.slnil | exact List.Sublist.refl _ | apply List.Sublist.cons_cons | apply List.Sublist.cons))) rfl (by kernel_rfl) (by kernel_rfl) (v_nilCheck rfl) rfl ?_
    refine a_take 6 pan_cx (by kernel_rfl) (fun _ hw => hw.sub (by repeat (first | exact List.Sublist.slnil | exact List.Sublist.refl _ | apply List.Sublist.cons_cons | apply List.Sublist.cons))) rfl (by kernel_rfl) (by kernel_rfl) (v_fieldAddrB (o := 0) Try.underlying126 rfl rfl Try.nz28 rfl) rfl ?_
    refine a_take 7 pan_cx (by kernel_rfl) (fun _ hw => hw.sub (by repeat (first | exact List.Sublist.slnil | exact List.Sublist.refl _ | apply List.Sublist.cons_cons | apply List.Sublist.cons))) rfl (by kernel_rfl) (by kernel_rfl) (v_indexAB Try.underlying28 Try.hi2 Try.cz2 rfl rfl (by omega)) rfl ?_
    refine a_one 8 (by kernel_rfl) rfl rfl ?_
    refine x_store1 1 rfl rfl rfl Try.hi2 Try.cz2 rfl (by first | (simp; done) | (simp [intCells_len]; omega) | exact Nat.zero_lt_succ _) rfl ?_
    refine a_and (fun _ hw => hw.sub (by repeat (first | exact List.Sublist.slnil | exact List.Sublist.refl _ | apply List.Sublist.cons_cons | apply List.Sublist.cons))) ?_
    refine a_done (by kernel_rfl) ?_
    rw [app_set0 _ _ (by omega) (by omega)]
    refine e_blk ?_
    refine e_seq ?_
    refine e_region ?_
    refine w_val (v_assign rfl) rfl ?_
    refine w_nil ?_
    refine e_retQ (q_ret1 rfl (.tmp rfl) ?_)
    exact fun w' hw' => ⟨by rw [outL_some (step_num _ _ _ hk)]; rfl, by rw [outL_some (step_num _ _ _ hk)]; exact hw'.res.sub (List.sublist_cons_self _ _)⟩
  · refine e_condDF rfl (by omega) ?_
    refine e_seq ?_
    refine e_region ?_
    refine w_val (v_eql rfl rfl) rfl ?_
    refine w_val (v_assign rfl) rfl ?_
    refine w_nil ?_
    refine e_condDF rfl (by omega) ?_
    refine e_seq ?_
    refine e_region ?_
    refine w_val (v_eql rfl rfl) rfl ?_
    refine w_val (v_assign rfl) rfl ?_
    refine w_nil ?_
    refine e_condDF rfl (by omega) ?_
    refine e_seq ?_
    refine e_region ?_
    refine w_val (v_eql rfl rfl) rfl ?_
    refine w_val (v_assign rfl) rfl ?_
    refine w_nil ?_
    refine e_condDT rfl (by omega) ?_
    refine e_seq ?_
    refine e_draw ([.blk b3 118 (opCells o), .blk b 126 (intCells (g ++ s))]) Try.mixed ?_
    refine a_take 0 pan_cx (by kernel_rfl) (fun _ hw => hw.sub (by repeat (first | exact List.Sublist.slnil | exact List.Sublist.refl _ | apply List.Sublist.cons_cons | apply List.Sublist.cons))) rfl (by kernel_rfl) (by kernel_rfl) (v_move rfl) rfl ?_
    refine a_take 1 pan_cx (by kernel_rfl) (fun _ hw => hw.sub (by repeat (first | exact List.Sublist.slnil | exact List.Sublist.refl _ | apply List.Sublist.cons_cons | apply List.Sublist.cons))) rfl (by kernel_rfl) (by kernel_rfl) (v_fieldAddrB (o := 1) Try.underlying118 rfl rfl Try.nz3 rfl) rfl ?_
    refine a_take 2 pan_cx (by kernel_rfl) (fun _ hw => hw.sub (by repeat (first | exact List.Sublist.slnil | exact List.Sublist.refl _ | apply List.Sublist.cons_cons | apply List.Sublist.cons))) rfl (by kernel_rfl) (by kernel_rfl) (v_loadB 0 rfl Try.underlying3 rfl rfl rfl) rfl ?_
    refine a_take 3 pan_cx (by kernel_rfl) (fun _ hw => hw.sub (by repeat (first | exact List.Sublist.slnil | exact List.Sublist.refl _ | apply List.Sublist.cons_cons | apply List.Sublist.cons))) rfl (by kernel_rfl) (by kernel_rfl) (v_nilCheck rfl) rfl ?_
    refine a_take 4 pan_cx (by kernel_rfl) (fun _ hw => hw.sub (by repeat (first | exact List.Sublist.slnil | exact List.Sublist.refl _ | apply List.Sublist.cons_cons | apply List.Sublist.cons))) rfl (by kernel_rfl) (by kernel_rfl) (v_fieldAddrB (o := 0) Try.underlying126 rfl rfl Try.nz28 rfl) rfl ?_
    refine a_take 5 pan_cx (by kernel_rfl) (fun _ hw => hw.sub (by repeat (first | exact List.Sublist.slnil | exact List.Sublist.refl _ | apply List.Sublist.cons_cons | apply List.Sublist.cons))) rfl (by kernel_rfl) (by kernel_rfl) (v_indexAB Try.underlying28 Try.hi2 Try.cz2 rfl rfl (by first | omega | decide)) rfl ?_
    refine a_take 6 pan_cx (by kernel_rfl) (fun _ hw => hw.sub (by repeat (first | exact List.Sublist.slnil | exact List.Sublist.refl _ | apply List.Sublist.cons_cons | apply List.Sublist.cons))) rfl (by kernel_rfl) (by kernel_rfl) (v_loadB 1 rfl Try.underlying2 rfl rfl (app_get0 o.a (by omega) (by omega))) rfl ?_
    refine a_take 7 pan_cx (by kernel_rfl) (fun _ hw => hw.sub (by repeat (first | exact List.Sublist.slnil | exact List.Sublist.refl _ | apply List.Sublist.cons_cons | apply List.Sublist.cons))) rfl (by kernel_rfl) (by kernel_rfl) (v_neq rfl rfl) rfl ?_
    refine a_done (by kernel_rfl) ?_
    refine e_condD rfl (fun h8 => ?_) (fun h8 => ?_)
    · refine e_seq ?_
      refine e_region ?_
      refine w_val (v_assign rfl) rfl ?_
      refine w_nil ?_
      refine e_retQ (q_ret1 rfl (.tmp rfl) ?_)
      exact fun w' hw' => ⟨by rw [outL_none (step_stop _ _ _ hk h8)], by rw [outL_none (step_stop _ _ _ hk h8)]; exact hw'.res.sub (List.sublist_cons_self _ _)⟩
    · refine e_skip ?_
      refine e_blk ?_
      refine e_seq ?_
      refine e_region ?_
      refine w_val (v_assign rfl) rfl ?_
      refine w_nil ?_
      refine e_retQ (q_ret1 rfl (.tmp rfl) ?_)
      exact fun w' hw' => ⟨by rw [outL_some (step_stay _ _ _ hk h8)]; rfl, by rw [outL_some (step_stay _ _ _ hk h8)]; exact hw'.res.sub (List.sublist_cons_self _ _)⟩
  · refine e_condDF rfl (by omega) ?_
    refine e_seq ?_
    refine e_region ?_
    refine w_val (v_eql rfl rfl) rfl ?_
    refine w_val (v_assign rfl) rfl ?_
    refine w_nil ?_
    refine e_condDT rfl (by omega) ?_
    refine e_draw ([.blk b3 118 (opCells o)]) Try.mixed ?_
    refine a_take 0 pan_cx (by kernel_rfl) (fun _ hw => hw.sub (by repeat (first | exact List.Sublist.slnil | exact List.Sublist.refl _ | apply List.Sublist.cons_cons | apply List.Sublist.cons))) rfl (by kernel_rfl) (by kernel_rfl) (v_move rfl) rfl ?_
    refine a_take 1 pan_cx (by kernel_rfl) (fun _ hw => hw.sub (by repeat (first | exact List.Sublist.slnil | exact List.Sublist.refl _ | apply List.Sublist.cons_cons | apply List.Sublist.cons))) rfl (by kernel_rfl) (by kernel_rfl) (v_fieldAddrB (o := 1) Try.underlying118 rfl rfl Try.nz3 rfl) rfl ?_
    refine a_take 2 pan_cx (by kernel_rfl) (fun _ hw => hw.sub (by repeat (first | exact List.Sublist.slnil | exact List.Sublist.refl _ | apply List.Sublist.cons_cons | apply List.Sublist.cons))) rfl (by kernel_rfl) (by kernel_rfl) (v_loadB 0 rfl Try.underlying3 rfl rfl rfl) rfl ?_
    refine a_take 3 pan_cx (by kernel_rfl) (fun _ hw => hw.sub (by repeat (first | exact List.Sublist.slnil | exact List.Sublist.refl _ | apply List.Sublist.cons_cons | apply List.Sublist.cons))) rfl (by kernel_rfl) (by kernel_rfl) (v_move rfl) rfl ?_
    refine a_take 4 pan_cx (by kernel_rfl) (fun _ hw => hw.sub (by repeat (first | exact List.Sublist.slnil | exact List.Sublist.refl _ | apply List.Sublist.cons_cons | apply List.Sublist.cons))) rfl (by kernel_rfl) (by kernel_rfl) (v_fieldAddrB (o := 2) Try.underlying118 rfl rfl Try.nz3 rfl) rfl ?_
    refine a_take 5 pan_cx (by kernel_rfl) (fun _ hw => hw.sub (by repeat (first | exact List.Sublist.slnil | exact List.Sublist.refl _ | apply List.Sublist.cons_cons | apply List.Sublist.cons))) rfl (by kernel_rfl) (by kernel_rfl) (v_loadB 0 rfl Try.underlying3 rfl rfl rfl) rfl ?_
    refine a_take 6 pan_cx (by kernel_rfl) (fun _ hw => hw.sub (by repeat (first | exact List.Sublist.slnil | exact List.Sublist.refl _ | apply List.Sublist.cons_cons | apply List.Sublist.cons))) rfl (by kernel_rfl) (by kernel_rfl) (v_nilCheck rfl) rfl ?_
    refine a_take 7 pan_cx (by kernel_rfl) (fun _ hw => hw.sub (by repeat (first | exact List.Sublist.slnil | exact List.Sublist.refl _ | apply List.Sublist.cons_cons | apply List.Sublist.cons))) rfl (by kernel_rfl) (by kernel_rfl) (v_fieldAddrB (o := 4) Try.underlying126 rfl rfl Try.nz23 rfl) rfl ?_
    refine a_take 8 pan_cx (by kernel_rfl) (fun _ hw => hw.sub (by repeat (first | exact List.Sublist.slnil | exact List.Sublist.refl _ | apply List.Sublist.cons_cons | apply List.Sublist.cons))) rfl (by kernel_rfl) (by kernel_rfl) (v_indexAB Try.underlying23 Try.hi2 Try.cz2 rfl rfl (by first | omega | decide)) rfl ?_
    refine a_take 10 pan_cx (by kernel_rfl) (fun _ hw => hw.sub (by repeat (first | exact List.Sublist.slnil | exact List.Sublist.refl _ | apply List.Sublist.cons_cons | apply List.Sublist.cons))) rfl (by kernel_rfl) (by kernel_rfl) (v_nilCheck rfl) rfl ?_
    refine a_take 11 pan_cx (by kernel_rfl) (fun _ hw => hw.sub (by repeat (first | exact List.Sublist.slnil | exact List.Sublist.refl _ | apply List.Sublist.cons_cons | apply List.Sublist.cons))) rfl (by kernel_rfl) (by kernel_rfl) (v_fieldAddrB (o := 0) Try.underlying126 rfl rfl Try.nz28 rfl) rfl ?_
    refine a_one 9 (by kernel_rfl) rfl rfl ?_
    refine x_val (v_loadB 1 rfl Try.underlying2 rfl rfl (app_get4 hg o.b (by omega) (by omega))) rfl ?_
    refine a_and (fun _ hw => hw.sub (by repeat (first | exact List.Sublist.slnil | exact List.Sublist.refl _ | apply List.Sublist.cons_cons | apply List.Sublist.cons))) ?_
    refine a_take 12 pan_cx (by kernel_rfl) (fun _ hw => hw.sub (by repeat (first | exact List.Sublist.slnil | exact List.Sublist.refl _ | apply List.Sublist.cons_cons | apply List.Sublist.cons))) rfl (by kernel_rfl) (by kernel_rfl) (v_indexAB Try.underlying28 Try.hi2 Try.cz2 rfl rfl (by first | omega | decide)) rfl ?_
    refine a_one 13 (by kernel_rfl) rfl rfl ?_
    refine x_store1 1 rfl rfl rfl Try.hi2 Try.cz2 rfl (by first | (simp; done) | (simp [intCells_len]; omega) | exact Nat.zero_lt_succ _) rfl ?_
    refine a_and (fun _ hw => hw.sub (by repeat (first | exact List.Sublist.slnil | exact List.Sublist.refl _ | apply List.Sublist.cons_cons | apply List.Sublist.cons))) ?_
    refine a_done (by kernel_rfl) ?_
    rw [app_set0 _ _ (by omega) (by omega)]
    refine e_blk ?_
    refine e_seq ?_
    refine e_region ?_
    refine w_val (v_assign rfl) rfl ?_
    refine w_nil ?_
    refine e_retQ (q_ret1 rfl (.tmp rfl) ?_)
    exact fun w' hw' => ⟨by rw [outL_some (step_load _ _ _ hk)]; rfl, by rw [outL_some (step_load _ _ _ hk)]; exact hw'.res.sub (List.sublist_cons_self _ _)⟩
  · refine e_condDF rfl (by omega) ?_
    refine e_seq ?_
    refine e_region ?_
    refine w_val (v_eql rfl rfl) rfl ?_
    refine w_val (v_assign rfl) rfl ?_
    refine w_nil ?_
    refine e_condDF rfl (by omega) ?_
    refine e_seq ?_
    refine e_region ?_
    refine w_val (v_eql rfl rfl) rfl ?_
    refine w_val (v_assign rfl) rfl ?_
    refine w_nil ?_
    refine e_condDT rfl (by omega) ?_
    refine e_draw ([.blk b3 118 (opCells o)]) Try.mixed ?_
    refine a_take 0 pan_cx (by kernel_rfl) (fun _ hw => hw.sub (by repeat (first | exact List.Sublist.slnil | exact List.Sublist.refl _ | apply List.Sublist.cons_cons | apply List.Sublist.cons))) rfl (by kernel_rfl) (by kernel_rfl) (v_move rfl) rfl ?_
    refine a_take 1 pan_cx (by kernel_rfl) (fun _ hw => hw.sub (by repeat (first | exact List.Sublist.slnil | exact List.Sublist.refl _ | apply List.Sublist.cons_cons | apply List.Sublist.cons))) rfl (by kernel_rfl) (by kernel_rfl) (v_fieldAddrB (o := 1) Try.underlying118 rfl rfl Try.nz3 rfl) rfl ?_
    refine a_take 2 pan_cx (by kernel_rfl) (fun _ hw => hw.sub (by repeat (first | exact List.Sublist.slnil | exact List.Sublist.refl _ | apply List.Sublist.cons_cons | apply List.Sublist.cons))) rfl (by kernel_rfl) (by kernel_rfl) (v_loadB 0 rfl Try.underlying3 rfl rfl rfl) rfl ?_
    refine a_take 3 pan_cx (by kernel_rfl) (fun _ hw => hw.sub (by repeat (first | exact List.Sublist.slnil | exact List.Sublist.refl _ | apply List.Sublist.cons_cons | apply List.Sublist.cons))) rfl (by kernel_rfl) (by kernel_rfl) (v_move rfl) rfl ?_
    refine a_take 4 pan_cx (by kernel_rfl) (fun _ hw => hw.sub (by repeat (first | exact List.Sublist.slnil | exact List.Sublist.refl _ | apply List.Sublist.cons_cons | apply List.Sublist.cons))) rfl (by kernel_rfl) (by kernel_rfl) (v_fieldAddrB (o := 2) Try.underlying118 rfl rfl Try.nz3 rfl) rfl ?_
    refine a_take 5 pan_cx (by kernel_rfl) (fun _ hw => hw.sub (by repeat (first | exact List.Sublist.slnil | exact List.Sublist.refl _ | apply List.Sublist.cons_cons | apply List.Sublist.cons))) rfl (by kernel_rfl) (by kernel_rfl) (v_loadB 0 rfl Try.underlying3 rfl rfl rfl) rfl ?_
    refine a_take 6 pan_cx (by kernel_rfl) (fun _ hw => hw.sub (by repeat (first | exact List.Sublist.slnil | exact List.Sublist.refl _ | apply List.Sublist.cons_cons | apply List.Sublist.cons))) rfl (by kernel_rfl) (by kernel_rfl) (v_nilCheck rfl) rfl ?_
    refine a_take 7 pan_cx (by kernel_rfl) (fun _ hw => hw.sub (by repeat (first | exact List.Sublist.slnil | exact List.Sublist.refl _ | apply List.Sublist.cons_cons | apply List.Sublist.cons))) rfl (by kernel_rfl) (by kernel_rfl) (v_fieldAddrB (o := 0) Try.underlying126 rfl rfl Try.nz28 rfl) rfl ?_
    refine a_take 8 pan_cx (by kernel_rfl) (fun _ hw => hw.sub (by repeat (first | exact List.Sublist.slnil | exact List.Sublist.refl _ | apply List.Sublist.cons_cons | apply List.Sublist.cons))) rfl (by kernel_rfl) (by kernel_rfl) (v_indexAB Try.underlying28 Try.hi2 Try.cz2 rfl rfl (by first | omega | decide)) rfl ?_
    refine a_take 10 pan_cx (by kernel_rfl) (fun _ hw => hw.sub (by repeat (first | exact List.Sublist.slnil | exact List.Sublist.refl _ | apply List.Sublist.cons_cons | apply List.Sublist.cons))) rfl (by kernel_rfl) (by kernel_rfl) (v_nilCheck rfl) rfl ?_
    refine a_take 11 pan_cx (by kernel_rfl) (fun _ hw => hw.sub (by repeat (first | exact List.Sublist.slnil | exact List.Sublist.refl _ | apply List.Sublist.cons_cons | apply List.Sublist.cons))) rfl (by kernel_rfl) (by kernel_rfl) (v_fieldAddrB (o := 4) Try.underlying126 rfl rfl Try.nz23 rfl) rfl ?_
    refine a_one 9 (by kernel_rfl) rfl rfl ?_
    refine x_val (v_loadB 1 rfl Try.underlying2 rfl rfl (app_get0 o.b (by omega) (by omega))) rfl ?_
    refine a_and (fun _ hw => hw.sub (by repeat (first | exact List.Sublist.slnil | exact List.Sublist.refl _ | apply List.Sublist.cons_cons | apply List.Sublist.cons))) ?_
    refine a_take 12 pan_cx (by kernel_rfl) (fun _ hw => hw.sub (by repeat (first | exact List.Sublist.slnil | exact List.Sublist.refl _ | apply List.Sublist.cons_cons | apply List.Sublist.cons))) rfl (by kernel_rfl) (by kernel_rfl) (v_indexAB Try.underlying23 Try.hi2 Try.cz2 rfl rfl (by first | omega | decide)) rfl ?_
    refine a_one 13 (by kernel_rfl) rfl rfl ?_
    refine x_store1 1 rfl rfl rfl Try.hi2 Try.cz2 rfl (by first | (simp; done) | (simp [intCells_len]; omega) | exact Nat.zero_lt_succ _) rfl ?_
    refine a_and (fun _ hw => hw.sub (by repeat (first | exact List.Sublist.slnil | exact List.Sublist.refl _ | apply List.Sublist.cons_cons | apply List.Sublist.cons))) ?_
    refine a_done (by kernel_rfl) ?_
    rw [app_set4 hg]
    refine e_blk ?_
    refine e_seq ?_
    refine e_region ?_
    refine w_val (v_assign rfl) rfl ?_
    refine w_nil ?_
    refine e_retQ (q_ret1 rfl (.tmp rfl) ?_)
    exact fun w' hw' => ⟨by rw [outL_some (step_store _ _ _ hk)]; rfl, by rw [outL_some (step_store _ _ _ hk)]; exact hw'.res.sub (List.sublist_cons_self _ _)⟩
  · refine e_condDF rfl (by omega) ?_
    refine e_seq ?_
    refine e_region ?_
    refine w_val (v_eql rfl rfl) rfl ?_
    refine w_val (v_assign rfl) rfl ?_
    refine w_nil ?_
    refine e_condDF rfl (by omega) ?_
    refine e_seq ?_
    refine e_region ?_
    refine w_val (v_eql rfl rfl) rfl ?_
    refine w_val (v_assign rfl) rfl ?_
    refine w_nil ?_
    refine e_condDF rfl (by omega) ?_
    refine e_seq ?_
    refine e_region ?_
    refine w_val (v_eql rfl rfl) rfl ?_
    refine w_val (v_assign rfl) rfl ?_
    refine w_nil ?_
    refine e_condDF rfl (by omega) ?_
    refine e_seq ?_
    refine e_region ?_
    refine w_val (v_eql rfl rfl) rfl ?_
    refine w_val (v_assign rfl) rfl ?_
    refine w_nil ?_
    refine e_condDT rfl (by omega) ?_
    refine e_seq ?_
    refine e_draw ([.blk b3 118 (opCells o), .blk b 126 (intCells (g ++ s))]) Try.mixed ?_
    refine a_take 0 pan_cx (by kernel_rfl) (fun _ hw => hw.sub (by repeat (first | exact List.Sublist.slnil | exact List.Sublist.refl _ | apply List.Sublist.cons_cons | apply List.Sublist.cons))) rfl (by kernel_rfl) (by kernel_rfl) (v_move rfl) rfl ?_
    refine a_take 1 pan_cx (by kernel_rfl) (fun _ hw => hw.sub (by repeat (first | exact List.Sublist.slnil | exact List.Sublist.refl _ | apply List.Sublist.cons_cons | apply List.Sublist.cons))) rfl (by kernel_rfl) (by kernel_rfl) (v_fieldAddrB (o := 1) Try.underlying118 rfl rfl Try.nz3 rfl) rfl ?_
    refine a_take 2 pan_cx (by kernel_rfl) (fun _ hw => hw.sub (by repeat (first | exact List.Sublist.slnil | exact List.Sublist.refl _ | apply List.Sublist.cons_cons | apply List.Sublist.cons))) rfl (by kernel_rfl) (by kernel_rfl) (v_loadB 0 rfl Try.underlying3 rfl rfl rfl) rfl ?_
    refine a_take 3 pan_cx (by kernel_rfl) (fun _ hw => hw.sub (by repeat (first | exact List.Sublist.slnil | exact List.Sublist.refl _ | apply List.Sublist.cons_cons | apply List.Sublist.cons))) rfl (by kernel_rfl) (by kernel_rfl) (v_nilCheck rfl) rfl ?_
    refine a_take 4 pan_cx (by kernel_rfl) (fun _ hw => hw.sub (by repeat (first | exact List.Sublist.slnil | exact List.Sublist.refl _ | apply List.Sublist.cons_cons | apply List.Sublist.cons))) rfl (by kernel_rfl) (by kernel_rfl) (v_fieldAddrB (o := 0) Try.underlying126 rfl rfl Try.nz28 rfl) rfl ?_
    refine a_take 5 pan_cx (by kernel_rfl) (fun _ hw => hw.sub (by repeat (first | exact List.Sublist.slnil | exact List.Sublist.refl _ | apply List.Sublist.cons_cons | apply List.Sublist.cons))) rfl (by kernel_rfl) (by kernel_rfl) (v_indexAB Try.underlying28 Try.hi2 Try.cz2 rfl rfl (by first | omega | decide)) rfl ?_
    refine a_take 6 pan_cx (by kernel_rfl) (fun _ hw => hw.sub (by repeat (first | exact List.Sublist.slnil | exact List.Sublist.refl _ | apply List.Sublist.cons_cons | apply List.Sublist.cons))) rfl (by kernel_rfl) (by kernel_rfl) (v_loadB 1 rfl Try.underlying2 rfl rfl (app_get0 o.a (by omega) (by omega))) rfl ?_
    refine a_take 7 pan_cx (by kernel_rfl) (fun _ hw => hw.sub (by repeat (first | exact List.Sublist.slnil | exact List.Sublist.refl _ | apply List.Sublist.cons_cons | apply List.Sublist.cons))) rfl (by kernel_rfl) (by kernel_rfl) (v_eql rfl rfl) rfl ?_
    refine a_done (by kernel_rfl) ?_
    refine e_condD rfl (fun h9 => ?_) (fun h9 => ?_)
    · refine e_seq ?_
      refine e_region ?_
      refine w_val (v_fieldAddrB (o := 2) Try.underlying118 rfl rfl Try.nz3 rfl) rfl ?_
      refine w_val (v_loadB 0 rfl Try.underlying3 rfl rfl rfl) rfl ?_
      refine w_val (v_add rfl rfl (by omega)) rfl ?_
      refine w_val (v_assign rfl) rfl ?_
      refine w_nil ?_
      refine e_retQ (q_ret1 rfl (.tmp rfl) ?_)
      exact fun w' hw' => ⟨by rw [outL_some (step_skip _ _ _ hk h9)]; simp only; rw [show ((o.b.toNat : Nat) : Int) = o.b from by omega], by rw [outL_some (step_skip _ _ _ hk h9)]; exact hw'.res.sub (List.sublist_cons_self _ _)⟩
    · refine e_skip ?_
      refine e_blk ?_
      refine e_seq ?_
      refine e_region ?_
      refine w_val (v_assign rfl) rfl ?_
      refine w_nil ?_
      refine e_retQ (q_ret1 rfl (.tmp rfl) ?_)
      exact fun w' hw' => ⟨by rw [outL_some (step_noskip _ _ _ hk h9)]; rfl, by rw [outL_some (step_noskip _ _ _ hk h9)]; exact hw'.res.sub (List.sublist_cons_self _ _)⟩
  · refine e_condDF rfl (by omega) ?_
    refine e_seq ?_
    refine e_region ?_
    refine w_val (v_eql rfl rfl) rfl ?_
    refine w_val (v_assign rfl) rfl ?_
    refine w_nil ?_
    refine e_condDF rfl (by omega) ?_
    refine e_seq ?_
    refine e_region ?_
    refine w_val (v_eql rfl rfl) rfl ?_
    refine w_val (v_assign rfl) rfl ?_
    refine w_nil ?_
    refine e_condDF rfl (by omega) ?_
    refine e_seq ?_
    refine e_region ?_
    refine w_val (v_eql rfl rfl) rfl ?_
    refine w_val (v_assign rfl) rfl ?_
    refine w_nil ?_
    refine e_condDF rfl (by omega) ?_
    refine e_seq ?_
    refine e_region ?_
    refine w_val (v_eql rfl rfl) rfl ?_
    refine w_val (v_assign rfl) rfl ?_
    refine w_nil ?_
    refine e_condDF rfl (by omega) ?_
    refine e_cutH (σ := Unit) [4] (.cons rfl .nil) (fun _ => []) (fun _ => [.blk b3 118 (opCells o), .blk b 126 (intCells (st g o.a (arithL o.kind (gt g o.b) (gt g o.c)) ++ s))]) (fun _ => True) ?_ ?_
    · refine e_draw ([.blk b3 118 (opCells o)]) Try.mixed ?_
      refine a_take 0 pan_cx (by kernel_rfl) (fun _ hw => hw.sub (by repeat (first | exact List.Sublist.slnil | exact List.Sublist.refl _ | apply List.Sublist.cons_cons | apply List.Sublist.cons))) rfl (by kernel_rfl) (by kernel_rfl) (v_move rfl) rfl ?_
      refine a_take 1 pan_cx (by kernel_rfl) (fun _ hw => hw.sub (by repeat (first | exact List.Sublist.slnil | exact List.Sublist.refl _ | apply List.Sublist.cons_cons | apply List.Sublist.cons))) rfl (by kernel_rfl) (by kernel_rfl) (v_fieldAddrB (o := 1) Try.underlying118 rfl rfl Try.nz3 rfl) rfl ?_
      refine a_take 2 pan_cx (by kernel_rfl) (fun _ hw => hw.sub (by repeat (first | exact List.Sublist.slnil | exact List.Sublist.refl _ | apply List.Sublist.cons_cons | apply List.Sublist.cons))) rfl (by kernel_rfl) (by kernel_rfl) (v_loadB 0 rfl Try.underlying3 rfl rfl rfl) rfl ?_
      refine a_take 3 pan_cx (by kernel_rfl) (fun _ hw => hw.sub (by repeat (first | exact List.Sublist.slnil | exact List.Sublist.refl _ | apply List.Sublist.cons_cons | apply List.Sublist.cons))) rfl (by kernel_rfl) (by kernel_rfl) (v_fieldAddrB (o := 0) Try.underlying118 rfl rfl Try.nz3 rfl) rfl ?_
      refine a_take 4 pan_cx (by kernel_rfl) (fun _ hw => hw.sub (by repeat (first | exact List.Sublist.slnil | exact List.Sublist.refl _ | apply List.Sublist.cons_cons | apply List.Sublist.cons))) rfl (by kernel_rfl) (by kernel_rfl) (v_loadB 0 rfl Try.underlying3 rfl rfl rfl) rfl ?_
      refine a_take 5 pan_cx (by kernel_rfl) (fun _ hw => hw.sub (by repeat (first | exact List.Sublist.slnil | exact List.Sublist.refl _ | apply List.Sublist.cons_cons | apply List.Sublist.cons))) rfl (by kernel_rfl) (by kernel_rfl) (v_move rfl) rfl ?_
      refine a_take 6 pan_cx (by kernel_rfl) (fun _ hw => hw.sub (by repeat (first | exact List.Sublist.slnil | exact List.Sublist.refl _ | apply List.Sublist.cons_cons | apply List.Sublist.cons))) rfl (by kernel_rfl) (by kernel_rfl) (v_fieldAddrB (o := 2) Try.underlying118 rfl rfl Try.nz3 rfl) rfl ?_
      refine a_take 7 pan_cx (by kernel_rfl) (fun _ hw => hw.sub (by repeat (first | exact List.Sublist.slnil | exact List.Sublist.refl _ | apply List.Sublist.cons_cons | apply List.Sublist.cons))) rfl (by kernel_rfl) (by kernel_rfl) (v_loadB 0 rfl Try.underlying3 rfl rfl rfl) rfl ?_
      refine a_take 8 pan_cx (by kernel_rfl) (fun _ hw => hw.sub (by repeat (first | exact List.Sublist.slnil | exact List.Sublist.refl _ | apply List.Sublist.cons_cons | apply List.Sublist.cons))) rfl (by kernel_rfl) (by kernel_rfl) (v_nilCheck rfl) rfl ?_
      refine a_take 9 pan_cx (by kernel_rfl) (fun _ hw => hw.sub (by repeat (first | exact List.Sublist.slnil | exact List.Sublist.refl _ | apply List.Sublist.cons_cons | apply List.Sublist.cons))) rfl (by kernel_rfl) (by kernel_rfl) (v_fieldAddrB (o := 0) Try.underlying126 rfl rfl Try.nz28 rfl) rfl ?_
      refine a_take 10 pan_cx (by kernel_rfl) (fun _ hw => hw.sub (by repeat (first | exact List.Sublist.slnil | exact List.Sublist.refl _ | apply List.Sublist.cons_cons | apply List.Sublist.cons))) rfl (by kernel_rfl) (by kernel_rfl) (v_indexAB Try.underlying28 Try.hi2 Try.cz2 rfl rfl (by first | omega | decide)) rfl ?_
      refine a_take 12 pan_cx (by kernel_rfl) (fun _ hw => hw.sub (by repeat (first | exact List.Sublist.slnil | exact List.Sublist.refl _ | apply List.Sublist.cons_cons | apply List.Sublist.cons))) rfl (by kernel_rfl) (by kernel_rfl) (v_move rfl) rfl ?_
      refine a_take 13 pan_cx (by kernel_rfl) (fun _ hw => hw.sub (by repeat (first | exact List.Sublist.slnil | exact List.Sublist.refl _ | apply List.Sublist.cons_cons | apply List.Sublist.cons))) rfl (by kernel_rfl) (by kernel_rfl) (v_fieldAddrB (o := 3) Try.underlying118 rfl rfl Try.nz3 rfl) rfl ?_
      refine a_take 14 pan_cx (by kernel_rfl) (fun _ hw => hw.sub (by repeat (first | exact List.Sublist.slnil | exact List.Sublist.refl _ | apply List.Sublist.cons_cons | apply List.Sublist.cons))) rfl (by kernel_rfl) (by kernel_rfl) (v_loadB 0 rfl Try.underlying3 rfl rfl rfl) rfl ?_
      refine a_take 15 pan_cx (by kernel_rfl) (fun _ hw => hw.sub (by repeat (first | exact List.Sublist.slnil | exact List.Sublist.refl _ | apply List.Sublist.cons_cons | apply List.Sublist.cons))) rfl (by kernel_rfl) (by kernel_rfl) (v_nilCheck rfl) rfl ?_
      refine a_take 16 pan_cx (by kernel_rfl) (fun _ hw => hw.sub (by repeat (first | exact List.Sublist.slnil | exact List.Sublist.refl _ | apply List.Sublist.cons_cons | apply List.Sublist.cons))) rfl (by kernel_rfl) (by kernel_rfl) (v_fieldAddrB (o := 0) Try.underlying126 rfl rfl Try.nz28 rfl) rfl ?_
      refine a_take 17 pan_cx (by kernel_rfl) (fun _ hw => hw.sub (by repeat (first | exact List.Sublist.slnil | exact List.Sublist.refl _ | apply List.Sublist.cons_cons | apply List.Sublist.cons))) rfl (by kernel_rfl) (by kernel_rfl) (v_indexAB Try.underlying28 Try.hi2 Try.cz2 rfl rfl (by first | omega | decide)) rfl ?_
      refine a_take 20 pan_cx (by kernel_rfl) (fun _ hw => hw.sub (by repeat (first | exact List.Sublist.slnil | exact List.Sublist.refl _ | apply List.Sublist.cons_cons | apply List.Sublist.cons))) rfl (by kernel_rfl) (by kernel_rfl) (v_nilCheck rfl) rfl ?_
      refine a_take 21 pan_cx (by kernel_rfl) (fun _ hw => hw.sub (by repeat (first | exact List.Sublist.slnil | exact List.Sublist.refl _ | apply List.Sublist.cons_cons | apply List.Sublist.cons))) rfl (by kernel_rfl) (by kernel_rfl) (v_fieldAddrB (o := 0) Try.underlying126 rfl rfl Try.nz28 rfl) rfl ?_
      refine a_all [11, 18] (by kernel_rfl) rfl ?_
      intro i hi
      simp only [List.mem_cons, List.not_mem_nil, or_false] at hi
      rcases hi with rfl | rfl
      · refine a_op rfl rfl ?_
        refine x_val (v_loadB 1 rfl Try.underlying2 rfl rfl (app_get0 o.b (by omega) (by omega))) rfl ?_
        refine a_and (fun _ hw => hw.sub (by repeat (first | exact List.Sublist.slnil | exact List.Sublist.refl _ | apply List.Sublist.cons_cons | apply List.Sublist.cons))) ?_
        refine a_one 18 (by kernel_rfl) rfl rfl ?_
        refine x_val (v_loadB 1 rfl Try.underlying2 rfl rfl (app_get0 o.c (by omega) (by omega))) rfl ?_
        refine a_and (fun _ hw => hw.sub (by repeat (first | exact List.Sublist.slnil | exact List.Sublist.refl _ | apply List.Sublist.cons_cons | apply List.Sublist.cons))) ?_
        refine a_one 19 (by kernel_rfl) rfl rfl ?_
        refine x_call0 (v := .int .i64 (arithL o.kind (gt g o.b) (gt g o.c))) rfl rfl rfl Try.call69 rfl (fun w hw => arith_spec _ _ _ w) ?_
        refine a_and (fun _ hw => hw.sub (by repeat (first | exact List.Sublist.slnil | exact List.Sublist.refl _ | apply List.Sublist.cons_cons | apply List.Sublist.cons))) ?_
        refine a_take 22 pan_cx (by kernel_rfl) (fun _ hw => hw.sub (by repeat (first | exact List.Sublist.slnil | exact List.Sublist.refl _ | apply List.Sublist.cons_cons | apply List.Sublist.cons))) rfl (by kernel_rfl) (by kernel_rfl) (v_indexAB Try.underlying28 Try.hi2 Try.cz2 rfl rfl (by first | omega | decide)) rfl ?_
        refine a_one 23 (by kernel_rfl) rfl rfl ?_
        refine x_store1 1 rfl rfl rfl Try.hi2 Try.cz2 rfl (by first | (simp; done) | (simp [intCells_len]; omega) | exact Nat.zero_lt_succ _) rfl ?_
        refine a_and (fun _ hw => hw.sub (by repeat (first | exact List.Sublist.slnil | exact List.Sublist.refl _ | apply List.Sublist.cons_cons | apply List.Sublist.cons))) ?_
        refine a_done (by kernel_rfl) ?_
        rw [app_set0 _ _ (by omega) (by omega)]
        exact e_cutEnd () trivial (by repeat (first | exact Sub.nil _ | refine Sub.cons rfl ?_)) (fun _ hw => hw)
      · refine a_op rfl rfl ?_
        refine x_val (v_loadB 1 rfl Try.underlying2 rfl rfl (app_get0 o.c (by omega) (by omega))) rfl ?_
        refine a_and (fun _ hw => hw.sub (by repeat (first | exact List.Sublist.slnil | exact List.Sublist.refl _ | apply List.Sublist.cons_cons | apply List.Sublist.cons))) ?_
        refine a_one 11 (by kernel_rfl) rfl rfl ?_
        refine x_val (v_loadB 1 rfl Try.underlying2 rfl rfl (app_get0 o.b (by omega) (by omega))) rfl ?_
        refine a_and (fun _ hw => hw.sub (by repeat (first | exact List.Sublist.slnil | exact List.Sublist.refl _ | apply List.Sublist.cons_cons | apply List.Sublist.cons))) ?_
        refine a_one 19 (by kernel_rfl) rfl rfl ?_
        refine x_call0 (v := .int .i64 (arithL o.kind (gt g o.b) (gt g o.c))) rfl rfl rfl Try.call69 rfl (fun w hw => arith_spec _ _ _ w) ?_
        refine a_and (fun _ hw => hw.sub (by repeat (first | exact List.Sublist.slnil | exact List.Sublist.refl _ | apply List.Sublist.cons_cons | apply List.Sublist.cons))) ?_
        refine a_take 22 pan_cx (by kernel_rfl) (fun _ hw => hw.sub (by repeat (first | exact List.Sublist.slnil | exact List.Sublist.refl _ | apply List.Sublist.cons_cons | apply List.Sublist.cons))) rfl (by kernel_rfl) (by kernel_rfl) (v_indexAB Try.underlying28 Try.hi2 Try.cz2 rfl rfl (by first | omega | decide)) rfl ?_
        refine a_one 23 (by kernel_rfl) rfl rfl ?_
        refine x_store1 1 rfl rfl rfl Try.hi2 Try.cz2 rfl (by first | (simp; done) | (simp [intCells_len]; omega) | exact Nat.zero_lt_succ _) rfl ?_
        refine a_and (fun _ hw => hw.sub (by repeat (first | exact List.Sublist.slnil | exact List.Sublist.refl _ | apply List.Sublist.cons_cons | apply List.Sublist.cons))) ?_
        refine a_done (by kernel_rfl) ?_
        rw [app_set0 _ _ (by omega) (by omega)]
        exact e_cutEnd () trivial (by repeat (first | exact Sub.nil _ | refine Sub.cons rfl ?_)) (fun _ hw => hw)
    · rintro - -
      refine e_blk ?_
      refine e_seq ?_
      refine e_region ?_
      refine w_val (v_assign rfl) rfl ?_
      refine w_nil ?_
      refine e_retQ (q_ret1 rfl (.tmp rfl) ?_)
      exact fun w' hw' => ⟨by rw [outL_some (step_ar _ _ _ hk)]; rfl, by rw [outL_some (step_ar _ _ _ hk)]; exact hw'.res.sub (List.sublist_cons_self _ _)⟩
end Go.SL
end
section

open Go Go.Proofs Go.SL
set_option maxRecDepth 100000
namespace Go.SL
def zero10 : List Int := [0, 0, 0, 0, 0, 0, 0, 0, 0, 0]
theorem step_inv {o : OpL} (hf : opFaultL o = 0) {g s g' s' : List Int} {j : Nat} (h : stepL arithL o g s = some (g', s', j)) : g'.length = g.length ∧ s'.length = s.length ∧ j ≤ 13 := by
  rcases rng_all hf with ⟨hk, ha⟩ | ⟨hk, ha⟩ | ⟨hk, ha, ha', hb1⟩ | ⟨hk, ha, ha', hb1⟩ | ⟨hk, ha, ha', hb1⟩ | ⟨hk, ha, ha', hb1, hb', hc'⟩
  · rw [step_num _ _ _ hk] at h; simp only [Option.some.injEq, Prod.mk.injEq] at h; obtain ⟨rfl, rfl, rfl⟩ := h; simp [st]
  · by_cases hz : gt g o.a ≠ 0
    · rw [step_stop _ _ _ hk hz] at h; cases h
    · rw [step_stay _ _ _ hk hz] at h; simp only [Option.some.injEq, Prod.mk.injEq] at h; obtain ⟨rfl, rfl, rfl⟩ := h; simp
  · rw [step_load _ _ _ hk] at h; simp only [Option.some.injEq, Prod.mk.injEq] at h; obtain ⟨rfl, rfl, rfl⟩ := h; simp [st]
  · rw [step_store _ _ _ hk] at h; simp only [Option.some.injEq, Prod.mk.injEq] at h; obtain ⟨rfl, rfl, rfl⟩ := h; simp [st]
  · by_cases hz : gt g o.a = 0
    · rw [step_skip _ _ _ hk hz] at h; simp only [Option.some.injEq, Prod.mk.injEq] at h; obtain ⟨rfl, rfl, rfl⟩ := h; simp; omega
    · rw [step_noskip _ _ _ hk hz] at h; simp only [Option.some.injEq, Prod.mk.injEq] at h; obtain ⟨rfl, rfl, rfl⟩ := h; simp
  · rw [step_ar _ _ _ hk] at h; simp only [Option.some.injEq, Prod.mk.injEq] at h; obtain ⟨rfl, rfl, rfl⟩ := h; simp [st]
/-- serial.Do: the state, the code of the result, its registers, the code -/
def serDoL (s : List Int) (d : DeedL) : List Int × Int × List Int × Int :=
  if (checkL d).1 ≠ 0 then (zero10, 0, zero4, (checkL d).1) else ((doL arithL s d).1, (doL arithL s d).2.1, (doL arithL s d).2.2, 0)
def serDoV (r : List Int × Int × List Int × Int) : Value := .tuple #[intsV r.1, .agg (resCells r.2.1 r.2.2.1).toArray, .int .i64 r.2.2.2]
theorem serialDo_spec (s0 : List Int) (v : Value) (d : DeedL) (w : World) (h : IsDeed w.cell? v d) (hs0 : s0.length = 10) : Calls Try.prog 16 #[intsV s0, v] w
    fun e w' => e = .returned (serDoV (serDoL s0 d)) ∧ Res w [] [] w' := by
  have hd := h
  rw [← off_none w] at h hd
  obtain ⟨A, kp, rfl, hle, hc⟩ := h.form
  refine enter0 (N := 53) Try.func16 rfl rfl rfl ?_
  refine e_seq ?_
  refine e_region ?_
  refine w_op rfl ?_
  refine x_box rfl rfl (fun b2 => ?_)
  refine w_op rfl ?_
  refine x_alloc (z := .agg #[.int .i64 0, .int .i64 0, .int .i64 0, .int .i64 0, .int .i64 0, .int .i64 0, .int .i64 0, .int .i64 0, .int .i64 0, .int .i64 0]) (by intro w; exact Try.zeroValue23 w) rfl (fun b4 => ?_)
  refine w_op rfl ?_
  refine x_alloc (z := .agg #[.int .i64 0, .int .i64 0, .int .i64 0, .int .i64 0, .int .i64 0]) (by intro w; exact Try.zeroValue30 w) rfl (fun b5 => ?_)
  refine w_val (v_assign rfl) rfl ?_
  refine w_nil ?_
  refine e_seq ?_
  refine e_seq ?_
  refine e_region ?_
  refine w_val (v_move rfl) rfl ?_
  refine w_op rfl ?_
  refine x_call0 (v := faultV (checkL d)) rfl rfl rfl Try.call65 rfl (fun w hw => check_spec _ d w (hd.mono hw.off)) ?_
  refine w_op rfl ?_
  refine x_alloc (z := .agg #[.int .i64 0, .int .i64 0]) (by intro w; exact Try.zeroValue122 w) rfl (fun b7 => ?_)
  refine w_op rfl ?_
  refine x_storeA 0 rfl rfl rfl Try.hi122 Try.cz122 rfl (by first | (simp [Value.oneCell', opCells]; done) | assumption | exact one_ints _ | exact one_resCells _ _ | exact one_slotC _) ?_
  refine w_nil ?_
  refine e_seq ?_
  refine e_region ?_
  refine w_val (v_fieldAddrB (o := 0) Try.underlying122 rfl rfl Try.nz3 rfl) rfl ?_
  refine w_val (v_loadB 0 rfl Try.underlying3 rfl rfl rfl) rfl ?_
  refine w_val (v_neq rfl rfl) rfl ?_
  refine w_nil ?_
  refine e_condD rfl (fun hck => ?_) (fun hck => ?_)
  · refine e_seq ?_
    refine e_draw ([.blk b7 122 (intCells [(checkL d).1, (checkL d).2])]) Try.mixed ?_
    refine a_take 0 pan_cx (by kernel_rfl) (fun _ hw => hw.sub (by repeat (first | exact List.Sublist.slnil | exact List.Sublist.refl _ | apply List.Sublist.cons_cons | apply List.Sublist.cons))) rfl (by kernel_rfl) (by kernel_rfl) (v_build _ rfl (by intro _; simp [Instr.build, Instr.fill, intCells, Try.zeroValue23, go_sem]; rfl)) rfl ?_
    refine a_take 1 pan_cx (by kernel_rfl) (fun _ hw => hw.sub (by repeat (first | exact List.Sublist.slnil | exact List.Sublist.refl _ | apply List.Sublist.cons_cons | apply List.Sublist.cons))) rfl (by kernel_rfl) (by kernel_rfl) (v_build _ rfl (by intro _; simp [Instr.build, Instr.fill, intCells, Try.zeroValue30, go_sem]; rfl)) rfl ?_
    refine a_take 2 pan_cx (by kernel_rfl) (fun _ hw => hw.sub (by repeat (first | exact List.Sublist.slnil | exact List.Sublist.refl _ | apply List.Sublist.cons_cons | apply List.Sublist.cons))) rfl (by kernel_rfl) (by kernel_rfl) (v_fieldAddrB (o := 0) Try.underlying122 rfl rfl Try.nz3 rfl) rfl ?_
    refine a_take 3 pan_cx (by kernel_rfl) (fun _ hw => hw.sub (by repeat (first | exact List.Sublist.slnil | exact List.Sublist.refl _ | apply List.Sublist.cons_cons | apply List.Sublist.cons))) rfl (by kernel_rfl) (by kernel_rfl) (v_loadB 0 rfl Try.underlying3 rfl rfl rfl) rfl ?_
    refine a_one 4 (by kernel_rfl) rfl rfl ?_
    refine x_storeA 2 rfl rfl rfl Try.hi23 Try.cz23 rfl (by first | (simp [Value.oneCell', opCells]; done) | assumption | exact one_ints _ | exact one_resCells _ _ | exact one_slotC _) ?_
    refine a_and (fun _ hw => hw.sub (by repeat (first | exact List.Sublist.slnil | exact List.Sublist.refl _ | apply List.Sublist.cons_cons | apply List.Sublist.cons))) ?_
    refine a_one 5 (by kernel_rfl) rfl rfl ?_
    refine x_storeA 1 rfl rfl rfl Try.hi30 Try.cz30 rfl (by first | (simp [Value.oneCell', opCells]; done) | assumption | exact one_ints _ | exact one_resCells _ _ | exact one_slotC _) ?_
    refine a_and (fun _ hw => hw.sub (by repeat (first | exact List.Sublist.slnil | exact List.Sublist.refl _ | apply List.Sublist.cons_cons | apply List.Sublist.cons))) ?_
    refine a_take 6 pan_cx (by kernel_rfl) (fun _ hw => hw.sub (by repeat (first | exact List.Sublist.slnil | exact List.Sublist.refl _ | apply List.Sublist.cons_cons | apply List.Sublist.cons))) rfl (by kernel_rfl) (by kernel_rfl) (v_assign rfl) rfl ?_
    refine a_done (by kernel_rfl) ?_
    refine e_retQ (q_ret3 rfl (ResV.agg 2 rfl rfl (by rw [isAggD, Try.underlying23]; rfl) (Try.cz23) Try.hi23) (ResV.agg 1 rfl rfl (by rw [isAggD, Try.underlying30]; rfl) (Try.cz30) Try.hi30) (.tmp rfl) ?_)
    exact fun w' hw' => ⟨by simp only [serDoL]; rw [if_pos hck]; rfl, hw'.res.nil⟩
  · have hck' : (checkL d).1 = 0 := by omega
    obtain ⟨h14, hchk⟩ := checked hck'
    have hser : serDoL s0 d = ((doL arithL s0 d).1, (doL arithL s0 d).2.1, (doL arithL s0 d).2.2, 0) := by simp only [serDoL]; rw [if_neg hck]
    generalize hR : runL arithL d zero4 s0 = R
    have hdo : doL arithL s0 d = if R.1 = true then (s0, 9, R.2.1) else (R.2.2, 0, R.2.1) := by rw [← hR]; rfl
    rw [hser, hdo]
    obtain ⟨x0, x1, x2, x3, x4, x5, x6, x7, x8, x9, hx⟩ := list10 hs0
    refine e_skip ?_
    refine e_seq ?_
    refine e_region ?_
    refine w_val (v_loadBA 3 rfl Try.underlying23 rfl Try.hi23 (Try.cz23.trans (by simp [Value.cells, intsV, resCells, intCells, hs0])) rfl) rfl ?_
    rw [hx]
    refine w_val (v_build (v := intsV (zero4 ++ [x0, x1, x2, x3, x4, x5, x6, x7, x8, x9])) _ rfl (by intro _; simp [Instr.build, Instr.fill, intCells, Try.zeroValue126, go_sem]; kernel_rfl)) rfl ?_
    refine w_op rfl ?_
    refine x_box rfl rfl (fun b22 => ?_)
    refine w_val (v_assign rfl) rfl ?_
    refine w_nil ?_
    refine e_seq ?_
    refine e_seq ?_
    refine e_region ?_
    refine w_val (v_assign rfl) rfl ?_
    refine w_nil ?_
    refine e_block ?_
    refine e_loopH (σ := Nat × List Int × List Int) [1, 2, 4, 5, 6, 8] (.cons rfl (.cons rfl (.cons rfl (.cons rfl (.cons rfl (.cons rfl .nil)))))) (fun x => [(9, .int .i64 x.1)]) (fun x => [.blk b22 126 (intCells (x.2.1 ++ x.2.2)), .blk b7 122 (intCells [(checkL d).1, (checkL d).2]), .blk b5 30 (intCells [0, 0, 0, 0, 0]), .blk b4 23 (intCells [0, 0, 0, 0, 0, 0, 0, 0, 0, 0]), .blk b2 23 (intCells [x0, x1, x2, x3, x4, x5, x6, x7, x8, x9])]) (fun x => runL arithL (d.drop x.1) x.2.1 x.2.2 = R ∧ x.2.1.length = 4 ∧ x.2.2.length = 10 ∧ x.1 ≤ 40) (fun x => 40 - x.1) (0, zero4, [x0, x1, x2, x3, x4, x5, x6, x7, x8, x9]) ⟨by rw [← hR, hx]; rfl, rfl, rfl, by simp⟩ (by repeat (first | exact Sub.nil _ | refine Sub.cons rfl ?_)) (fun _ hw => hw) ?_
    rintro ⟨k, g, s⟩ ⟨hrun, hg, hs, hk⟩
    refine e_seq ?_
    refine e_seq ?_
    refine e_region ?_
    refine w_val (v_move rfl) rfl ?_
    refine w_val (v_move rfl) rfl ?_
    refine w_val (v_lenS Try.underlying25 rfl) rfl ?_
    refine w_val (v_lss rfl rfl) rfl ?_
    refine w_nil ?_
    refine e_condD rfl (fun hlt => ?_) (fun hlt => ?_)
    · have hlt' : k < d.length := by omega
      obtain ⟨hof, hskip⟩ := hchk k hlt'
      rw [runL_at _ hlt'] at hrun
      obtain ⟨ad, rfl, hop⟩ := IsDeed.cells hc hlt'
      generalize d[k] = o at *
      refine e_skip ?_
      refine e_block ?_
      refine e_seq ?_
      refine e_region ?_
      refine w_val (v_move rfl) rfl ?_
      refine w_val (v_move rfl) rfl ?_
      refine w_val (v_move rfl) rfl ?_
      refine w_val (v_indexS Try.underlying25 Try.hi118 Try.cz118 rfl rfl (by first | omega | decide)) rfl ?_
      refine w_val (v_loadON Try.underlying118 rfl Try.hi118 rfl (hop) Try.cz118) rfl ?_
      refine w_op rfl ?_
      refine x_call1 (v := .int .i64 (outL o g s).1) rfl rfl rfl Try.call66 rfl (fun w hw => runnerOp_spec b22 g s o hof hg hs w (hw.hold _ (List.mem_cons_self ..))) ?_
      refine w_val (v_assign rfl) rfl ?_
      refine w_nil ?_
      refine e_seq ?_
      refine e_seq ?_
      refine e_region ?_
      refine w_val (v_move rfl) rfl ?_
      refine w_val (v_eql rfl rfl) rfl ?_
      refine w_nil ?_
      cases hst : stepL arithL o g s with
      | none =>
        rw [outL_none hst]
        rw [hst] at hrun
        refine e_condDT rfl (by omega) ?_
        refine e_seq ?_
        obtain ⟨g0, g1, g2, g3, rfl⟩ := list4 hg
        obtain ⟨y0, y1, y2, y3, y4, y5, y6, y7, y8, y9, rfl⟩ := list10 hs
        refine e_draw ([.blk b22 126 (intCells [g0, g1, g2, g3, y0, y1, y2, y3, y4, y5, y6, y7, y8, y9]), .blk b2 23 (intCells [x0, x1, x2, x3, x4, x5, x6, x7, x8, x9])]) Try.mixed ?_
        refine a_take 0 pan_cx (by kernel_rfl) (fun _ hw => hw.sub (by repeat (first | exact List.Sublist.slnil | exact List.Sublist.refl _ | apply List.Sublist.cons_cons | apply List.Sublist.cons))) rfl (by kernel_rfl) (by kernel_rfl) (v_loadBA 1 rfl Try.underlying23 rfl Try.hi23 Try.cz23 rfl) rfl ?_
        refine a_take 1 pan_cx (by kernel_rfl) (fun _ hw => hw.sub (by repeat (first | exact List.Sublist.slnil | exact List.Sublist.refl _ | apply List.Sublist.cons_cons | apply List.Sublist.cons))) rfl (by kernel_rfl) (by kernel_rfl) (v_move rfl) rfl ?_
        refine a_take 2 pan_cx (by kernel_rfl) (fun _ hw => hw.sub (by repeat (first | exact List.Sublist.slnil | exact List.Sublist.refl _ | apply List.Sublist.cons_cons | apply List.Sublist.cons))) rfl (by kernel_rfl) (by kernel_rfl) (v_nilCheck rfl) rfl ?_
        refine a_take 3 pan_cx (by kernel_rfl) (fun _ hw => hw.sub (by repeat (first | exact List.Sublist.slnil | exact List.Sublist.refl _ | apply List.Sublist.cons_cons | apply List.Sublist.cons))) rfl (by kernel_rfl) (by kernel_rfl) (v_fieldAddrB (o := 0) Try.underlying126 rfl rfl Try.nz28 rfl) rfl ?_
        refine a_take 4 pan_cx (by kernel_rfl) (fun _ hw => hw.sub (by repeat (first | exact List.Sublist.slnil | exact List.Sublist.refl _ | apply List.Sublist.cons_cons | apply List.Sublist.cons))) rfl (by kernel_rfl) (by kernel_rfl) (v_loadBN 0 rfl Try.underlying28 rfl Try.hi28 Try.cz28 rfl (cs' := intCells [g0, g1, g2, g3]) rfl rfl) rfl ?_
        refine a_take 5 pan_cx (by kernel_rfl) (fun _ hw => hw.sub (by repeat (first | exact List.Sublist.slnil | exact List.Sublist.refl _ | apply List.Sublist.cons_cons | apply List.Sublist.cons))) rfl (by kernel_rfl) (by kernel_rfl) (v_build _ rfl (by intro _; simp [Instr.build, Instr.fill, intCells, Try.zeroValue30, go_sem]; rfl)) rfl ?_
        refine a_one 6 (by kernel_rfl) rfl rfl ?_
        refine x_storeA 3 rfl rfl rfl Try.hi23 (Try.cz23.trans (by simp [Value.cells, intsV, resCells, intCells, hs0])) (by simp [Value.cells, intsV, resCells, intCells, hs0]) (by first | exact one_intCells _ | exact one_resCells _ _) ?_
        refine a_and (fun _ hw => hw.sub (by repeat (first | exact List.Sublist.slnil | exact List.Sublist.refl _ | apply List.Sublist.cons_cons | apply List.Sublist.cons))) ?_
        refine a_one 7 (by kernel_rfl) rfl rfl ?_
        refine x_storeA 2 rfl rfl rfl Try.hi30 Try.cz30 rfl (by first | (simp [Value.oneCell', opCells]; done) | assumption | exact one_ints _ | exact one_resCells _ _ | exact one_slotC _) ?_
        refine a_and (fun _ hw => hw.sub (by repeat (first | exact List.Sublist.slnil | exact List.Sublist.refl _ | apply List.Sublist.cons_cons | apply List.Sublist.cons))) ?_
        refine a_take 8 pan_cx (by kernel_rfl) (fun _ hw => hw.sub (by repeat (first | exact List.Sublist.slnil | exact List.Sublist.refl _ | apply List.Sublist.cons_cons | apply List.Sublist.cons))) rfl (by kernel_rfl) (by kernel_rfl) (v_assign rfl) rfl ?_
        refine a_done (by kernel_rfl) ?_
        refine e_retQ (q_ret3 rfl (ResV.agg 3 rfl rfl (by rw [isAggD, Try.underlying23]; rfl) (Try.cz23.trans (by simp [intCells])) Try.hi23) (ResV.agg 2 rfl rfl (by rw [isAggD, Try.underlying30]; rfl) (Try.cz30.trans (by simp [intCells])) Try.hi30) (.tmp rfl) ?_)
        exact fun w' hw' => ⟨by rw [← hrun]; rfl, hw'.res.nil⟩
      | some r =>
        obtain ⟨g', s', j⟩ := r
        rw [outL_some hst]
        rw [hst] at hrun
        obtain ⟨hg', hs', hj⟩ := step_inv hof hst
        refine e_condDF rfl (by omega) ?_
        refine e_skip ?_
        refine e_region ?_
        refine w_val (v_move rfl) rfl ?_
        refine w_val (v_move rfl) rfl ?_
        refine w_val (v_add rfl rfl (by omega)) rfl ?_
        refine w_val (v_assign rfl) rfl ?_
        refine w_nil ?_
        refine e_blk ?_
        rw [show ((k : Int) + (1 + (j : Int))) = ((k + 1 + j : Nat) : Int) from by omega]
        exact e_round ((k + 1 + j, g', s')) (⟨hrun, hg'.trans hg, hs'.trans hs, by dsimp only; omega⟩) (by dsimp only; omega) (by repeat (first | exact Sub.nil _ | refine Sub.cons rfl ?_)) (fun _ hw => hw)
    · rw [runL_end _ (by omega)] at hrun
      obtain ⟨g0, g1, g2, g3, rfl⟩ := list4 hg
      obtain ⟨y0, y1, y2, y3, y4, y5, y6, y7, y8, y9, rfl⟩ := list10 hs
      refine e_exit rfl ?_
      refine e_seq ?_
      refine e_draw ([.blk b22 126 (intCells [g0, g1, g2, g3, y0, y1, y2, y3, y4, y5, y6, y7, y8, y9]), .blk b2 23 (intCells [x0, x1, x2, x3, x4, x5, x6, x7, x8, x9])]) Try.mixed ?_
      refine a_take 0 pan_cx (by kernel_rfl) (fun _ hw => hw.sub (by repeat (first | exact List.Sublist.slnil | exact List.Sublist.refl _ | apply List.Sublist.cons_cons | apply List.Sublist.cons))) rfl (by kernel_rfl) (by kernel_rfl) (v_move rfl) rfl ?_
      refine a_take 1 pan_cx (by kernel_rfl) (fun _ hw => hw.sub (by repeat (first | exact List.Sublist.slnil | exact List.Sublist.refl _ | apply List.Sublist.cons_cons | apply List.Sublist.cons))) rfl (by kernel_rfl) (by kernel_rfl) (v_nilCheck rfl) rfl ?_
      refine a_take 2 pan_cx (by kernel_rfl) (fun _ hw => hw.sub (by repeat (first | exact List.Sublist.slnil | exact List.Sublist.refl _ | apply List.Sublist.cons_cons | apply List.Sublist.cons))) rfl (by kernel_rfl) (by kernel_rfl) (v_fieldAddrB (o := 4) Try.underlying126 rfl rfl Try.nz23 rfl) rfl ?_
      refine a_take 3 pan_cx (by kernel_rfl) (fun _ hw => hw.sub (by repeat (first | exact List.Sublist.slnil | exact List.Sublist.refl _ | apply List.Sublist.cons_cons | apply List.Sublist.cons))) rfl (by kernel_rfl) (by kernel_rfl) (v_loadBN 0 rfl Try.underlying23 rfl Try.hi23 Try.cz23 rfl (cs' := intCells [y0, y1, y2, y3, y4, y5, y6, y7, y8, y9]) rfl rfl) rfl ?_
      refine a_take 4 pan_cx (by kernel_rfl) (fun _ hw => hw.sub (by repeat (first | exact List.Sublist.slnil | exact List.Sublist.refl _ | apply List.Sublist.cons_cons | apply List.Sublist.cons))) rfl (by kernel_rfl) (by kernel_rfl) (v_move rfl) rfl ?_
      refine a_take 5 pan_cx (by kernel_rfl) (fun _ hw => hw.sub (by repeat (first | exact List.Sublist.slnil | exact List.Sublist.refl _ | apply List.Sublist.cons_cons | apply List.Sublist.cons))) rfl (by kernel_rfl) (by kernel_rfl) (v_nilCheck rfl) rfl ?_
      refine a_take 6 pan_cx (by kernel_rfl) (fun _ hw => hw.sub (by repeat (first | exact List.Sublist.slnil | exact List.Sublist.refl _ | apply List.Sublist.cons_cons | apply List.Sublist.cons))) rfl (by kernel_rfl) (by kernel_rfl) (v_fieldAddrB (o := 0) Try.underlying126 rfl rfl Try.nz28 rfl) rfl ?_
      refine a_take 7 pan_cx (by kernel_rfl) (fun _ hw => hw.sub (by repeat (first | exact List.Sublist.slnil | exact List.Sublist.refl _ | apply List.Sublist.cons_cons | apply List.Sublist.cons))) rfl (by kernel_rfl) (by kernel_rfl) (v_loadBN 0 rfl Try.underlying28 rfl Try.hi28 Try.cz28 rfl (cs' := intCells [g0, g1, g2, g3]) rfl rfl) rfl ?_
      refine a_take 8 pan_cx (by kernel_rfl) (fun _ hw => hw.sub (by repeat (first | exact List.Sublist.slnil | exact List.Sublist.refl _ | apply List.Sublist.cons_cons | apply List.Sublist.cons))) rfl (by kernel_rfl) (by kernel_rfl) (v_build _ rfl (by intro _; simp [Instr.build, Instr.fill, intCells, Try.zeroValue30, go_sem]; rfl)) rfl ?_
      refine a_one 9 (by kernel_rfl) rfl rfl ?_
      refine x_storeA 3 rfl rfl rfl Try.hi23 (Try.cz23.trans (by simp [Value.cells, intsV, resCells, intCells, hs0])) (by simp [Value.cells, intsV, resCells, intCells, hs0]) (by first | exact one_intCells _ | exact one_resCells _ _) ?_
      refine a_and (fun _ hw => hw.sub (by repeat (first | exact List.Sublist.slnil | exact List.Sublist.refl _ | apply List.Sublist.cons_cons | apply List.Sublist.cons))) ?_
      refine a_one 10 (by kernel_rfl) rfl rfl ?_
      refine x_storeA 2 rfl rfl rfl Try.hi30 Try.cz30 rfl (by first | (simp [Value.oneCell', opCells]; done) | assumption | exact one_ints _ | exact one_resCells _ _ | exact one_slotC _) ?_
      refine a_and (fun _ hw => hw.sub (by repeat (first | exact List.Sublist.slnil | exact List.Sublist.refl _ | apply List.Sublist.cons_cons | apply List.Sublist.cons))) ?_
      refine a_take 11 pan_cx (by kernel_rfl) (fun _ hw => hw.sub (by repeat (first | exact List.Sublist.slnil | exact List.Sublist.refl _ | apply List.Sublist.cons_cons | apply List.Sublist.cons))) rfl (by kernel_rfl) (by kernel_rfl) (v_assign rfl) rfl ?_
      refine a_done (by kernel_rfl) ?_
      refine e_retQ (q_ret3 rfl (ResV.agg 3 rfl rfl (by rw [isAggD, Try.underlying23]; rfl) (Try.cz23.trans (by simp [intCells])) Try.hi23) (ResV.agg 2 rfl rfl (by rw [isAggD, Try.underlying30]; rfl) (Try.cz30.trans (by simp [intCells])) Try.hi30) (.tmp rfl) ?_)
      exact fun w' hw' => ⟨by rw [← hrun]; rfl, hw'.res.nil⟩
end Go.SL
end
section

open Go Go.Proofs Go.SL
set_option maxRecDepth 100000
namespace Go.SL
end Go.SL
end
section

open Go Go.Proofs Go.SL
set_option maxRecDepth 100000
namespace Go.SL
end Go.SL
end
