/- Ytebdkaadbakhlac: part J5 of this seat's own texts. -/
import Derived.Test.YtebdkaadbakhlacX1
import Derived.Test.YtebdkaadbakhlacU2
set_option linter.unusedVariables false
set_option linter.unusedSimpArgs false

open Go Go.Proofs Go.SL
set_option maxRecDepth 100000
set_option maxHeartbeats 4000000
namespace Go.SL
theorem WorkerAlone_spec (s : List Int) (v : Value) (d : DeedL) (w : World) (h : IsDeed w.cell? v d) (hs10 : s.length = 10) :
    Calls Try.prog 3 #[intsV s, v] w fun e w' => e = .returned (.bool true) ∧ Res w [] [] w' := by
  have hud := h
  rw [← off_none w] at hud
  obtain ⟨Au, ku, rfl, hku⟩ := hud.form
  have hlz : (intCells s).length = 10 := by rw [intCells, List.length_map]; exact hs10
  refine enter0 (N := 93) Try.func3 rfl rfl rfl ?_
  refine e_seq ?_
  refine e_region ?_
  refine w_op rfl ?_
  refine x_box rfl rfl (fun b2 => ?_)
  refine w_val (v_assign rfl) rfl ?_
  refine w_nil ?_
  refine e_seq ?_
  refine e_seq ?_
  refine e_region ?_
  refine w_op rfl ?_
  refine x_call0 (v := .bool true) rfl rfl rfl Try.call15 rfl (fun w hw => workerBegun_spec w) ?_
  refine w_val (v_not rfl) rfl ?_
  refine w_nil ?_
  refine e_condF rfl ?_
  by_cases h200 : 200 < d.length
  · refine e_skip ?_
    refine e_seq ?_
    refine e_seq ?_
    refine e_region ?_
    refine w_val (v_move rfl) rfl ?_
    refine w_val (v_lenS Try.underlying25 rfl) rfl ?_
    refine w_val (v_is (v' := .bool true) (v_gtr rfl rfl) (by rw [decide_eq_true (by omega)])) rfl ?_
    refine w_nil ?_
    refine e_condT rfl ?_
    refine e_seq ?_
    refine e_region ?_
    refine w_val (v_assign rfl) rfl ?_
    refine w_nil ?_
    refine e_retQ (q_ret1 rfl (.tmp rfl) ?_)
    exact fun w' hw' => ⟨rfl, hw'.res.nil⟩
  · by_cases hck : (checkL d).1 = 0
    · have hser := serDo_of_ok (s := s) hck
      obtain ⟨hz10, hzr⟩ := do_len (d := d) hs10
      obtain ⟨r, hr⟩ : ∃ r : RoundL, r = [d] := ⟨_, rfl⟩
      have hrl : r.length = 1 := by rw [hr]; rfl
      have hf : roundFaultL r = 0 := roundFault_of (by rw [hrl]; decide) (fun x hx => by rw [hr, List.mem_singleton] at hx; subst hx; exact hck)
      have hget : r.getD 0 [] = d := by rw [hr]; rfl
      have hdd : ∀ i (hi : i < r.length), [Value.slice Au d.length ku][i]? = some (Value.slice Au d.length ku) ∧ r[i] = d := fun i hi => by
        have h0 : i = 0 := by omega
        subst h0
        exact ⟨rfl, by rw [← hget]; simp [List.getD, hrl]⟩
      have hst1 : stAt s r 1 = (doL arithL s d).1 := by show (doL arithL s (r.getD 0 [])).1 = _; rw [hget]
      have hrs0 : rsAt s r 0 = (doL arithL s d).2 := by show (doL arithL s (r.getD 0 [])).2 = _; rw [hget]
      have hcall := fun (w1 : World) (hl : Le (off w (feet [])) w1.cell?) => serialDo_spec s _ d w1 (hud.mono hl) hs10
      rw [hser] at hcall
      dsimp only [serDoV] at hcall
      generalize doL arithL s d = R at *
      obtain ⟨z, c, g⟩ := R
      dsimp only at hz10 hzr hst1 hrs0 hcall
      obtain ⟨z0, z1, z2, z3, z4, z5, z6, z7, z8, z9, rfl⟩ := list10 hz10
      obtain ⟨g0, g1, g2, g3, rfl⟩ := list4 hzr
      refine e_skip ?_
      refine e_seq ?_
      refine e_seq ?_
      refine e_region ?_
      refine w_val (v_move rfl) rfl ?_
      refine w_val (v_lenS Try.underlying25 rfl) rfl ?_
      refine w_val (v_is (v' := .bool false) (v_gtr rfl rfl) (by rw [decide_eq_false (by omega)])) rfl ?_
      refine w_nil ?_
      refine e_condF rfl ?_
      refine e_skip ?_
      refine e_seq ?_
      refine e_region ?_
      refine w_val (v_loadBA 0 rfl Try.underlying23 rfl Try.hi23 (Try.cz23.trans hlz.symm) rfl) rfl ?_
      refine w_val (v_move rfl) rfl ?_
      refine w_op rfl ?_
      refine x_call0 (v := .tuple #[intsV [z0, z1, z2, z3, z4, z5, z6, z7, z8, z9], .agg (resCells c [g0, g1, g2, g3]).toArray, .int .i64 0]) rfl rfl rfl Try.call16 rfl (fun w hw => hcall w hw.off) ?_
      refine w_val (v_move rfl) rfl ?_
      refine w_val (v_extract rfl rfl) rfl ?_
      refine w_val (v_extract rfl rfl) rfl ?_
      refine w_val (v_extract rfl rfl) rfl ?_
      refine w_op rfl ?_
      refine x_alloc (z := .agg #[.int .i64 0, .int .i64 0, .int .i64 0, .int .i64 0, .int .i64 0, .int .i64 0, .int .i64 0, .int .i64 0, .int .i64 0, .int .i64 0]) (by intro w; exact Try.zeroValue23 w) rfl (fun b5 => ?_)
      refine w_op rfl ?_
      refine x_alloc (z := .agg #[.int .i64 0, .int .i64 0, .int .i64 0, .int .i64 0, .int .i64 0]) (by intro w; exact Try.zeroValue30 w) rfl (fun b6 => ?_)
      refine w_op rfl ?_
      refine x_storeA 1 rfl rfl rfl Try.hi23 (Try.cz23.trans (by simp [Value.cells, intsV, resCells, intCells, hs10, zero10_len])) (by simp [Value.cells, intsV, resCells, intCells, hs10, zero10_len]) (by first | exact one_intCells _ | exact one_resCells _ _) ?_
      refine w_op rfl ?_
      refine x_storeA 0 rfl rfl rfl Try.hi30 (Try.cz30.trans (by simp [Value.cells, intsV, resCells, intCells, hs10, zero10_len])) (by simp [Value.cells, intsV, resCells, intCells, hs10, zero10_len]) (by first | exact one_intCells _ | exact one_resCells _ _) ?_
      refine w_val (v_assign rfl) rfl ?_
      refine w_nil ?_
      refine e_seq ?_
      refine e_seq ?_
      refine e_region ?_
      refine w_val (v_move rfl) rfl ?_
      refine w_val (v_is (v' := .bool false) (v_neq rfl rfl) (by rfl)) rfl ?_
      refine w_nil ?_
      refine e_condF rfl ?_
      refine e_skip ?_
      refine e_seq ?_
      refine e_region ?_
      refine w_val (v_loadBA 2 rfl Try.underlying23 rfl Try.hi23 (Try.cz23.trans hlz.symm) rfl) rfl ?_
      refine w_val (v_move rfl) rfl ?_
      refine w_op rfl ?_
      refine x_buildSlice _ ([Value.slice Au d.length ku]) rfl (run_buildSlice Try.underlying38 Try.hi25 Try.cz25 Try.zeroValue25 rfl (by kernel_rfl)) rfl (fun b33 => ?_)
      refine w_op rfl ?_
      refine x_call (dst := some 34) (mc := []) (σ := CrewP) (fun _ => True) (fun y => .pointer (some ⟨y.pc, 0, none⟩)) (fun y => crH y r.length (fun i => wk0 (r.getD i []) i) (newT s r) (fun i => [Value.slice Au d.length ku].getD i nilS) (fun _ => nilS) (fun _ => [])) rfl rfl rfl Try.call18 (fun w hw => newCrew_spec s _ r [Value.slice Au d.length ku] w (by rw [hrl]; exact blk_rds (hw.mem (i := 0) rfl) rfl) (fun i hi => ⟨_, (hdd i hi).1, by rw [(hdd i hi).2]; exact hud.mono hw.off⟩) hs10 hf) rfl (fun y _ => ?_); obtain ⟨pc, pt, pb, ht, hbb, pw, dvw, ph, wv, hv⟩ := y; dsimp only
      refine w_val (v_assign rfl) rfl ?_
      refine w_nil ?_
      refine e_seq ?_
      refine e_seq ?_
      refine e_region ?_
      refine w_val (v_move rfl) rfl ?_
      refine w_val (v_is (v' := .bool false) (v_eqlPtr Try.underlying35 rfl rfl) (by rfl)) rfl ?_
      refine w_nil ?_
      refine e_condF rfl ?_
      refine e_skip ?_
      refine e_seq ?_
      refine e_seq ?_
      refine e_region ?_
      refine w_val (v_assign rfl) rfl ?_
      refine w_nil ?_
      refine e_block ?_
      refine g_heap (m' := Wks r.length pw dvw (newP s r).1 :: (tbH pt 137 ht (newP s r).2 ++ [.blk pc 45 [ptrV pt, ptrV pb, wv, hv], Own wv 33 1 r.length (ptrs r.length pw), .blk b6 30 (resCells c [g0, g1, g2, g3]), .blk b5 23 (intCells [z0, z1, z2, z3, z4, z5, z6, z7, z8, z9])])) (fun _ hw => hw.pick [0, 1, 2, 6, 7, 10, 11] (by decide)) ?_
      refine g_shape2 4 rfl fun Aw kw hvw hkw hAw => ?_
      subst hvw
      obtain ⟨adw, rfl⟩ := hAw (by omega)
      have hmu0 : muW ((newP s r).1 0) + 0 ≤ d.length + 1 := by
        have := mu_most ((newP s r).1 0)
        have e : ((newP s r).1 0).d = d := hget
        rw [e] at this
        omega
      refine e_loopH (σ := Nat × RunS) [1, 5, 6, 8] (.cons rfl (.cons rfl (.cons rfl (.cons rfl .nil)))) (fun x => [(9, .int .i64 (x.1 : Int))]) (fun x => Wks r.length pw dvw x.2.1 :: (tbH pt 137 ht x.2.2 ++ [.blk pc 45 [ptrV pt, ptrV pb, .slice (some adw) r.length kw, hv], Own (.slice (some adw) r.length kw) 33 1 r.length (ptrs r.length pw), .blk b6 30 (resCells c [g0, g1, g2, g3]), .blk b5 23 (intCells [z0, z1, z2, z3, z4, z5, z6, z7, z8, z9])])) (fun x => InvR s r x.2.1 x.2.2 ∧ (x.2.1 0).ov = false ∧ muW (x.2.1 0) + x.1 ≤ d.length + 1) (fun x => d.length + 1 - x.1) (0, newP s r) ⟨inv_new hs10 hf, rfl, hmu0⟩ (by repeat (first | exact Sub.nil _ | refine Sub.cons rfl ?_)) (fun _ hw => hw) ?_
      rintro ⟨i, X, T⟩ ⟨hinv, ho, hmu⟩
      dsimp only at hinv ho hmu ⊢
      have hmp := mu_pos ho
      refine e_seq ?_
      refine e_seq ?_
      refine e_region ?_
      refine w_val (v_move rfl) rfl ?_
      refine w_val (v_move rfl) rfl ?_
      refine w_val (v_lenS Try.underlying25 rfl) rfl ?_
      refine w_val (v_leq rfl rfl) rfl ?_
      refine w_nil ?_
      refine e_condD rfl (fun hlt => ?_) (fun hlt => ?_)
      · have hk : 0 < r.length := by omega
        have hg := hinv.goes hk (fun j hj => by omega) ho
        have hinv' := hinv.step hk
        refine e_skip ?_
        refine e_seq ?_
        refine e_block ?_
        refine e_seq ?_
        generalize hP : stepW (X 0) T = P at *
        obtain ⟨⟨a, who⟩, x', T'⟩ := P
        dsimp only at hg hinv'
        refine e_draw ([.blk pc 45 [ptrV pt, ptrV pb, .slice (some adw) r.length kw, hv], Own (.slice (some adw) r.length kw) 33 1 r.length (ptrs r.length pw), .blk b6 30 (resCells c [g0, g1, g2, g3]), .blk b5 23 (intCells [z0, z1, z2, z3, z4, z5, z6, z7, z8, z9])]) Try.mixed ?_
        refine a_take 0 pan_cx (by kernel_rfl) (fun _ hw => hw.sub (by repeat (first | exact List.Sublist.slnil | exact List.Sublist.refl _ | apply List.Sublist.cons_cons | apply List.Sublist.cons))) rfl (by kernel_rfl) (by kernel_rfl) (v_move rfl) rfl ?_
        refine a_take 1 pan_cx (by kernel_rfl) (fun _ hw => hw.sub (by repeat (first | exact List.Sublist.slnil | exact List.Sublist.refl _ | apply List.Sublist.cons_cons | apply List.Sublist.cons))) rfl (by kernel_rfl) (by kernel_rfl) (v_nilCheck rfl) rfl ?_
        refine a_take 2 pan_cx (by kernel_rfl) (fun _ hw => hw.sub (by repeat (first | exact List.Sublist.slnil | exact List.Sublist.refl _ | apply List.Sublist.cons_cons | apply List.Sublist.cons))) rfl (by kernel_rfl) (by kernel_rfl) (v_fieldAddrB (o := 2) Try.underlying45 rfl rfl Try.nz42 rfl) rfl ?_
        refine a_take 3 pan_cx (by kernel_rfl) (fun _ hw => hw.sub (by repeat (first | exact List.Sublist.slnil | exact List.Sublist.refl _ | apply List.Sublist.cons_cons | apply List.Sublist.cons))) rfl (by kernel_rfl) (by kernel_rfl) (v_loadB 0 rfl Try.underlying42 rfl rfl rfl) rfl ?_
        refine a_take 4 pan_cx (by kernel_rfl) (fun _ hw => hw.sub (by repeat (first | exact List.Sublist.slnil | exact List.Sublist.refl _ | apply List.Sublist.cons_cons | apply List.Sublist.cons))) rfl (by kernel_rfl) (by kernel_rfl) (v_indexS Try.underlying42 Try.hi33 Try.cz33 rfl rfl (by first | omega | decide)) rfl ?_
        refine a_take 5 pan_cx (by kernel_rfl) (fun _ hw => hw.sub (by repeat (first | exact List.Sublist.slnil | exact List.Sublist.refl _ | apply List.Sublist.cons_cons | apply List.Sublist.cons))) rfl (by kernel_rfl) (by kernel_rfl) (v_loadW 1 rfl (by omega) (ptr_at hk) Try.underlying33 rfl rfl) rfl ?_
        refine a_take 6 pan_cx (by kernel_rfl) (fun _ hw => hw.sub (by repeat (first | exact List.Sublist.slnil | exact List.Sublist.refl _ | apply List.Sublist.cons_cons | apply List.Sublist.cons))) rfl (by kernel_rfl) (by kernel_rfl) (v_move rfl) rfl ?_
        refine a_take 7 pan_cx (by kernel_rfl) (fun _ hw => hw.sub (by repeat (first | exact List.Sublist.slnil | exact List.Sublist.refl _ | apply List.Sublist.cons_cons | apply List.Sublist.cons))) rfl (by kernel_rfl) (by kernel_rfl) (v_nilCheck rfl) rfl ?_
        refine a_take 8 pan_cx (by kernel_rfl) (fun _ hw => hw.sub (by repeat (first | exact List.Sublist.slnil | exact List.Sublist.refl _ | apply List.Sublist.cons_cons | apply List.Sublist.cons))) rfl (by kernel_rfl) (by kernel_rfl) (v_fieldAddrB (o := 0) Try.underlying45 rfl rfl Try.nz40 rfl) rfl ?_
        refine a_take 9 pan_cx (by kernel_rfl) (fun _ hw => hw.sub (by repeat (first | exact List.Sublist.slnil | exact List.Sublist.refl _ | apply List.Sublist.cons_cons | apply List.Sublist.cons))) rfl (by kernel_rfl) (by kernel_rfl) (v_loadB 0 rfl Try.underlying40 rfl rfl rfl) rfl ?_
        refine a_one 10 (by kernel_rfl) rfl rfl ?_
        refine x_wkStep (k := 0) hinv hk (fun _ hw => hw) rfl rfl rfl ?_; rw [hP]; dsimp only
        refine a_and (fun _ hw => hw.sub (by repeat (first | exact List.Sublist.slnil | exact List.Sublist.refl _ | apply List.Sublist.cons_cons | apply List.Sublist.cons))) ?_
        refine a_take 11 pan_cx (by kernel_rfl) (fun _ hw => hw.sub (by repeat (first | exact List.Sublist.slnil | exact List.Sublist.refl _ | apply List.Sublist.cons_cons | apply List.Sublist.cons))) rfl (by kernel_rfl) (by kernel_rfl) (v_move rfl) rfl ?_
        refine a_take 12 pan_cx (by kernel_rfl) (fun _ hw => hw.sub (by repeat (first | exact List.Sublist.slnil | exact List.Sublist.refl _ | apply List.Sublist.cons_cons | apply List.Sublist.cons))) rfl (by kernel_rfl) (by kernel_rfl) (v_is (v' := .int .i64 a) (v_extract rfl rfl) rfl) rfl ?_
        refine a_take 13 pan_cx (by kernel_rfl) (fun _ hw => hw.sub (by repeat (first | exact List.Sublist.slnil | exact List.Sublist.refl _ | apply List.Sublist.cons_cons | apply List.Sublist.cons))) rfl (by kernel_rfl) (by kernel_rfl) (v_is (v' := .int .i64 who) (v_extract rfl rfl) rfl) rfl ?_
        refine a_take 14 pan_cx (by kernel_rfl) (fun _ hw => hw.sub (by repeat (first | exact List.Sublist.slnil | exact List.Sublist.refl _ | apply List.Sublist.cons_cons | apply List.Sublist.cons))) rfl (by kernel_rfl) (by kernel_rfl) (v_assign rfl) rfl ?_
        refine a_take 15 pan_cx (by kernel_rfl) (fun _ hw => hw.sub (by repeat (first | exact List.Sublist.slnil | exact List.Sublist.refl _ | apply List.Sublist.cons_cons | apply List.Sublist.cons))) rfl (by kernel_rfl) (by kernel_rfl) (v_assign rfl) rfl ?_
        refine a_done (by kernel_rfl) ?_
        obtain ⟨hg1, hgm⟩ := hg
        rcases hg1 with ⟨hg1, ho'⟩ | ⟨hg1, ho'⟩
        · injection hg1 with e1 e2
          subst e1
          subst e2
          refine e_seq ?_
          refine e_seq ?_
          refine e_region ?_
          refine w_val (v_move rfl) rfl ?_
          refine w_val (v_is (v' := .bool false) (v_eql rfl rfl) (by rfl)) rfl ?_
          refine w_nil ?_
          refine e_condF rfl ?_
          refine e_skip ?_
          refine e_seq ?_
          refine e_region ?_
          refine w_val (v_move rfl) rfl ?_
          refine w_val (v_is (v' := .bool false) (v_neq rfl rfl) (by rfl)) rfl ?_
          refine w_nil ?_
          refine e_condF rfl ?_
          refine e_skip ?_
          refine e_blk ?_
          refine e_region ?_
          refine w_val (v_move rfl) rfl ?_
          refine w_val (v_add rfl rfl (by omega)) rfl ?_
          refine w_val (v_assign rfl) rfl ?_
          refine w_nil ?_
          exact e_round ((i + 1, (upd X 0 x', T'))) (⟨hinv', by dsimp only; rw [upd_same]; exact ho', by dsimp only; rw [upd_same]; omega⟩) (by dsimp only; omega) (by repeat (first | exact Sub.nil _ | refine Sub.cons rfl ?_)) (fun _ hw => hw)
        · injection hg1 with e1 e2
          subst e1
          subst e2
          have hall : AllO r.length (upd X 0 x') := fun j hj => by rw [show j = 0 from by omega, upd_same]; exact ho'
          obtain ⟨hst, hov⟩ := hinv'.state hall
          have hres := hinv'.res (hall 0 hk)
          have hn := hinv'.short
          rw [hrl, hst1] at hst
          rw [hrs0] at hres
          have hrl4 := (hinv'.w 0).rlen
          have hwv := fun (w1 : World) (m1 : Hp) (hw : St w (feet []) m1 w1) (hm : Wks r.length pw dvw (upd X 0 x') ∈ m1) => wkResult_spec (pw 0) (upd X 0 x' 0) w1 (hinv'.wkV hw hm hk) hrl4
          rw [hall 0 hk] at hwv
          simp only [Prod.mk.injEq] at hres
          rw [hres.1, hres.2] at hwv
          refine e_seq ?_
          refine e_seq ?_
          refine e_region ?_
          refine w_val (v_move rfl) rfl ?_
          refine w_val (v_is (v' := .bool true) (v_eql rfl rfl) (by rfl)) rfl ?_
          refine w_nil ?_
          refine e_condT rfl ?_
          refine e_exit rfl ?_
          refine e_seq ?_
          refine e_region ?_
          refine w_val (v_move rfl) rfl ?_
          refine w_val (v_nilCheck rfl) rfl ?_
          refine w_val (v_fieldAddrB (o := 2) Try.underlying45 rfl rfl Try.nz42 rfl) rfl ?_
          refine w_val (v_loadB 3 rfl Try.underlying42 rfl rfl rfl) rfl ?_
          refine w_val (v_indexS Try.underlying42 Try.hi33 Try.cz33 rfl rfl (by first | omega | decide)) rfl ?_
          refine w_val (v_loadW 4 rfl (by omega) (ptr_at hk) Try.underlying33 rfl rfl) rfl ?_
          refine w_op rfl ?_
          refine x_call0 (v := .tuple #[.agg (resCells c [g0, g1, g2, g3]).toArray, .bool true]) rfl rfl rfl Try.call20 rfl (fun w hw => hwv w _ hw List.mem_cons_self) ?_
          refine w_val (v_move rfl) rfl ?_
          refine w_val (v_extract rfl rfl) rfl ?_
          refine w_val (v_extract rfl rfl) rfl ?_
          refine w_op rfl ?_
          refine x_alloc (z := .agg #[.int .i64 0, .int .i64 0, .int .i64 0, .int .i64 0, .int .i64 0]) (by intro w; exact Try.zeroValue30 w) rfl (fun b12 => ?_)
          refine w_op rfl ?_
          refine x_storeA 0 rfl rfl rfl Try.hi30 (Try.cz30.trans (by simp [Value.cells, intsV, resCells, intCells, hs10, zero10_len])) (by simp [Value.cells, intsV, resCells, intCells, hs10, zero10_len]) (by first | exact one_intCells _ | exact one_resCells _ _) ?_
          refine w_val (v_assign rfl) rfl ?_
          refine w_nil ?_
          refine e_seq ?_
          refine e_draw (.blk b12 30 (resCells c [g0, g1, g2, g3]) :: Wks r.length pw dvw (upd X 0 x') :: (tbH pt 137 ht T' ++ [.blk pc 45 [ptrV pt, ptrV pb, .slice (some adw) r.length kw, hv], Own (.slice (some adw) r.length kw) 33 1 r.length (ptrs r.length pw), .blk b6 30 (resCells c [g0, g1, g2, g3]), .blk b5 23 (intCells [z0, z1, z2, z3, z4, z5, z6, z7, z8, z9])])) Try.mixed ?_
          refine a_take 0 pan_cx (by kernel_rfl) (fun _ hw => hw.sub (by repeat (first | exact List.Sublist.slnil | exact List.Sublist.refl _ | apply List.Sublist.cons_cons | apply List.Sublist.cons))) rfl (by kernel_rfl) (by kernel_rfl) (v_move rfl) rfl ?_
          refine a_take 1 pan_cx (by kernel_rfl) (fun _ hw => hw.sub (by repeat (first | exact List.Sublist.slnil | exact List.Sublist.refl _ | apply List.Sublist.cons_cons | apply List.Sublist.cons))) rfl (by kernel_rfl) (by kernel_rfl) (v_move rfl) rfl ?_
          refine a_want 2 pan_cx (by kernel_rfl) (fun _ hw => hw.sub (by repeat (first | exact List.Sublist.slnil | exact List.Sublist.refl _ | apply List.Sublist.cons_cons | apply List.Sublist.cons))) rfl (by kernel_rfl) (by kernel_rfl) rfl rfl (v_loadBN 0 rfl Try.underlying30 rfl Try.hi30 Try.cz30 rfl (cs' := resCells c [g0, g1, g2, g3]) rfl rfl) rfl ?_
          refine a_want 3 pan_cx (by kernel_rfl) (fun _ hw => hw.sub (by repeat (first | exact List.Sublist.slnil | exact List.Sublist.refl _ | apply List.Sublist.cons_cons | apply List.Sublist.cons))) rfl (by kernel_rfl) (by kernel_rfl) rfl rfl (v_loadBN 6 rfl Try.underlying30 rfl Try.hi30 Try.cz30 rfl (cs' := resCells c [g0, g1, g2, g3]) rfl rfl) rfl ?_
          refine a_want 4 pan_cx (by kernel_rfl) (fun _ hw => hw.sub (by repeat (first | exact List.Sublist.slnil | exact List.Sublist.refl _ | apply List.Sublist.cons_cons | apply List.Sublist.cons))) rfl (by kernel_rfl) (by kernel_rfl) rfl rfl (v_is (v' := .bool true) (v_eqlRes Try.underlying30 (by kernel_rfl) (by kernel_rfl) (by kernel_rfl) rfl rfl Try.underlying3 Try.underlying28 Try.underlying2 Try.hi2 Try.cz2 Try.hi28 Try.cz28 (by first | rfl | assumption | (simp; omega)) (by first | rfl | assumption | (simp; omega)) rfl rfl) (by rw [decide_eq_true ⟨rfl, rfl⟩])) rfl ?_
          refine a_take 5 pan_cx (by kernel_rfl) (fun _ hw => hw.sub (by repeat (first | exact List.Sublist.slnil | exact List.Sublist.refl _ | apply List.Sublist.cons_cons | apply List.Sublist.cons))) rfl (by kernel_rfl) (by kernel_rfl) (v_pickT rfl rfl) rfl ?_
          refine a_take 6 pan_cx (by kernel_rfl) (fun _ hw => hw.sub (by repeat (first | exact List.Sublist.slnil | exact List.Sublist.refl _ | apply List.Sublist.cons_cons | apply List.Sublist.cons))) rfl (by kernel_rfl) (by kernel_rfl) (v_move rfl) rfl ?_
          refine a_want 7 pan_cx (by kernel_rfl) (fun _ hw => hw.sub (by repeat (first | exact List.Sublist.slnil | exact List.Sublist.refl _ | apply List.Sublist.cons_cons | apply List.Sublist.cons))) rfl (by kernel_rfl) (by kernel_rfl) rfl rfl (v_move rfl) rfl ?_
          refine a_want 8 pan_cx (by kernel_rfl) (fun _ hw => hw.sub (by repeat (first | exact List.Sublist.slnil | exact List.Sublist.refl _ | apply List.Sublist.cons_cons | apply List.Sublist.cons))) rfl (by kernel_rfl) (by kernel_rfl) rfl rfl (v_nilCheck rfl) rfl ?_
          refine a_want 9 pan_cx (by kernel_rfl) (fun _ hw => hw.sub (by repeat (first | exact List.Sublist.slnil | exact List.Sublist.refl _ | apply List.Sublist.cons_cons | apply List.Sublist.cons))) rfl (by kernel_rfl) (by kernel_rfl) rfl rfl (v_fieldAddrB (o := 0) Try.underlying45 rfl rfl Try.nz40 rfl) rfl ?_
          refine a_want 10 pan_cx (by kernel_rfl) (fun _ hw => hw.sub (by repeat (first | exact List.Sublist.slnil | exact List.Sublist.refl _ | apply List.Sublist.cons_cons | apply List.Sublist.cons))) rfl (by kernel_rfl) (by kernel_rfl) rfl rfl (v_loadB 4 rfl Try.underlying40 rfl rfl rfl) rfl ?_
          refine a_want 12 pan_cx (by kernel_rfl) (fun _ hw => hw.sub (by repeat (first | exact List.Sublist.slnil | exact List.Sublist.refl _ | apply List.Sublist.cons_cons | apply List.Sublist.cons))) rfl (by kernel_rfl) (by kernel_rfl) rfl rfl (v_loadBN 7 rfl Try.underlying23 rfl Try.hi23 Try.cz23 rfl (cs' := intCells [z0, z1, z2, z3, z4, z5, z6, z7, z8, z9]) rfl rfl) rfl ?_
          refine a_oneW 11 (by kernel_rfl) rfl rfl rfl ?_
          refine x_call0 (v := intsV [z0, z1, z2, z3, z4, z5, z6, z7, z8, z9]) rfl rfl rfl Try.call21 rfl (fun w hw => by have := tabState_spec pt ht T' w (hw.tbV 2 rfl rfl) hn; rwa [hst] at this) ?_
          refine a_and (fun _ hw => hw.sub (by repeat (first | exact List.Sublist.slnil | exact List.Sublist.refl _ | apply List.Sublist.cons_cons | apply List.Sublist.cons))) ?_
          refine a_want 13 pan_cx (by kernel_rfl) (fun _ hw => hw.sub (by repeat (first | exact List.Sublist.slnil | exact List.Sublist.refl _ | apply List.Sublist.cons_cons | apply List.Sublist.cons))) rfl (by kernel_rfl) (by kernel_rfl) rfl rfl (v_is (v' := .bool true) (v_eqlInts Try.underlying23 (by kernel_rfl) Try.underlying2 Try.hi2 Try.cz2 (by first | rfl | assumption | (simp; omega)) (by first | rfl | assumption | (simp; omega)) rfl rfl) (by rw [decide_eq_true rfl])) rfl ?_
          refine a_take 14 pan_cx (by kernel_rfl) (fun _ hw => hw.sub (by repeat (first | exact List.Sublist.slnil | exact List.Sublist.refl _ | apply List.Sublist.cons_cons | apply List.Sublist.cons))) rfl (by kernel_rfl) (by kernel_rfl) (v_pickT rfl rfl) rfl ?_
          refine a_take 15 pan_cx (by kernel_rfl) (fun _ hw => hw.sub (by repeat (first | exact List.Sublist.slnil | exact List.Sublist.refl _ | apply List.Sublist.cons_cons | apply List.Sublist.cons))) rfl (by kernel_rfl) (by kernel_rfl) (v_move rfl) rfl ?_
          refine a_want 16 pan_cx (by kernel_rfl) (fun _ hw => hw.sub (by repeat (first | exact List.Sublist.slnil | exact List.Sublist.refl _ | apply List.Sublist.cons_cons | apply List.Sublist.cons))) rfl (by kernel_rfl) (by kernel_rfl) rfl rfl (v_move rfl) rfl ?_
          refine a_want 17 pan_cx (by kernel_rfl) (fun _ hw => hw.sub (by repeat (first | exact List.Sublist.slnil | exact List.Sublist.refl _ | apply List.Sublist.cons_cons | apply List.Sublist.cons))) rfl (by kernel_rfl) (by kernel_rfl) rfl rfl (v_nilCheck rfl) rfl ?_
          refine a_want 18 pan_cx (by kernel_rfl) (fun _ hw => hw.sub (by repeat (first | exact List.Sublist.slnil | exact List.Sublist.refl _ | apply List.Sublist.cons_cons | apply List.Sublist.cons))) rfl (by kernel_rfl) (by kernel_rfl) rfl rfl (v_fieldAddrB (o := 0) Try.underlying45 rfl rfl Try.nz40 rfl) rfl ?_
          refine a_want 19 pan_cx (by kernel_rfl) (fun _ hw => hw.sub (by repeat (first | exact List.Sublist.slnil | exact List.Sublist.refl _ | apply List.Sublist.cons_cons | apply List.Sublist.cons))) rfl (by kernel_rfl) (by kernel_rfl) rfl rfl (v_loadB 4 rfl Try.underlying40 rfl rfl rfl) rfl ?_
          refine a_oneW 20 (by kernel_rfl) rfl rfl rfl ?_
          refine x_call0 (v := .bool true) rfl rfl rfl Try.call22 rfl (fun w hw => by have := tabOver_spec pt ht T' w (hw.tbV 2 rfl rfl) hn; rwa [hov] at this) ?_
          refine a_and (fun _ hw => hw.sub (by repeat (first | exact List.Sublist.slnil | exact List.Sublist.refl _ | apply List.Sublist.cons_cons | apply List.Sublist.cons))) ?_
          refine a_take 21 pan_cx (by kernel_rfl) (fun _ hw => hw.sub (by repeat (first | exact List.Sublist.slnil | exact List.Sublist.refl _ | apply List.Sublist.cons_cons | apply List.Sublist.cons))) rfl (by kernel_rfl) (by kernel_rfl) (v_pickT rfl rfl) rfl ?_
          refine a_take 22 pan_cx (by kernel_rfl) (fun _ hw => hw.sub (by repeat (first | exact List.Sublist.slnil | exact List.Sublist.refl _ | apply List.Sublist.cons_cons | apply List.Sublist.cons))) rfl (by kernel_rfl) (by kernel_rfl) (v_assign rfl) rfl ?_
          refine a_done (by kernel_rfl) ?_
          refine e_retQ (q_ret1 rfl (.tmp rfl) ?_)
          exact fun w' hw' => ⟨rfl, hw'.res.nil⟩
      · exact absurd (show (i : Int) ≤ (d.length : Int) by omega) hlt
    · have hno : serDoL s d = (zero10, 0, zero4, (checkL d).1) := by unfold serDoL; rw [if_pos hck]
      have hcall := fun (w1 : World) (hl : Le (off w (feet [])) w1.cell?) => serialDo_spec s _ d w1 (hud.mono hl) hs10
      rw [hno] at hcall
      dsimp only [serDoV] at hcall
      have hnew := fun (w1 : World) (hl : Le (off w (feet [])) w1.cell?) => (wkNew_spec (.slice Au d.length ku) d 0 w1 (hud.mono hl)).mono (R' := fun e w' => e = .returned (.pointer none) ∧ Res w1 [] [] w') (fun e w' hh => by
        rcases hh with ⟨_, h1, h2⟩ | ⟨⟨h1, _⟩, _⟩
        · exact ⟨h1, h2⟩
        · exact absurd h1 hck)
      refine e_skip ?_
      refine e_seq ?_
      refine e_seq ?_
      refine e_region ?_
      refine w_val (v_move rfl) rfl ?_
      refine w_val (v_lenS Try.underlying25 rfl) rfl ?_
      refine w_val (v_is (v' := .bool false) (v_gtr rfl rfl) (by rw [decide_eq_false (by omega)])) rfl ?_
      refine w_nil ?_
      refine e_condF rfl ?_
      refine e_skip ?_
      refine e_seq ?_
      refine e_region ?_
      refine w_val (v_loadBA 0 rfl Try.underlying23 rfl Try.hi23 (Try.cz23.trans hlz.symm) rfl) rfl ?_
      refine w_val (v_move rfl) rfl ?_
      refine w_op rfl ?_
      refine x_call0 (v := .tuple #[intsV zero10, .agg (resCells 0 zero4).toArray, .int .i64 (checkL d).1]) rfl rfl rfl Try.call16 rfl (fun w hw => hcall w hw.off) ?_
      refine w_val (v_move rfl) rfl ?_
      refine w_val (v_extract rfl rfl) rfl ?_
      refine w_val (v_extract rfl rfl) rfl ?_
      refine w_val (v_extract rfl rfl) rfl ?_
      refine w_op rfl ?_
      refine x_alloc (z := .agg #[.int .i64 0, .int .i64 0, .int .i64 0, .int .i64 0, .int .i64 0, .int .i64 0, .int .i64 0, .int .i64 0, .int .i64 0, .int .i64 0]) (by intro w; exact Try.zeroValue23 w) rfl (fun b5 => ?_)
      refine w_op rfl ?_
      refine x_alloc (z := .agg #[.int .i64 0, .int .i64 0, .int .i64 0, .int .i64 0, .int .i64 0]) (by intro w; exact Try.zeroValue30 w) rfl (fun b6 => ?_)
      refine w_op rfl ?_
      refine x_storeA 1 rfl rfl rfl Try.hi23 (Try.cz23.trans (by simp [Value.cells, intsV, resCells, intCells, hs10, zero10_len, zero4])) (by simp [Value.cells, intsV, resCells, intCells, hs10, zero10_len, zero4]) (by first | exact one_intCells _ | exact one_resCells _ _) ?_
      refine w_op rfl ?_
      refine x_storeA 0 rfl rfl rfl Try.hi30 (Try.cz30.trans (by simp [Value.cells, intsV, resCells, intCells, hs10, zero10_len, zero4])) (by simp [Value.cells, intsV, resCells, intCells, hs10, zero10_len, zero4]) (by first | exact one_intCells _ | exact one_resCells _ _) ?_
      refine w_val (v_assign rfl) rfl ?_
      refine w_nil ?_
      refine e_seq ?_
      refine e_seq ?_
      refine e_region ?_
      refine w_val (v_move rfl) rfl ?_
      refine w_val (v_is (v' := .bool true) (v_neq rfl rfl) (by rw [decide_eq_true hck])) rfl ?_
      refine w_nil ?_
      refine e_condT rfl ?_
      refine e_seq ?_
      refine e_region ?_
      refine w_val (v_move rfl) rfl ?_
      refine w_op rfl ?_
      refine x_call0 (v := .pointer none) rfl rfl rfl Try.call17 rfl (fun w hw => hnew w hw.off) ?_
      refine w_val (v_is (v' := .bool true) (v_eqlPtr Try.underlying33 rfl rfl) (by rfl)) rfl ?_
      refine w_val (v_assign rfl) rfl ?_
      refine w_nil ?_
      refine e_retQ (q_ret1 rfl (.tmp rfl) ?_)
      exact fun w' hw' => ⟨rfl, hw'.res.nil⟩
end Go.SL

