/- Ytebdkaadbakhlaa: part S9 of this seat's own texts. -/
import Derived.Test.YtebdkaadbakhlaaS8
set_option linter.unusedVariables false
set_option linter.unusedSimpArgs false
open Go Go.Proofs Go.SL
set_option maxRecDepth 100000
namespace Go.SL
theorem SerialTwice_spec (s : List Int) (v : Value) (d : DeedL) (w : World) (h : IsDeed w.cell? v d) (hs : s.length = 10) : Calls Try.prog 5 #[intsV s, v] w
    fun e w' => e = .returned (.bool true) ∧ Res w [] [] w' := by
  have hd := h
  rw [← off_none w] at h hd
  obtain ⟨A, kp, rfl, hle, hc⟩ := h.form
  refine enter0 (N := 69) Try.func5 rfl rfl rfl ?_
  refine e_seq ?_
  refine e_region ?_
  refine w_op rfl ?_
  refine x_box rfl rfl (fun b2 => ?_)
  refine w_val (v_assign rfl) rfl ?_
  refine w_nil ?_
  refine e_seq ?_
  refine e_seq ?_
  refine e_region ?_
  refine w_op rfl ?_
  refine x_call0 (v := .bool true) rfl rfl rfl Try.call14 rfl (fun w hw => serialBegun_spec w) ?_
  refine w_val (v_not rfl) rfl ?_
  refine w_nil ?_
  refine e_condF rfl ?_
  refine e_skip ?_
  refine e_seq ?_
  refine e_seq ?_
  refine e_region ?_
  refine w_val (v_move rfl) rfl ?_
  refine w_val (v_lenS Try.underlying25 rfl) rfl ?_
  refine w_val (v_gtr rfl rfl) rfl ?_
  refine w_nil ?_
  refine e_condD rfl (fun h200 => ?_) (fun h200 => ?_)
  · refine e_seq ?_
    refine e_region ?_
    refine w_val (v_assign rfl) rfl ?_
    refine w_nil ?_
    refine e_retQ (q_ret1 rfl (.tmp rfl) ?_)
    exact fun w' hw' => ⟨rfl, hw'.res.nil⟩
  · refine e_skip ?_
    refine e_seq ?_
    refine e_seq ?_
    refine e_region ?_
    refine w_val (v_assign rfl) rfl ?_
    refine w_nil ?_
    refine e_block ?_
    refine e_loopK (σ := Nat) [1, 2] (.cons rfl (.cons rfl .nil)) (fun k => [(5, .int .i64 k)]) (fun k => k ≤ d.length ∧ ∀ j (hj : j < d.length), j < k → d[j].kind = 2 → storesL d d[j].b = false) (fun k => d.length - k) 0 ⟨by omega, fun j _ hj => by omega⟩ (by repeat (first | exact Sub.nil _ | refine Sub.cons rfl ?_)) ?_
    rintro k ⟨hk, hno⟩
    refine e_seq ?_
    refine e_seq ?_
    refine e_region ?_
    refine w_val (v_move rfl) rfl ?_
    refine w_val (v_move rfl) rfl ?_
    refine w_val (v_lenS Try.underlying25 rfl) rfl ?_
    refine w_val (v_lss rfl rfl) rfl ?_
    refine w_nil ?_
    refine e_condD rfl (fun hlt => ?_) (fun hlt => ?_)
    · have hlt' : k < d.length := by omega
      obtain ⟨ad, rfl, hop⟩ := IsDeed.cells hc hlt'
      have hstep : ¬ (d[k].kind = 2 ∧ storesL d d[k].b = true) → ∀ j (hj : j < d.length), j < k + 1 → d[j].kind = 2 → storesL d d[j].b = false := fun hh j hj hj2 h2 => by
        by_cases hjk : j = k
        · subst hjk
          cases hb : storesL d d[j].b with
          | false => rfl
          | true => exact absurd ⟨h2, hb⟩ hh
        · exact hno j hj (by omega) h2
      generalize ho : d[k] = o at *
      by_cases h2 : o.kind = 2
      · refine e_skip ?_
        refine e_seq ?_
        refine e_block ?_
        refine e_seq ?_
        refine e_region ?_
        refine w_val (v_move rfl) rfl ?_
        refine w_val (v_move rfl) rfl ?_
        first | refine w_val (v_indexSB Try.underlying25 Try.hi36 Try.cz36 rfl rfl (by omega)) rfl ?_ | refine w_val (v_indexS Try.underlying25 Try.hi36 Try.cz36 rfl rfl (by omega)) rfl ?_
        first | refine w_val (v_fieldAddrB (o := 0) Try.underlying36 rfl rfl Try.nz3 rfl) rfl ?_ | refine w_val (v_fieldAddr (o := 0) Try.underlying36 rfl rfl Try.nz3 rfl) rfl ?_
        first | refine w_val (v_loadO Try.underlying3 rfl rfl ((hop) _ _ rfl)) rfl ?_ | refine w_val (v_loadB 0 rfl Try.underlying3 rfl rfl rfl) rfl ?_ | refine w_val (v_loadB 1 rfl Try.underlying3 rfl rfl rfl) rfl ?_ | refine w_val (v_loadB 2 rfl Try.underlying3 rfl rfl rfl) rfl ?_ | refine w_val (v_loadB 3 rfl Try.underlying3 rfl rfl rfl) rfl ?_ | refine w_val (v_loadB 4 rfl Try.underlying3 rfl rfl rfl) rfl ?_ | refine w_val (v_loadB 5 rfl Try.underlying3 rfl rfl rfl) rfl ?_ | refine w_val (v_loadB 6 rfl Try.underlying3 rfl rfl rfl) rfl ?_ | refine w_val (v_loadB 7 rfl Try.underlying3 rfl rfl rfl) rfl ?_
        refine w_val (v_is (v' := .bool true) (v_eql rfl rfl) (by rw [decide_eq_true h2])) rfl ?_
        refine w_val (v_move rfl) rfl ?_
        refine w_want rfl rfl ?_
        refine w_val (v_move rfl) rfl ?_
        refine w_want rfl rfl ?_
        refine w_val (v_move rfl) rfl ?_
        refine w_want rfl rfl ?_
        refine w_val (v_move rfl) rfl ?_
        refine w_want rfl rfl ?_
        first | refine w_val (v_indexSB Try.underlying25 Try.hi36 Try.cz36 rfl rfl (by omega)) rfl ?_ | refine w_val (v_indexS Try.underlying25 Try.hi36 Try.cz36 rfl rfl (by omega)) rfl ?_
        refine w_want rfl rfl ?_
        first | refine w_val (v_fieldAddrB (o := 2) Try.underlying36 rfl rfl Try.nz3 rfl) rfl ?_ | refine w_val (v_fieldAddr (o := 2) Try.underlying36 rfl rfl Try.nz3 rfl) rfl ?_
        refine w_want rfl rfl ?_
        first | refine w_val (v_loadO Try.underlying3 rfl rfl ((hop) _ _ rfl)) rfl ?_ | refine w_val (v_loadB 0 rfl Try.underlying3 rfl rfl rfl) rfl ?_ | refine w_val (v_loadB 1 rfl Try.underlying3 rfl rfl rfl) rfl ?_ | refine w_val (v_loadB 2 rfl Try.underlying3 rfl rfl rfl) rfl ?_ | refine w_val (v_loadB 3 rfl Try.underlying3 rfl rfl rfl) rfl ?_ | refine w_val (v_loadB 4 rfl Try.underlying3 rfl rfl rfl) rfl ?_ | refine w_val (v_loadB 5 rfl Try.underlying3 rfl rfl rfl) rfl ?_ | refine w_val (v_loadB 6 rfl Try.underlying3 rfl rfl rfl) rfl ?_ | refine w_val (v_loadB 7 rfl Try.underlying3 rfl rfl rfl) rfl ?_
        refine w_want rfl rfl ?_
        refine w_op rfl ?_
        refine x_call0 (v := .bool (storesL d o.b)) rfl rfl rfl Try.call16 rfl (fun w hw => stores_spec _ d o.b w (hd.mono hw.off) (by omega)) ?_
        first | refine w_val (v_pickT rfl rfl) rfl ?_ | refine w_val (v_pickF rfl rfl) rfl ?_
        refine w_nil ?_
        refine e_cond rfl (fun hb => ?_) (fun hb => ?_)
        · refine e_seq ?_
          refine e_region ?_
          refine w_val (v_assign rfl) rfl ?_
          refine w_nil ?_
          refine e_retQ (q_ret1 rfl (.tmp rfl) ?_)
          exact fun w' hw' => ⟨rfl, hw'.res.nil⟩
        · refine e_skip ?_
          refine e_blk ?_
          refine e_region ?_
          refine w_val (v_move rfl) rfl ?_
          first | refine w_val (v_add rfl rfl (by omega)) rfl ?_ | refine w_val (v_addw rfl rfl) rfl ?_
          refine w_val (v_assign rfl) rfl ?_
          refine w_nil ?_
          exact e_round (k + 1) (⟨by omega, hstep (fun h => by simp [h.2] at hb)⟩) (by omega) (by repeat (first | exact Sub.nil _ | refine Sub.cons rfl ?_)) (fun _ hw => hw)
      · refine e_skip ?_
        refine e_seq ?_
        refine e_block ?_
        refine e_seq ?_
        refine e_region ?_
        refine w_val (v_move rfl) rfl ?_
        refine w_val (v_move rfl) rfl ?_
        first | refine w_val (v_indexSB Try.underlying25 Try.hi36 Try.cz36 rfl rfl (by omega)) rfl ?_ | refine w_val (v_indexS Try.underlying25 Try.hi36 Try.cz36 rfl rfl (by omega)) rfl ?_
        first | refine w_val (v_fieldAddrB (o := 0) Try.underlying36 rfl rfl Try.nz3 rfl) rfl ?_ | refine w_val (v_fieldAddr (o := 0) Try.underlying36 rfl rfl Try.nz3 rfl) rfl ?_
        first | refine w_val (v_loadO Try.underlying3 rfl rfl ((hop) _ _ rfl)) rfl ?_ | refine w_val (v_loadB 0 rfl Try.underlying3 rfl rfl rfl) rfl ?_ | refine w_val (v_loadB 1 rfl Try.underlying3 rfl rfl rfl) rfl ?_ | refine w_val (v_loadB 2 rfl Try.underlying3 rfl rfl rfl) rfl ?_ | refine w_val (v_loadB 3 rfl Try.underlying3 rfl rfl rfl) rfl ?_ | refine w_val (v_loadB 4 rfl Try.underlying3 rfl rfl rfl) rfl ?_ | refine w_val (v_loadB 5 rfl Try.underlying3 rfl rfl rfl) rfl ?_ | refine w_val (v_loadB 6 rfl Try.underlying3 rfl rfl rfl) rfl ?_ | refine w_val (v_loadB 7 rfl Try.underlying3 rfl rfl rfl) rfl ?_
        refine w_val (v_is (v' := .bool false) (v_eql rfl rfl) (by rw [decide_eq_false h2])) rfl ?_
        refine w_val (v_move rfl) rfl ?_
        refine w_skip rfl rfl rfl rfl ?_
        refine w_skip rfl rfl rfl rfl ?_
        refine w_skip rfl rfl rfl rfl ?_
        refine w_skip rfl rfl rfl rfl ?_
        refine w_skip rfl rfl rfl rfl ?_
        refine w_skip rfl rfl rfl rfl ?_
        refine w_skip rfl rfl rfl rfl ?_
        first | refine w_val (v_pickT rfl rfl) rfl ?_ | refine w_val (v_pickF rfl rfl) rfl ?_
        refine w_nil ?_
        first | refine e_condDF rfl (by omega) ?_ | refine e_condF rfl ?_
        refine e_skip ?_
        refine e_blk ?_
        refine e_region ?_
        refine w_val (v_move rfl) rfl ?_
        first | refine w_val (v_add rfl rfl (by omega)) rfl ?_ | refine w_val (v_addw rfl rfl) rfl ?_
        refine w_val (v_assign rfl) rfl ?_
        refine w_nil ?_
        exact e_round (k + 1) (⟨by omega, hstep (fun h => h2 h.1)⟩) (by omega) (by repeat (first | exact Sub.nil _ | refine Sub.cons rfl ?_)) (fun _ hw => hw)
    · have hno' : ∀ o ∈ d, o.kind = 2 → storesL d o.b = false := fun o ho h2 => by
        obtain ⟨i, hi, rfl⟩ := List.mem_iff_getElem.1 ho
        exact hno i hi (by omega) h2
      obtain ⟨hx10, hr4⟩ := serDo_len (d := d) hs
      have htw := fun hc => serDo_twice (s := s) (d := d) hs hc hno'
      have hbad : (serDoL s d).2.2.2 ≠ 0 → (serDoL s d).1 = zero10 := fun hf => by
        unfold serDoL at hf ⊢
        split
        · rfl
        · rename_i hck; simp only [if_neg hck] at hf; exact absurd rfl hf
      refine e_exit rfl ?_
      refine e_seq ?_
      refine e_region ?_
      first | refine w_val (v_loadON Try.underlying23 rfl Try.hi23 rfl (hop) Try.cz23) rfl ?_ | refine w_val (v_loadBA 0 rfl Try.underlying23 rfl Try.hi23 Try.cz23 rfl) rfl ?_ | refine w_val (v_loadBA 1 rfl Try.underlying23 rfl Try.hi23 Try.cz23 rfl) rfl ?_ | refine w_val (v_loadBA 2 rfl Try.underlying23 rfl Try.hi23 Try.cz23 rfl) rfl ?_ | refine w_val (v_loadBA 3 rfl Try.underlying23 rfl Try.hi23 Try.cz23 rfl) rfl ?_ | refine w_val (v_loadBA 4 rfl Try.underlying23 rfl Try.hi23 Try.cz23 rfl) rfl ?_ | refine w_val (v_loadBA 5 rfl Try.underlying23 rfl Try.hi23 Try.cz23 rfl) rfl ?_ | refine w_val (v_loadBA 6 rfl Try.underlying23 rfl Try.hi23 Try.cz23 rfl) rfl ?_ | refine w_val (v_loadBA 7 rfl Try.underlying23 rfl Try.hi23 Try.cz23 rfl) rfl ?_ | refine w_val (v_loadBA 0 rfl Try.underlying23 rfl Try.hi23 (Try.cz23.trans (by simp [Value.cells, intsV, resCells, intCells, hs])) rfl) rfl ?_ | refine w_val (v_loadBA 1 rfl Try.underlying23 rfl Try.hi23 (Try.cz23.trans (by simp [Value.cells, intsV, resCells, intCells, hs])) rfl) rfl ?_ | refine w_val (v_loadBA 2 rfl Try.underlying23 rfl Try.hi23 (Try.cz23.trans (by simp [Value.cells, intsV, resCells, intCells, hs])) rfl) rfl ?_ | refine w_val (v_loadBA 3 rfl Try.underlying23 rfl Try.hi23 (Try.cz23.trans (by simp [Value.cells, intsV, resCells, intCells, hs])) rfl) rfl ?_ | refine w_val (v_loadBA 4 rfl Try.underlying23 rfl Try.hi23 (Try.cz23.trans (by simp [Value.cells, intsV, resCells, intCells, hs])) rfl) rfl ?_ | refine w_val (v_loadBA 5 rfl Try.underlying23 rfl Try.hi23 (Try.cz23.trans (by simp [Value.cells, intsV, resCells, intCells, hs])) rfl) rfl ?_ | refine w_val (v_loadBA 6 rfl Try.underlying23 rfl Try.hi23 (Try.cz23.trans (by simp [Value.cells, intsV, resCells, intCells, hs])) rfl) rfl ?_ | refine w_val (v_loadBA 7 rfl Try.underlying23 rfl Try.hi23 (Try.cz23.trans (by simp [Value.cells, intsV, resCells, intCells, hs])) rfl) rfl ?_ | refine w_val (v_loadBN 0 rfl Try.underlying23 rfl Try.hi23 Try.cz23 rfl rfl rfl) rfl ?_ | refine w_val (v_loadBN 1 rfl Try.underlying23 rfl Try.hi23 Try.cz23 rfl rfl rfl) rfl ?_ | refine w_val (v_loadBN 2 rfl Try.underlying23 rfl Try.hi23 Try.cz23 rfl rfl rfl) rfl ?_ | refine w_val (v_loadBN 3 rfl Try.underlying23 rfl Try.hi23 Try.cz23 rfl rfl rfl) rfl ?_ | refine w_val (v_loadBN 4 rfl Try.underlying23 rfl Try.hi23 Try.cz23 rfl rfl rfl) rfl ?_ | refine w_val (v_loadBN 5 rfl Try.underlying23 rfl Try.hi23 Try.cz23 rfl rfl rfl) rfl ?_ | refine w_val (v_loadBN 6 rfl Try.underlying23 rfl Try.hi23 Try.cz23 rfl rfl rfl) rfl ?_ | refine w_val (v_loadBN 7 rfl Try.underlying23 rfl Try.hi23 Try.cz23 rfl rfl rfl) rfl ?_
      refine w_val (v_move rfl) rfl ?_
      refine w_op rfl ?_
      refine x_call0 (v := serDoV (serDoL s d)) rfl rfl rfl Try.call15 rfl (fun w hw => serialDo_spec s _ d w (hd.mono hw.off) hs) ?_
      generalize hr : serDoL s d = r at *
      obtain ⟨x, c, g, f⟩ := r
      dsimp only at hx10 hr4 htw hbad
      dsimp only [serDoV]
      refine w_val (v_move rfl) rfl ?_
      refine w_val (v_extract rfl rfl) rfl ?_
      refine w_val (v_extract rfl rfl) rfl ?_
      refine w_val (v_extract rfl rfl) rfl ?_
      refine w_op rfl ?_
      refine x_alloc (z := .agg #[.int .i64 0, .int .i64 0, .int .i64 0, .int .i64 0, .int .i64 0, .int .i64 0, .int .i64 0, .int .i64 0, .int .i64 0, .int .i64 0]) (by intro w; exact Try.zeroValue23 w) rfl (fun b6 => ?_)
      refine w_op rfl ?_
      refine x_alloc (z := .agg #[.int .i64 0, .int .i64 0, .int .i64 0, .int .i64 0, .int .i64 0]) (by intro w; exact Try.zeroValue30 w) rfl (fun b7 => ?_)
      refine w_op rfl ?_
      first | refine x_storeA 0 rfl rfl rfl Try.hi23 (Try.cz23.trans (by simp [Value.cells, intsV, resCells, intCells, hs, hx10, hr4])) (by simp [Value.cells, intsV, resCells, intCells, hs, hx10, hr4]) (by first | exact one_intCells _ | exact one_resCells _ _) ?_ | refine x_storeA 1 rfl rfl rfl Try.hi23 (Try.cz23.trans (by simp [Value.cells, intsV, resCells, intCells, hs, hx10, hr4])) (by simp [Value.cells, intsV, resCells, intCells, hs, hx10, hr4]) (by first | exact one_intCells _ | exact one_resCells _ _) ?_ | refine x_storeA 2 rfl rfl rfl Try.hi23 (Try.cz23.trans (by simp [Value.cells, intsV, resCells, intCells, hs, hx10, hr4])) (by simp [Value.cells, intsV, resCells, intCells, hs, hx10, hr4]) (by first | exact one_intCells _ | exact one_resCells _ _) ?_ | refine x_storeA 3 rfl rfl rfl Try.hi23 (Try.cz23.trans (by simp [Value.cells, intsV, resCells, intCells, hs, hx10, hr4])) (by simp [Value.cells, intsV, resCells, intCells, hs, hx10, hr4]) (by first | exact one_intCells _ | exact one_resCells _ _) ?_ | refine x_storeA 4 rfl rfl rfl Try.hi23 (Try.cz23.trans (by simp [Value.cells, intsV, resCells, intCells, hs, hx10, hr4])) (by simp [Value.cells, intsV, resCells, intCells, hs, hx10, hr4]) (by first | exact one_intCells _ | exact one_resCells _ _) ?_ | refine x_storeA 5 rfl rfl rfl Try.hi23 (Try.cz23.trans (by simp [Value.cells, intsV, resCells, intCells, hs, hx10, hr4])) (by simp [Value.cells, intsV, resCells, intCells, hs, hx10, hr4]) (by first | exact one_intCells _ | exact one_resCells _ _) ?_ | refine x_storeA 6 rfl rfl rfl Try.hi23 (Try.cz23.trans (by simp [Value.cells, intsV, resCells, intCells, hs, hx10, hr4])) (by simp [Value.cells, intsV, resCells, intCells, hs, hx10, hr4]) (by first | exact one_intCells _ | exact one_resCells _ _) ?_ | refine x_storeA 7 rfl rfl rfl Try.hi23 (Try.cz23.trans (by simp [Value.cells, intsV, resCells, intCells, hs, hx10, hr4])) (by simp [Value.cells, intsV, resCells, intCells, hs, hx10, hr4]) (by first | exact one_intCells _ | exact one_resCells _ _) ?_ | refine x_storeA 0 rfl rfl rfl Try.hi23 Try.cz23 rfl (by first | (simp [Value.oneCell', opCells]; done) | assumption | exact one_ints _ | exact one_resCells _ _) ?_ | refine x_storeA 1 rfl rfl rfl Try.hi23 Try.cz23 rfl (by first | (simp [Value.oneCell', opCells]; done) | assumption | exact one_ints _ | exact one_resCells _ _) ?_ | refine x_storeA 2 rfl rfl rfl Try.hi23 Try.cz23 rfl (by first | (simp [Value.oneCell', opCells]; done) | assumption | exact one_ints _ | exact one_resCells _ _) ?_ | refine x_storeA 3 rfl rfl rfl Try.hi23 Try.cz23 rfl (by first | (simp [Value.oneCell', opCells]; done) | assumption | exact one_ints _ | exact one_resCells _ _) ?_ | refine x_storeA 4 rfl rfl rfl Try.hi23 Try.cz23 rfl (by first | (simp [Value.oneCell', opCells]; done) | assumption | exact one_ints _ | exact one_resCells _ _) ?_ | refine x_storeA 5 rfl rfl rfl Try.hi23 Try.cz23 rfl (by first | (simp [Value.oneCell', opCells]; done) | assumption | exact one_ints _ | exact one_resCells _ _) ?_ | refine x_storeA 6 rfl rfl rfl Try.hi23 Try.cz23 rfl (by first | (simp [Value.oneCell', opCells]; done) | assumption | exact one_ints _ | exact one_resCells _ _) ?_ | refine x_storeA 7 rfl rfl rfl Try.hi23 Try.cz23 rfl (by first | (simp [Value.oneCell', opCells]; done) | assumption | exact one_ints _ | exact one_resCells _ _) ?_
      refine w_op rfl ?_
      first | refine x_storeA 0 rfl rfl rfl Try.hi30 (Try.cz30.trans (by simp [Value.cells, intsV, resCells, intCells, hs, hx10, hr4])) (by simp [Value.cells, intsV, resCells, intCells, hs, hx10, hr4]) (by first | exact one_intCells _ | exact one_resCells _ _) ?_ | refine x_storeA 1 rfl rfl rfl Try.hi30 (Try.cz30.trans (by simp [Value.cells, intsV, resCells, intCells, hs, hx10, hr4])) (by simp [Value.cells, intsV, resCells, intCells, hs, hx10, hr4]) (by first | exact one_intCells _ | exact one_resCells _ _) ?_ | refine x_storeA 2 rfl rfl rfl Try.hi30 (Try.cz30.trans (by simp [Value.cells, intsV, resCells, intCells, hs, hx10, hr4])) (by simp [Value.cells, intsV, resCells, intCells, hs, hx10, hr4]) (by first | exact one_intCells _ | exact one_resCells _ _) ?_ | refine x_storeA 3 rfl rfl rfl Try.hi30 (Try.cz30.trans (by simp [Value.cells, intsV, resCells, intCells, hs, hx10, hr4])) (by simp [Value.cells, intsV, resCells, intCells, hs, hx10, hr4]) (by first | exact one_intCells _ | exact one_resCells _ _) ?_ | refine x_storeA 4 rfl rfl rfl Try.hi30 (Try.cz30.trans (by simp [Value.cells, intsV, resCells, intCells, hs, hx10, hr4])) (by simp [Value.cells, intsV, resCells, intCells, hs, hx10, hr4]) (by first | exact one_intCells _ | exact one_resCells _ _) ?_ | refine x_storeA 5 rfl rfl rfl Try.hi30 (Try.cz30.trans (by simp [Value.cells, intsV, resCells, intCells, hs, hx10, hr4])) (by simp [Value.cells, intsV, resCells, intCells, hs, hx10, hr4]) (by first | exact one_intCells _ | exact one_resCells _ _) ?_ | refine x_storeA 6 rfl rfl rfl Try.hi30 (Try.cz30.trans (by simp [Value.cells, intsV, resCells, intCells, hs, hx10, hr4])) (by simp [Value.cells, intsV, resCells, intCells, hs, hx10, hr4]) (by first | exact one_intCells _ | exact one_resCells _ _) ?_ | refine x_storeA 7 rfl rfl rfl Try.hi30 (Try.cz30.trans (by simp [Value.cells, intsV, resCells, intCells, hs, hx10, hr4])) (by simp [Value.cells, intsV, resCells, intCells, hs, hx10, hr4]) (by first | exact one_intCells _ | exact one_resCells _ _) ?_ | refine x_storeA 0 rfl rfl rfl Try.hi30 Try.cz30 rfl (by first | (simp [Value.oneCell', opCells]; done) | assumption | exact one_ints _ | exact one_resCells _ _) ?_ | refine x_storeA 1 rfl rfl rfl Try.hi30 Try.cz30 rfl (by first | (simp [Value.oneCell', opCells]; done) | assumption | exact one_ints _ | exact one_resCells _ _) ?_ | refine x_storeA 2 rfl rfl rfl Try.hi30 Try.cz30 rfl (by first | (simp [Value.oneCell', opCells]; done) | assumption | exact one_ints _ | exact one_resCells _ _) ?_ | refine x_storeA 3 rfl rfl rfl Try.hi30 Try.cz30 rfl (by first | (simp [Value.oneCell', opCells]; done) | assumption | exact one_ints _ | exact one_resCells _ _) ?_ | refine x_storeA 4 rfl rfl rfl Try.hi30 Try.cz30 rfl (by first | (simp [Value.oneCell', opCells]; done) | assumption | exact one_ints _ | exact one_resCells _ _) ?_ | refine x_storeA 5 rfl rfl rfl Try.hi30 Try.cz30 rfl (by first | (simp [Value.oneCell', opCells]; done) | assumption | exact one_ints _ | exact one_resCells _ _) ?_ | refine x_storeA 6 rfl rfl rfl Try.hi30 Try.cz30 rfl (by first | (simp [Value.oneCell', opCells]; done) | assumption | exact one_ints _ | exact one_resCells _ _) ?_ | refine x_storeA 7 rfl rfl rfl Try.hi30 Try.cz30 rfl (by first | (simp [Value.oneCell', opCells]; done) | assumption | exact one_ints _ | exact one_resCells _ _) ?_
      refine w_val (v_assign rfl) rfl ?_
      refine w_nil ?_
      refine e_seq ?_
      refine e_seq ?_
      refine e_region ?_
      refine w_val (v_move rfl) rfl ?_
      refine w_val (v_neq rfl rfl) rfl ?_
      refine w_nil ?_
      refine e_condD rfl (fun hf => ?_) (fun hf => ?_)
      · refine e_seq ?_
        refine e_region ?_
        first | refine w_val (v_loadON Try.underlying23 rfl Try.hi23 rfl (hop) Try.cz23) rfl ?_ | refine w_val (v_loadBA 0 rfl Try.underlying23 rfl Try.hi23 Try.cz23 rfl) rfl ?_ | refine w_val (v_loadBA 1 rfl Try.underlying23 rfl Try.hi23 Try.cz23 rfl) rfl ?_ | refine w_val (v_loadBA 2 rfl Try.underlying23 rfl Try.hi23 Try.cz23 rfl) rfl ?_ | refine w_val (v_loadBA 3 rfl Try.underlying23 rfl Try.hi23 Try.cz23 rfl) rfl ?_ | refine w_val (v_loadBA 4 rfl Try.underlying23 rfl Try.hi23 Try.cz23 rfl) rfl ?_ | refine w_val (v_loadBA 5 rfl Try.underlying23 rfl Try.hi23 Try.cz23 rfl) rfl ?_ | refine w_val (v_loadBA 6 rfl Try.underlying23 rfl Try.hi23 Try.cz23 rfl) rfl ?_ | refine w_val (v_loadBA 7 rfl Try.underlying23 rfl Try.hi23 Try.cz23 rfl) rfl ?_ | refine w_val (v_loadBA 0 rfl Try.underlying23 rfl Try.hi23 (Try.cz23.trans (by simp [Value.cells, intsV, resCells, intCells, hs, hx10, hr4])) rfl) rfl ?_ | refine w_val (v_loadBA 1 rfl Try.underlying23 rfl Try.hi23 (Try.cz23.trans (by simp [Value.cells, intsV, resCells, intCells, hs, hx10, hr4])) rfl) rfl ?_ | refine w_val (v_loadBA 2 rfl Try.underlying23 rfl Try.hi23 (Try.cz23.trans (by simp [Value.cells, intsV, resCells, intCells, hs, hx10, hr4])) rfl) rfl ?_ | refine w_val (v_loadBA 3 rfl Try.underlying23 rfl Try.hi23 (Try.cz23.trans (by simp [Value.cells, intsV, resCells, intCells, hs, hx10, hr4])) rfl) rfl ?_ | refine w_val (v_loadBA 4 rfl Try.underlying23 rfl Try.hi23 (Try.cz23.trans (by simp [Value.cells, intsV, resCells, intCells, hs, hx10, hr4])) rfl) rfl ?_ | refine w_val (v_loadBA 5 rfl Try.underlying23 rfl Try.hi23 (Try.cz23.trans (by simp [Value.cells, intsV, resCells, intCells, hs, hx10, hr4])) rfl) rfl ?_ | refine w_val (v_loadBA 6 rfl Try.underlying23 rfl Try.hi23 (Try.cz23.trans (by simp [Value.cells, intsV, resCells, intCells, hs, hx10, hr4])) rfl) rfl ?_ | refine w_val (v_loadBA 7 rfl Try.underlying23 rfl Try.hi23 (Try.cz23.trans (by simp [Value.cells, intsV, resCells, intCells, hs, hx10, hr4])) rfl) rfl ?_ | refine w_val (v_loadBN 0 rfl Try.underlying23 rfl Try.hi23 Try.cz23 rfl rfl rfl) rfl ?_ | refine w_val (v_loadBN 1 rfl Try.underlying23 rfl Try.hi23 Try.cz23 rfl rfl rfl) rfl ?_ | refine w_val (v_loadBN 2 rfl Try.underlying23 rfl Try.hi23 Try.cz23 rfl rfl rfl) rfl ?_ | refine w_val (v_loadBN 3 rfl Try.underlying23 rfl Try.hi23 Try.cz23 rfl rfl rfl) rfl ?_ | refine w_val (v_loadBN 4 rfl Try.underlying23 rfl Try.hi23 Try.cz23 rfl rfl rfl) rfl ?_ | refine w_val (v_loadBN 5 rfl Try.underlying23 rfl Try.hi23 Try.cz23 rfl rfl rfl) rfl ?_ | refine w_val (v_loadBN 6 rfl Try.underlying23 rfl Try.hi23 Try.cz23 rfl rfl rfl) rfl ?_ | refine w_val (v_loadBN 7 rfl Try.underlying23 rfl Try.hi23 Try.cz23 rfl rfl rfl) rfl ?_
        refine w_val (v_build (v := intsV zero10) _ rfl (by intro _; simp [Instr.build, Instr.fill, Try.zeroValue23, go_sem]; rfl)) rfl ?_
        refine w_val (v_eqlInts Try.underlying23 (by kernel_rfl) Try.underlying2 Try.hi2 Try.cz2 (by first | rfl | assumption | (simp; omega)) (by first | rfl | assumption | (simp; omega)) rfl rfl) rfl ?_
        refine w_val (v_assign rfl) rfl ?_
        refine w_nil ?_
        refine e_retQ (q_ret1 rfl (.tmp rfl) ?_)
        exact fun w' hw' => ⟨by simp [hbad hf], hw'.res.nil⟩
      · have htw' := htw (by omega)
        refine e_skip ?_
        refine e_seq ?_
        refine e_region ?_
        first | refine w_val (v_loadON Try.underlying23 rfl Try.hi23 rfl (hop) Try.cz23) rfl ?_ | refine w_val (v_loadBA 0 rfl Try.underlying23 rfl Try.hi23 Try.cz23 rfl) rfl ?_ | refine w_val (v_loadBA 1 rfl Try.underlying23 rfl Try.hi23 Try.cz23 rfl) rfl ?_ | refine w_val (v_loadBA 2 rfl Try.underlying23 rfl Try.hi23 Try.cz23 rfl) rfl ?_ | refine w_val (v_loadBA 3 rfl Try.underlying23 rfl Try.hi23 Try.cz23 rfl) rfl ?_ | refine w_val (v_loadBA 4 rfl Try.underlying23 rfl Try.hi23 Try.cz23 rfl) rfl ?_ | refine w_val (v_loadBA 5 rfl Try.underlying23 rfl Try.hi23 Try.cz23 rfl) rfl ?_ | refine w_val (v_loadBA 6 rfl Try.underlying23 rfl Try.hi23 Try.cz23 rfl) rfl ?_ | refine w_val (v_loadBA 7 rfl Try.underlying23 rfl Try.hi23 Try.cz23 rfl) rfl ?_ | refine w_val (v_loadBA 0 rfl Try.underlying23 rfl Try.hi23 (Try.cz23.trans (by simp [Value.cells, intsV, resCells, intCells, hs, hx10, hr4])) rfl) rfl ?_ | refine w_val (v_loadBA 1 rfl Try.underlying23 rfl Try.hi23 (Try.cz23.trans (by simp [Value.cells, intsV, resCells, intCells, hs, hx10, hr4])) rfl) rfl ?_ | refine w_val (v_loadBA 2 rfl Try.underlying23 rfl Try.hi23 (Try.cz23.trans (by simp [Value.cells, intsV, resCells, intCells, hs, hx10, hr4])) rfl) rfl ?_ | refine w_val (v_loadBA 3 rfl Try.underlying23 rfl Try.hi23 (Try.cz23.trans (by simp [Value.cells, intsV, resCells, intCells, hs, hx10, hr4])) rfl) rfl ?_ | refine w_val (v_loadBA 4 rfl Try.underlying23 rfl Try.hi23 (Try.cz23.trans (by simp [Value.cells, intsV, resCells, intCells, hs, hx10, hr4])) rfl) rfl ?_ | refine w_val (v_loadBA 5 rfl Try.underlying23 rfl Try.hi23 (Try.cz23.trans (by simp [Value.cells, intsV, resCells, intCells, hs, hx10, hr4])) rfl) rfl ?_ | refine w_val (v_loadBA 6 rfl Try.underlying23 rfl Try.hi23 (Try.cz23.trans (by simp [Value.cells, intsV, resCells, intCells, hs, hx10, hr4])) rfl) rfl ?_ | refine w_val (v_loadBA 7 rfl Try.underlying23 rfl Try.hi23 (Try.cz23.trans (by simp [Value.cells, intsV, resCells, intCells, hs, hx10, hr4])) rfl) rfl ?_ | refine w_val (v_loadBN 0 rfl Try.underlying23 rfl Try.hi23 Try.cz23 rfl rfl rfl) rfl ?_ | refine w_val (v_loadBN 1 rfl Try.underlying23 rfl Try.hi23 Try.cz23 rfl rfl rfl) rfl ?_ | refine w_val (v_loadBN 2 rfl Try.underlying23 rfl Try.hi23 Try.cz23 rfl rfl rfl) rfl ?_ | refine w_val (v_loadBN 3 rfl Try.underlying23 rfl Try.hi23 Try.cz23 rfl rfl rfl) rfl ?_ | refine w_val (v_loadBN 4 rfl Try.underlying23 rfl Try.hi23 Try.cz23 rfl rfl rfl) rfl ?_ | refine w_val (v_loadBN 5 rfl Try.underlying23 rfl Try.hi23 Try.cz23 rfl rfl rfl) rfl ?_ | refine w_val (v_loadBN 6 rfl Try.underlying23 rfl Try.hi23 Try.cz23 rfl rfl rfl) rfl ?_ | refine w_val (v_loadBN 7 rfl Try.underlying23 rfl Try.hi23 Try.cz23 rfl rfl rfl) rfl ?_
        refine w_val (v_move rfl) rfl ?_
        refine w_op rfl ?_
        refine x_call0 (v := serDoV (x, c, g, f)) rfl rfl rfl Try.call15 rfl (fun w hw => by have h := serialDo_spec x _ d w (hd.mono hw.off) hx10; rw [htw'] at h; exact h) ?_
        dsimp only [serDoV]
        refine w_val (v_move rfl) rfl ?_
        refine w_val (v_extract rfl rfl) rfl ?_
        refine w_val (v_extract rfl rfl) rfl ?_
        refine w_val (v_extract rfl rfl) rfl ?_
        refine w_op rfl ?_
        refine x_alloc (z := .agg #[.int .i64 0, .int .i64 0, .int .i64 0, .int .i64 0, .int .i64 0, .int .i64 0, .int .i64 0, .int .i64 0, .int .i64 0, .int .i64 0]) (by intro w; exact Try.zeroValue23 w) rfl (fun b9 => ?_)
        refine w_op rfl ?_
        refine x_alloc (z := .agg #[.int .i64 0, .int .i64 0, .int .i64 0, .int .i64 0, .int .i64 0]) (by intro w; exact Try.zeroValue30 w) rfl (fun b10 => ?_)
        refine w_op rfl ?_
        first | refine x_storeA 0 rfl rfl rfl Try.hi23 (Try.cz23.trans (by simp [Value.cells, intsV, resCells, intCells, hs, hx10, hr4])) (by simp [Value.cells, intsV, resCells, intCells, hs, hx10, hr4]) (by first | exact one_intCells _ | exact one_resCells _ _) ?_ | refine x_storeA 1 rfl rfl rfl Try.hi23 (Try.cz23.trans (by simp [Value.cells, intsV, resCells, intCells, hs, hx10, hr4])) (by simp [Value.cells, intsV, resCells, intCells, hs, hx10, hr4]) (by first | exact one_intCells _ | exact one_resCells _ _) ?_ | refine x_storeA 2 rfl rfl rfl Try.hi23 (Try.cz23.trans (by simp [Value.cells, intsV, resCells, intCells, hs, hx10, hr4])) (by simp [Value.cells, intsV, resCells, intCells, hs, hx10, hr4]) (by first | exact one_intCells _ | exact one_resCells _ _) ?_ | refine x_storeA 3 rfl rfl rfl Try.hi23 (Try.cz23.trans (by simp [Value.cells, intsV, resCells, intCells, hs, hx10, hr4])) (by simp [Value.cells, intsV, resCells, intCells, hs, hx10, hr4]) (by first | exact one_intCells _ | exact one_resCells _ _) ?_ | refine x_storeA 4 rfl rfl rfl Try.hi23 (Try.cz23.trans (by simp [Value.cells, intsV, resCells, intCells, hs, hx10, hr4])) (by simp [Value.cells, intsV, resCells, intCells, hs, hx10, hr4]) (by first | exact one_intCells _ | exact one_resCells _ _) ?_ | refine x_storeA 5 rfl rfl rfl Try.hi23 (Try.cz23.trans (by simp [Value.cells, intsV, resCells, intCells, hs, hx10, hr4])) (by simp [Value.cells, intsV, resCells, intCells, hs, hx10, hr4]) (by first | exact one_intCells _ | exact one_resCells _ _) ?_ | refine x_storeA 6 rfl rfl rfl Try.hi23 (Try.cz23.trans (by simp [Value.cells, intsV, resCells, intCells, hs, hx10, hr4])) (by simp [Value.cells, intsV, resCells, intCells, hs, hx10, hr4]) (by first | exact one_intCells _ | exact one_resCells _ _) ?_ | refine x_storeA 7 rfl rfl rfl Try.hi23 (Try.cz23.trans (by simp [Value.cells, intsV, resCells, intCells, hs, hx10, hr4])) (by simp [Value.cells, intsV, resCells, intCells, hs, hx10, hr4]) (by first | exact one_intCells _ | exact one_resCells _ _) ?_ | refine x_storeA 0 rfl rfl rfl Try.hi23 Try.cz23 rfl (by first | (simp [Value.oneCell', opCells]; done) | assumption | exact one_ints _ | exact one_resCells _ _) ?_ | refine x_storeA 1 rfl rfl rfl Try.hi23 Try.cz23 rfl (by first | (simp [Value.oneCell', opCells]; done) | assumption | exact one_ints _ | exact one_resCells _ _) ?_ | refine x_storeA 2 rfl rfl rfl Try.hi23 Try.cz23 rfl (by first | (simp [Value.oneCell', opCells]; done) | assumption | exact one_ints _ | exact one_resCells _ _) ?_ | refine x_storeA 3 rfl rfl rfl Try.hi23 Try.cz23 rfl (by first | (simp [Value.oneCell', opCells]; done) | assumption | exact one_ints _ | exact one_resCells _ _) ?_ | refine x_storeA 4 rfl rfl rfl Try.hi23 Try.cz23 rfl (by first | (simp [Value.oneCell', opCells]; done) | assumption | exact one_ints _ | exact one_resCells _ _) ?_ | refine x_storeA 5 rfl rfl rfl Try.hi23 Try.cz23 rfl (by first | (simp [Value.oneCell', opCells]; done) | assumption | exact one_ints _ | exact one_resCells _ _) ?_ | refine x_storeA 6 rfl rfl rfl Try.hi23 Try.cz23 rfl (by first | (simp [Value.oneCell', opCells]; done) | assumption | exact one_ints _ | exact one_resCells _ _) ?_ | refine x_storeA 7 rfl rfl rfl Try.hi23 Try.cz23 rfl (by first | (simp [Value.oneCell', opCells]; done) | assumption | exact one_ints _ | exact one_resCells _ _) ?_
        refine w_op rfl ?_
        first | refine x_storeA 0 rfl rfl rfl Try.hi30 (Try.cz30.trans (by simp [Value.cells, intsV, resCells, intCells, hs, hx10, hr4])) (by simp [Value.cells, intsV, resCells, intCells, hs, hx10, hr4]) (by first | exact one_intCells _ | exact one_resCells _ _) ?_ | refine x_storeA 1 rfl rfl rfl Try.hi30 (Try.cz30.trans (by simp [Value.cells, intsV, resCells, intCells, hs, hx10, hr4])) (by simp [Value.cells, intsV, resCells, intCells, hs, hx10, hr4]) (by first | exact one_intCells _ | exact one_resCells _ _) ?_ | refine x_storeA 2 rfl rfl rfl Try.hi30 (Try.cz30.trans (by simp [Value.cells, intsV, resCells, intCells, hs, hx10, hr4])) (by simp [Value.cells, intsV, resCells, intCells, hs, hx10, hr4]) (by first | exact one_intCells _ | exact one_resCells _ _) ?_ | refine x_storeA 3 rfl rfl rfl Try.hi30 (Try.cz30.trans (by simp [Value.cells, intsV, resCells, intCells, hs, hx10, hr4])) (by simp [Value.cells, intsV, resCells, intCells, hs, hx10, hr4]) (by first | exact one_intCells _ | exact one_resCells _ _) ?_ | refine x_storeA 4 rfl rfl rfl Try.hi30 (Try.cz30.trans (by simp [Value.cells, intsV, resCells, intCells, hs, hx10, hr4])) (by simp [Value.cells, intsV, resCells, intCells, hs, hx10, hr4]) (by first | exact one_intCells _ | exact one_resCells _ _) ?_ | refine x_storeA 5 rfl rfl rfl Try.hi30 (Try.cz30.trans (by simp [Value.cells, intsV, resCells, intCells, hs, hx10, hr4])) (by simp [Value.cells, intsV, resCells, intCells, hs, hx10, hr4]) (by first | exact one_intCells _ | exact one_resCells _ _) ?_ | refine x_storeA 6 rfl rfl rfl Try.hi30 (Try.cz30.trans (by simp [Value.cells, intsV, resCells, intCells, hs, hx10, hr4])) (by simp [Value.cells, intsV, resCells, intCells, hs, hx10, hr4]) (by first | exact one_intCells _ | exact one_resCells _ _) ?_ | refine x_storeA 7 rfl rfl rfl Try.hi30 (Try.cz30.trans (by simp [Value.cells, intsV, resCells, intCells, hs, hx10, hr4])) (by simp [Value.cells, intsV, resCells, intCells, hs, hx10, hr4]) (by first | exact one_intCells _ | exact one_resCells _ _) ?_ | refine x_storeA 0 rfl rfl rfl Try.hi30 Try.cz30 rfl (by first | (simp [Value.oneCell', opCells]; done) | assumption | exact one_ints _ | exact one_resCells _ _) ?_ | refine x_storeA 1 rfl rfl rfl Try.hi30 Try.cz30 rfl (by first | (simp [Value.oneCell', opCells]; done) | assumption | exact one_ints _ | exact one_resCells _ _) ?_ | refine x_storeA 2 rfl rfl rfl Try.hi30 Try.cz30 rfl (by first | (simp [Value.oneCell', opCells]; done) | assumption | exact one_ints _ | exact one_resCells _ _) ?_ | refine x_storeA 3 rfl rfl rfl Try.hi30 Try.cz30 rfl (by first | (simp [Value.oneCell', opCells]; done) | assumption | exact one_ints _ | exact one_resCells _ _) ?_ | refine x_storeA 4 rfl rfl rfl Try.hi30 Try.cz30 rfl (by first | (simp [Value.oneCell', opCells]; done) | assumption | exact one_ints _ | exact one_resCells _ _) ?_ | refine x_storeA 5 rfl rfl rfl Try.hi30 Try.cz30 rfl (by first | (simp [Value.oneCell', opCells]; done) | assumption | exact one_ints _ | exact one_resCells _ _) ?_ | refine x_storeA 6 rfl rfl rfl Try.hi30 Try.cz30 rfl (by first | (simp [Value.oneCell', opCells]; done) | assumption | exact one_ints _ | exact one_resCells _ _) ?_ | refine x_storeA 7 rfl rfl rfl Try.hi30 Try.cz30 rfl (by first | (simp [Value.oneCell', opCells]; done) | assumption | exact one_ints _ | exact one_resCells _ _) ?_
        refine w_val (v_assign rfl) rfl ?_
        refine w_nil ?_
        refine e_seq ?_
        have hf0 : f = 0 := by omega
        refine e_region ?_
        refine w_val (v_move rfl) rfl ?_
        refine w_val (v_is (v' := .bool true) (v_eql rfl rfl) (by rw [decide_eq_true hf0])) rfl ?_
        refine w_val (v_move rfl) rfl ?_
        refine w_want rfl rfl ?_
        first | refine w_val (v_loadON Try.underlying23 rfl Try.hi23 rfl (hop) Try.cz23) rfl ?_ | refine w_val (v_loadBA 0 rfl Try.underlying23 rfl Try.hi23 Try.cz23 rfl) rfl ?_ | refine w_val (v_loadBA 1 rfl Try.underlying23 rfl Try.hi23 Try.cz23 rfl) rfl ?_ | refine w_val (v_loadBA 2 rfl Try.underlying23 rfl Try.hi23 Try.cz23 rfl) rfl ?_ | refine w_val (v_loadBA 3 rfl Try.underlying23 rfl Try.hi23 Try.cz23 rfl) rfl ?_ | refine w_val (v_loadBA 4 rfl Try.underlying23 rfl Try.hi23 Try.cz23 rfl) rfl ?_ | refine w_val (v_loadBA 5 rfl Try.underlying23 rfl Try.hi23 Try.cz23 rfl) rfl ?_ | refine w_val (v_loadBA 6 rfl Try.underlying23 rfl Try.hi23 Try.cz23 rfl) rfl ?_ | refine w_val (v_loadBA 7 rfl Try.underlying23 rfl Try.hi23 Try.cz23 rfl) rfl ?_ | refine w_val (v_loadBA 0 rfl Try.underlying23 rfl Try.hi23 (Try.cz23.trans (by simp [Value.cells, intsV, resCells, intCells, hs, hx10, hr4])) rfl) rfl ?_ | refine w_val (v_loadBA 1 rfl Try.underlying23 rfl Try.hi23 (Try.cz23.trans (by simp [Value.cells, intsV, resCells, intCells, hs, hx10, hr4])) rfl) rfl ?_ | refine w_val (v_loadBA 2 rfl Try.underlying23 rfl Try.hi23 (Try.cz23.trans (by simp [Value.cells, intsV, resCells, intCells, hs, hx10, hr4])) rfl) rfl ?_ | refine w_val (v_loadBA 3 rfl Try.underlying23 rfl Try.hi23 (Try.cz23.trans (by simp [Value.cells, intsV, resCells, intCells, hs, hx10, hr4])) rfl) rfl ?_ | refine w_val (v_loadBA 4 rfl Try.underlying23 rfl Try.hi23 (Try.cz23.trans (by simp [Value.cells, intsV, resCells, intCells, hs, hx10, hr4])) rfl) rfl ?_ | refine w_val (v_loadBA 5 rfl Try.underlying23 rfl Try.hi23 (Try.cz23.trans (by simp [Value.cells, intsV, resCells, intCells, hs, hx10, hr4])) rfl) rfl ?_ | refine w_val (v_loadBA 6 rfl Try.underlying23 rfl Try.hi23 (Try.cz23.trans (by simp [Value.cells, intsV, resCells, intCells, hs, hx10, hr4])) rfl) rfl ?_ | refine w_val (v_loadBA 7 rfl Try.underlying23 rfl Try.hi23 (Try.cz23.trans (by simp [Value.cells, intsV, resCells, intCells, hs, hx10, hr4])) rfl) rfl ?_ | refine w_val (v_loadBN 0 rfl Try.underlying23 rfl Try.hi23 Try.cz23 rfl rfl rfl) rfl ?_ | refine w_val (v_loadBN 1 rfl Try.underlying23 rfl Try.hi23 Try.cz23 rfl rfl rfl) rfl ?_ | refine w_val (v_loadBN 2 rfl Try.underlying23 rfl Try.hi23 Try.cz23 rfl rfl rfl) rfl ?_ | refine w_val (v_loadBN 3 rfl Try.underlying23 rfl Try.hi23 Try.cz23 rfl rfl rfl) rfl ?_ | refine w_val (v_loadBN 4 rfl Try.underlying23 rfl Try.hi23 Try.cz23 rfl rfl rfl) rfl ?_ | refine w_val (v_loadBN 5 rfl Try.underlying23 rfl Try.hi23 Try.cz23 rfl rfl rfl) rfl ?_ | refine w_val (v_loadBN 6 rfl Try.underlying23 rfl Try.hi23 Try.cz23 rfl rfl rfl) rfl ?_ | refine w_val (v_loadBN 7 rfl Try.underlying23 rfl Try.hi23 Try.cz23 rfl rfl rfl) rfl ?_
        refine w_want rfl rfl ?_
        first | refine w_val (v_loadON Try.underlying23 rfl Try.hi23 rfl (hop) Try.cz23) rfl ?_ | refine w_val (v_loadBA 0 rfl Try.underlying23 rfl Try.hi23 Try.cz23 rfl) rfl ?_ | refine w_val (v_loadBA 1 rfl Try.underlying23 rfl Try.hi23 Try.cz23 rfl) rfl ?_ | refine w_val (v_loadBA 2 rfl Try.underlying23 rfl Try.hi23 Try.cz23 rfl) rfl ?_ | refine w_val (v_loadBA 3 rfl Try.underlying23 rfl Try.hi23 Try.cz23 rfl) rfl ?_ | refine w_val (v_loadBA 4 rfl Try.underlying23 rfl Try.hi23 Try.cz23 rfl) rfl ?_ | refine w_val (v_loadBA 5 rfl Try.underlying23 rfl Try.hi23 Try.cz23 rfl) rfl ?_ | refine w_val (v_loadBA 6 rfl Try.underlying23 rfl Try.hi23 Try.cz23 rfl) rfl ?_ | refine w_val (v_loadBA 7 rfl Try.underlying23 rfl Try.hi23 Try.cz23 rfl) rfl ?_ | refine w_val (v_loadBA 0 rfl Try.underlying23 rfl Try.hi23 (Try.cz23.trans (by simp [Value.cells, intsV, resCells, intCells, hs, hx10, hr4])) rfl) rfl ?_ | refine w_val (v_loadBA 1 rfl Try.underlying23 rfl Try.hi23 (Try.cz23.trans (by simp [Value.cells, intsV, resCells, intCells, hs, hx10, hr4])) rfl) rfl ?_ | refine w_val (v_loadBA 2 rfl Try.underlying23 rfl Try.hi23 (Try.cz23.trans (by simp [Value.cells, intsV, resCells, intCells, hs, hx10, hr4])) rfl) rfl ?_ | refine w_val (v_loadBA 3 rfl Try.underlying23 rfl Try.hi23 (Try.cz23.trans (by simp [Value.cells, intsV, resCells, intCells, hs, hx10, hr4])) rfl) rfl ?_ | refine w_val (v_loadBA 4 rfl Try.underlying23 rfl Try.hi23 (Try.cz23.trans (by simp [Value.cells, intsV, resCells, intCells, hs, hx10, hr4])) rfl) rfl ?_ | refine w_val (v_loadBA 5 rfl Try.underlying23 rfl Try.hi23 (Try.cz23.trans (by simp [Value.cells, intsV, resCells, intCells, hs, hx10, hr4])) rfl) rfl ?_ | refine w_val (v_loadBA 6 rfl Try.underlying23 rfl Try.hi23 (Try.cz23.trans (by simp [Value.cells, intsV, resCells, intCells, hs, hx10, hr4])) rfl) rfl ?_ | refine w_val (v_loadBA 7 rfl Try.underlying23 rfl Try.hi23 (Try.cz23.trans (by simp [Value.cells, intsV, resCells, intCells, hs, hx10, hr4])) rfl) rfl ?_ | refine w_val (v_loadBN 0 rfl Try.underlying23 rfl Try.hi23 Try.cz23 rfl rfl rfl) rfl ?_ | refine w_val (v_loadBN 1 rfl Try.underlying23 rfl Try.hi23 Try.cz23 rfl rfl rfl) rfl ?_ | refine w_val (v_loadBN 2 rfl Try.underlying23 rfl Try.hi23 Try.cz23 rfl rfl rfl) rfl ?_ | refine w_val (v_loadBN 3 rfl Try.underlying23 rfl Try.hi23 Try.cz23 rfl rfl rfl) rfl ?_ | refine w_val (v_loadBN 4 rfl Try.underlying23 rfl Try.hi23 Try.cz23 rfl rfl rfl) rfl ?_ | refine w_val (v_loadBN 5 rfl Try.underlying23 rfl Try.hi23 Try.cz23 rfl rfl rfl) rfl ?_ | refine w_val (v_loadBN 6 rfl Try.underlying23 rfl Try.hi23 Try.cz23 rfl rfl rfl) rfl ?_ | refine w_val (v_loadBN 7 rfl Try.underlying23 rfl Try.hi23 Try.cz23 rfl rfl rfl) rfl ?_
        refine w_want rfl rfl ?_
        refine w_val (v_is (v' := .bool true) (v_eqlInts Try.underlying23 (by kernel_rfl) Try.underlying2 Try.hi2 Try.cz2 (by first | rfl | assumption | (simp; omega)) (by first | rfl | assumption | (simp; omega)) rfl rfl) (by rw [decide_eq_true rfl])) rfl ?_
        first | refine w_val (v_pickT rfl rfl) rfl ?_ | refine w_val (v_pickF rfl rfl) rfl ?_
        refine w_val (v_move rfl) rfl ?_
        refine w_want rfl rfl ?_
        first | refine w_val (v_loadON Try.underlying30 rfl Try.hi30 rfl (hop) Try.cz30) rfl ?_ | refine w_val (v_loadBA 0 rfl Try.underlying30 rfl Try.hi30 Try.cz30 rfl) rfl ?_ | refine w_val (v_loadBA 1 rfl Try.underlying30 rfl Try.hi30 Try.cz30 rfl) rfl ?_ | refine w_val (v_loadBA 2 rfl Try.underlying30 rfl Try.hi30 Try.cz30 rfl) rfl ?_ | refine w_val (v_loadBA 3 rfl Try.underlying30 rfl Try.hi30 Try.cz30 rfl) rfl ?_ | refine w_val (v_loadBA 4 rfl Try.underlying30 rfl Try.hi30 Try.cz30 rfl) rfl ?_ | refine w_val (v_loadBA 5 rfl Try.underlying30 rfl Try.hi30 Try.cz30 rfl) rfl ?_ | refine w_val (v_loadBA 6 rfl Try.underlying30 rfl Try.hi30 Try.cz30 rfl) rfl ?_ | refine w_val (v_loadBA 7 rfl Try.underlying30 rfl Try.hi30 Try.cz30 rfl) rfl ?_ | refine w_val (v_loadBA 0 rfl Try.underlying30 rfl Try.hi30 (Try.cz30.trans (by simp [Value.cells, intsV, resCells, intCells, hs, hx10, hr4])) rfl) rfl ?_ | refine w_val (v_loadBA 1 rfl Try.underlying30 rfl Try.hi30 (Try.cz30.trans (by simp [Value.cells, intsV, resCells, intCells, hs, hx10, hr4])) rfl) rfl ?_ | refine w_val (v_loadBA 2 rfl Try.underlying30 rfl Try.hi30 (Try.cz30.trans (by simp [Value.cells, intsV, resCells, intCells, hs, hx10, hr4])) rfl) rfl ?_ | refine w_val (v_loadBA 3 rfl Try.underlying30 rfl Try.hi30 (Try.cz30.trans (by simp [Value.cells, intsV, resCells, intCells, hs, hx10, hr4])) rfl) rfl ?_ | refine w_val (v_loadBA 4 rfl Try.underlying30 rfl Try.hi30 (Try.cz30.trans (by simp [Value.cells, intsV, resCells, intCells, hs, hx10, hr4])) rfl) rfl ?_ | refine w_val (v_loadBA 5 rfl Try.underlying30 rfl Try.hi30 (Try.cz30.trans (by simp [Value.cells, intsV, resCells, intCells, hs, hx10, hr4])) rfl) rfl ?_ | refine w_val (v_loadBA 6 rfl Try.underlying30 rfl Try.hi30 (Try.cz30.trans (by simp [Value.cells, intsV, resCells, intCells, hs, hx10, hr4])) rfl) rfl ?_ | refine w_val (v_loadBA 7 rfl Try.underlying30 rfl Try.hi30 (Try.cz30.trans (by simp [Value.cells, intsV, resCells, intCells, hs, hx10, hr4])) rfl) rfl ?_ | refine w_val (v_loadBN 0 rfl Try.underlying30 rfl Try.hi30 Try.cz30 rfl rfl rfl) rfl ?_ | refine w_val (v_loadBN 1 rfl Try.underlying30 rfl Try.hi30 Try.cz30 rfl rfl rfl) rfl ?_ | refine w_val (v_loadBN 2 rfl Try.underlying30 rfl Try.hi30 Try.cz30 rfl rfl rfl) rfl ?_ | refine w_val (v_loadBN 3 rfl Try.underlying30 rfl Try.hi30 Try.cz30 rfl rfl rfl) rfl ?_ | refine w_val (v_loadBN 4 rfl Try.underlying30 rfl Try.hi30 Try.cz30 rfl rfl rfl) rfl ?_ | refine w_val (v_loadBN 5 rfl Try.underlying30 rfl Try.hi30 Try.cz30 rfl rfl rfl) rfl ?_ | refine w_val (v_loadBN 6 rfl Try.underlying30 rfl Try.hi30 Try.cz30 rfl rfl rfl) rfl ?_ | refine w_val (v_loadBN 7 rfl Try.underlying30 rfl Try.hi30 Try.cz30 rfl rfl rfl) rfl ?_
        refine w_want rfl rfl ?_
        first | refine w_val (v_loadON Try.underlying30 rfl Try.hi30 rfl (hop) Try.cz30) rfl ?_ | refine w_val (v_loadBA 0 rfl Try.underlying30 rfl Try.hi30 Try.cz30 rfl) rfl ?_ | refine w_val (v_loadBA 1 rfl Try.underlying30 rfl Try.hi30 Try.cz30 rfl) rfl ?_ | refine w_val (v_loadBA 2 rfl Try.underlying30 rfl Try.hi30 Try.cz30 rfl) rfl ?_ | refine w_val (v_loadBA 3 rfl Try.underlying30 rfl Try.hi30 Try.cz30 rfl) rfl ?_ | refine w_val (v_loadBA 4 rfl Try.underlying30 rfl Try.hi30 Try.cz30 rfl) rfl ?_ | refine w_val (v_loadBA 5 rfl Try.underlying30 rfl Try.hi30 Try.cz30 rfl) rfl ?_ | refine w_val (v_loadBA 6 rfl Try.underlying30 rfl Try.hi30 Try.cz30 rfl) rfl ?_ | refine w_val (v_loadBA 7 rfl Try.underlying30 rfl Try.hi30 Try.cz30 rfl) rfl ?_ | refine w_val (v_loadBA 0 rfl Try.underlying30 rfl Try.hi30 (Try.cz30.trans (by simp [Value.cells, intsV, resCells, intCells, hs, hx10, hr4])) rfl) rfl ?_ | refine w_val (v_loadBA 1 rfl Try.underlying30 rfl Try.hi30 (Try.cz30.trans (by simp [Value.cells, intsV, resCells, intCells, hs, hx10, hr4])) rfl) rfl ?_ | refine w_val (v_loadBA 2 rfl Try.underlying30 rfl Try.hi30 (Try.cz30.trans (by simp [Value.cells, intsV, resCells, intCells, hs, hx10, hr4])) rfl) rfl ?_ | refine w_val (v_loadBA 3 rfl Try.underlying30 rfl Try.hi30 (Try.cz30.trans (by simp [Value.cells, intsV, resCells, intCells, hs, hx10, hr4])) rfl) rfl ?_ | refine w_val (v_loadBA 4 rfl Try.underlying30 rfl Try.hi30 (Try.cz30.trans (by simp [Value.cells, intsV, resCells, intCells, hs, hx10, hr4])) rfl) rfl ?_ | refine w_val (v_loadBA 5 rfl Try.underlying30 rfl Try.hi30 (Try.cz30.trans (by simp [Value.cells, intsV, resCells, intCells, hs, hx10, hr4])) rfl) rfl ?_ | refine w_val (v_loadBA 6 rfl Try.underlying30 rfl Try.hi30 (Try.cz30.trans (by simp [Value.cells, intsV, resCells, intCells, hs, hx10, hr4])) rfl) rfl ?_ | refine w_val (v_loadBA 7 rfl Try.underlying30 rfl Try.hi30 (Try.cz30.trans (by simp [Value.cells, intsV, resCells, intCells, hs, hx10, hr4])) rfl) rfl ?_ | refine w_val (v_loadBN 0 rfl Try.underlying30 rfl Try.hi30 Try.cz30 rfl rfl rfl) rfl ?_ | refine w_val (v_loadBN 1 rfl Try.underlying30 rfl Try.hi30 Try.cz30 rfl rfl rfl) rfl ?_ | refine w_val (v_loadBN 2 rfl Try.underlying30 rfl Try.hi30 Try.cz30 rfl rfl rfl) rfl ?_ | refine w_val (v_loadBN 3 rfl Try.underlying30 rfl Try.hi30 Try.cz30 rfl rfl rfl) rfl ?_ | refine w_val (v_loadBN 4 rfl Try.underlying30 rfl Try.hi30 Try.cz30 rfl rfl rfl) rfl ?_ | refine w_val (v_loadBN 5 rfl Try.underlying30 rfl Try.hi30 Try.cz30 rfl rfl rfl) rfl ?_ | refine w_val (v_loadBN 6 rfl Try.underlying30 rfl Try.hi30 Try.cz30 rfl rfl rfl) rfl ?_ | refine w_val (v_loadBN 7 rfl Try.underlying30 rfl Try.hi30 Try.cz30 rfl rfl rfl) rfl ?_
        refine w_want rfl rfl ?_
        refine w_val (v_is (v' := .bool true) (v_eqlRes Try.underlying30 (by kernel_rfl) (by kernel_rfl) (by kernel_rfl) rfl rfl Try.underlying3 Try.underlying28 Try.underlying2 Try.hi2 Try.cz2 Try.hi28 Try.cz28 (by first | rfl | assumption | (simp; omega)) (by first | rfl | assumption | (simp; omega)) rfl rfl) (by rw [decide_eq_true ⟨rfl, rfl⟩])) rfl ?_
        first | refine w_val (v_pickT rfl rfl) rfl ?_ | refine w_val (v_pickF rfl rfl) rfl ?_
        refine w_val (v_assign rfl) rfl ?_
        refine w_nil ?_
        refine e_retQ (q_ret1 rfl (.tmp rfl) ?_)
        exact fun w' hw' => ⟨rfl, hw'.res.nil⟩
end Go.SL
