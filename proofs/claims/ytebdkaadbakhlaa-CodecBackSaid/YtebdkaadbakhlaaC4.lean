/- Ytebdkaadbakhlaa: part C4 of this seat's own texts. -/
import Derived.Test.YtebdkaadbakhlaaC3
set_option linter.unusedVariables false
set_option linter.unusedSimpArgs false
open Go Go.Proofs Go.SL
set_option maxRecDepth 100000
namespace Go.SL
def storedL (d : DeedL) (i : Nat) : Bool := (d.take i).any fun o => decide (o.kind = 7)
theorem storedL_succ {d : DeedL} {i : Nat} (h : i < d.length) : storedL d (i + 1) = (storedL d i || decide (d[i].kind = 7)) := by
  unfold storedL
  rw [List.take_succ_eq_append_getElem h, List.any_append]
  simp
theorem storedL_true {d : DeedL} {i k : Nat} (hk : k < i) (h : k < d.length) (h7 : d[k].kind = 7) : storedL d i = true := by
  unfold storedL
  rw [List.any_eq_true]
  exact ⟨d[k], List.mem_take_iff_getElem.2 ⟨k, by omega, rfl⟩, by simp [h7]⟩
theorem storedL_false {d : DeedL} {i : Nat} (h : ∀ k (hk : k < d.length), k < i → d[k].kind ≠ 7) : storedL d i = false := by
  unfold storedL
  rw [List.any_eq_false]
  intro o ho
  obtain ⟨k, hk, rfl⟩ := List.mem_take_iff_getElem.1 ho
  have := h k (by omega) (by omega)
  simp [this]
theorem skip_b {o : OpL} (h : opFaultL o = 0) : o.kind ≠ 9 ∨ (0 ≤ o.b ∧ o.b < 14) := by
  by_cases hk : o.kind = 9
  · right
    unfold opFaultL at h
    rw [if_neg (by omega), lims_skip hk] at h
    simp only [List.getD_cons_zero, List.getD_cons_succ] at h
    split at h
    · simp_all
    · split at h
      · simp_all
      · rename_i h1
        simp only [badL] at h1
        simp at h1
        omega
  · exact .inl hk
theorem DeedFault_spec (v : Value) (d : DeedL) (w : World) (h : IsDeed w.cell? v d) : Calls Try.prog 21 #[v] w fun e w' => e = .returned (faultV (checkL d)) ∧ Res w [] [] w' := by
  rw [← off_none w] at h
  obtain ⟨A, kp, rfl, hle, hc⟩ := h.form
  refine enter0 (N := 74) Try.func21 rfl rfl rfl ?_
  refine e_seq ?_
  refine e_region ?_
  refine w_op rfl ?_
  refine x_alloc (z := .agg #[.int .i64 0, .int .i64 0]) (by intro w; exact Try.zeroValue44 w) rfl (fun b2 => ?_)
  refine w_nil ?_
  refine e_seq ?_
  refine e_seq ?_
  refine e_region ?_
  refine w_val (v_move rfl) rfl ?_
  refine w_val (v_lenS Try.underlying25 rfl) rfl ?_
  refine w_val (v_gtr rfl rfl) rfl ?_
  refine w_nil ?_
  refine e_condD rfl (fun h14 => ?_) (fun h14 => ?_)
  · refine e_seq ?_
    refine e_region ?_
    refine w_op rfl ?_
    refine x_call0 (v := faultV (4, -1)) rfl rfl rfl Try.call47 rfl (fun w hw => F_spec _ _ w) ?_
    refine w_op rfl ?_
    first | refine x_storeA 0 rfl rfl rfl Try.hi44 Try.cz44 rfl (by first | (simp [Value.oneCell', opCells]; done) | assumption | exact one_ints _ | exact one_resCells _ _) ?_ | refine x_storeA 1 rfl rfl rfl Try.hi44 Try.cz44 rfl (by first | (simp [Value.oneCell', opCells]; done) | assumption | exact one_ints _ | exact one_resCells _ _) ?_ | refine x_storeA 2 rfl rfl rfl Try.hi44 Try.cz44 rfl (by first | (simp [Value.oneCell', opCells]; done) | assumption | exact one_ints _ | exact one_resCells _ _) ?_ | refine x_storeA 3 rfl rfl rfl Try.hi44 Try.cz44 rfl (by first | (simp [Value.oneCell', opCells]; done) | assumption | exact one_ints _ | exact one_resCells _ _) ?_ | refine x_storeA 4 rfl rfl rfl Try.hi44 Try.cz44 rfl (by first | (simp [Value.oneCell', opCells]; done) | assumption | exact one_ints _ | exact one_resCells _ _) ?_ | refine x_storeA 5 rfl rfl rfl Try.hi44 Try.cz44 rfl (by first | (simp [Value.oneCell', opCells]; done) | assumption | exact one_ints _ | exact one_resCells _ _) ?_ | refine x_storeA 6 rfl rfl rfl Try.hi44 Try.cz44 rfl (by first | (simp [Value.oneCell', opCells]; done) | assumption | exact one_ints _ | exact one_resCells _ _) ?_ | refine x_storeA 7 rfl rfl rfl Try.hi44 Try.cz44 rfl (by first | (simp [Value.oneCell', opCells]; done) | assumption | exact one_ints _ | exact one_resCells _ _) ?_
    refine w_nil ?_
    refine e_retQ (q_ret1 rfl (ResV.agg 0 rfl rfl (by rw [isAggD, Try.underlying44]; rfl) (Try.cz44) Try.hi44) ?_)
    exact fun w' hw' => ⟨by simp only [checkL]; rw [if_pos (by omega)]; rfl, hw'.res.nil⟩
  · refine e_skip ?_
    refine e_seq ?_
    refine e_seq ?_
    refine e_region ?_
    refine w_val (v_assign rfl) rfl ?_
    refine w_nil ?_
    refine e_block ?_
    refine e_loopK (σ := Nat) [0, 2] (.cons rfl (.cons rfl .nil)) (fun k => [(3, .int .i64 k)]) (fun k => k ≤ d.length ∧ checkFrom d.length k (storedL d k) (d.drop k) = checkL d) (fun k => d.length - k) 0 ⟨by simp, by simp only [checkL]; rw [if_neg (by omega)]; rfl⟩ (by repeat (first | exact Sub.nil _ | refine Sub.cons rfl ?_)) ?_
    rintro k ⟨hk, hrel⟩
    refine e_seq ?_
    refine e_seq ?_
    refine e_region ?_
    refine w_val (v_move rfl) rfl ?_
    refine w_val (v_move rfl) rfl ?_
    refine w_val (v_lenS Try.underlying25 rfl) rfl ?_
    refine w_val (v_lss rfl rfl) rfl ?_
    refine w_nil ?_
    refine e_condD rfl (fun hlt => ?_) (fun hlt => ?_)
    · have hlt' : k < d.length := by omega
      obtain ⟨ad, rfl, hop⟩ := IsDeed.cells hc hlt'
      have hnx := fun hc => checkFrom_next (total := d.length) (i := k) (st := storedL d k) (d := d) hlt' hc
      have hhit := fun hc => checkFrom_hit (total := d.length) (i := k) (st := storedL d k) (d := d) hlt' hc
      rw [← storedL_succ hlt'] at hnx
      rw [hrel] at hnx hhit
      generalize ho : d[k] = o at *
      refine e_skip ?_
      refine e_seq ?_
      refine e_block ?_
      refine e_seq ?_
      refine e_seq ?_
      refine e_region ?_
      refine w_val (v_move rfl) rfl ?_
      refine w_val (v_move rfl) rfl ?_
      first | refine w_val (v_indexSB Try.underlying25 Try.hi36 Try.cz36 rfl rfl (by omega)) rfl ?_ | refine w_val (v_indexS Try.underlying25 Try.hi36 Try.cz36 rfl rfl (by omega)) rfl ?_
      first | refine w_val (v_loadON Try.underlying36 rfl Try.hi36 rfl (hop) Try.cz36) rfl ?_ | refine w_val (v_loadBA 0 rfl Try.underlying36 rfl Try.hi36 Try.cz36 rfl) rfl ?_ | refine w_val (v_loadBA 1 rfl Try.underlying36 rfl Try.hi36 Try.cz36 rfl) rfl ?_ | refine w_val (v_loadBA 2 rfl Try.underlying36 rfl Try.hi36 Try.cz36 rfl) rfl ?_ | refine w_val (v_loadBA 3 rfl Try.underlying36 rfl Try.hi36 Try.cz36 rfl) rfl ?_ | refine w_val (v_loadBA 4 rfl Try.underlying36 rfl Try.hi36 Try.cz36 rfl) rfl ?_ | refine w_val (v_loadBA 5 rfl Try.underlying36 rfl Try.hi36 Try.cz36 rfl) rfl ?_ | refine w_val (v_loadBA 6 rfl Try.underlying36 rfl Try.hi36 Try.cz36 rfl) rfl ?_ | refine w_val (v_loadBA 7 rfl Try.underlying36 rfl Try.hi36 Try.cz36 rfl) rfl ?_ | refine w_val (v_loadBN 0 rfl Try.underlying36 rfl Try.hi36 Try.cz36 rfl rfl rfl) rfl ?_ | refine w_val (v_loadBN 1 rfl Try.underlying36 rfl Try.hi36 Try.cz36 rfl rfl rfl) rfl ?_ | refine w_val (v_loadBN 2 rfl Try.underlying36 rfl Try.hi36 Try.cz36 rfl rfl rfl) rfl ?_ | refine w_val (v_loadBN 3 rfl Try.underlying36 rfl Try.hi36 Try.cz36 rfl rfl rfl) rfl ?_ | refine w_val (v_loadBN 4 rfl Try.underlying36 rfl Try.hi36 Try.cz36 rfl rfl rfl) rfl ?_ | refine w_val (v_loadBN 5 rfl Try.underlying36 rfl Try.hi36 Try.cz36 rfl rfl rfl) rfl ?_ | refine w_val (v_loadBN 6 rfl Try.underlying36 rfl Try.hi36 Try.cz36 rfl rfl rfl) rfl ?_ | refine w_val (v_loadBN 7 rfl Try.underlying36 rfl Try.hi36 Try.cz36 rfl rfl rfl) rfl ?_
      refine w_op rfl ?_
      refine x_call0 (v := .int .i64 (opFaultL o)) rfl rfl rfl Try.call48 rfl (fun w hw => OpFault_spec o w) ?_
      refine w_val (v_assign rfl) rfl ?_
      refine w_nil ?_
      refine e_seq ?_
      refine e_region ?_
      refine w_val (v_move rfl) rfl ?_
      refine w_val (v_neq rfl rfl) rfl ?_
      refine w_nil ?_
      refine e_condD rfl (fun h1 => ?_) (fun h1 => ?_)
      · have hthis : opCheckL d.length k (storedL d k) o = opFaultL o := by simp only [opCheckL]; rw [if_pos h1]
        refine e_seq ?_
        refine e_region ?_
        refine w_val (v_move rfl) rfl ?_
        refine w_val (v_move rfl) rfl ?_
        refine w_op rfl ?_
        refine x_call0 (v := faultV (opFaultL o, k)) rfl rfl rfl Try.call47 rfl (fun w hw => F_spec _ _ w) ?_
        refine w_op rfl ?_
        first | refine x_storeA 0 rfl rfl rfl Try.hi44 Try.cz44 rfl (by first | (simp [Value.oneCell', opCells]; done) | assumption | exact one_ints _ | exact one_resCells _ _) ?_ | refine x_storeA 1 rfl rfl rfl Try.hi44 Try.cz44 rfl (by first | (simp [Value.oneCell', opCells]; done) | assumption | exact one_ints _ | exact one_resCells _ _) ?_ | refine x_storeA 2 rfl rfl rfl Try.hi44 Try.cz44 rfl (by first | (simp [Value.oneCell', opCells]; done) | assumption | exact one_ints _ | exact one_resCells _ _) ?_ | refine x_storeA 3 rfl rfl rfl Try.hi44 Try.cz44 rfl (by first | (simp [Value.oneCell', opCells]; done) | assumption | exact one_ints _ | exact one_resCells _ _) ?_ | refine x_storeA 4 rfl rfl rfl Try.hi44 Try.cz44 rfl (by first | (simp [Value.oneCell', opCells]; done) | assumption | exact one_ints _ | exact one_resCells _ _) ?_ | refine x_storeA 5 rfl rfl rfl Try.hi44 Try.cz44 rfl (by first | (simp [Value.oneCell', opCells]; done) | assumption | exact one_ints _ | exact one_resCells _ _) ?_ | refine x_storeA 6 rfl rfl rfl Try.hi44 Try.cz44 rfl (by first | (simp [Value.oneCell', opCells]; done) | assumption | exact one_ints _ | exact one_resCells _ _) ?_ | refine x_storeA 7 rfl rfl rfl Try.hi44 Try.cz44 rfl (by first | (simp [Value.oneCell', opCells]; done) | assumption | exact one_ints _ | exact one_resCells _ _) ?_
        refine w_nil ?_
        refine e_retQ (q_ret1 rfl (ResV.agg 0 rfl rfl (by rw [isAggD, Try.underlying44]; rfl) (Try.cz44) Try.hi44) ?_)
        exact fun w' hw' => ⟨by rw [hhit (by rw [hthis]; exact h1), hthis]; rfl, hw'.res.nil⟩
      · have hB := skip_b (o := o) (by omega)
        refine e_skip ?_
        refine e_seq ?_
        refine e_seq ?_
        refine e_region ?_
        refine w_val (v_move rfl) rfl ?_
        refine w_val (v_move rfl) rfl ?_
        first | refine w_val (v_indexSB Try.underlying25 Try.hi36 Try.cz36 rfl rfl (by omega)) rfl ?_ | refine w_val (v_indexS Try.underlying25 Try.hi36 Try.cz36 rfl rfl (by omega)) rfl ?_
        first | refine w_val (v_fieldAddrB (o := 0) Try.underlying36 rfl rfl Try.nz3 rfl) rfl ?_ | refine w_val (v_fieldAddr (o := 0) Try.underlying36 rfl rfl Try.nz3 rfl) rfl ?_
        first | refine w_val (v_loadO Try.underlying3 rfl rfl ((hop) _ _ rfl)) rfl ?_ | refine w_val (v_loadB 0 rfl Try.underlying3 rfl rfl rfl) rfl ?_ | refine w_val (v_loadB 1 rfl Try.underlying3 rfl rfl rfl) rfl ?_ | refine w_val (v_loadB 2 rfl Try.underlying3 rfl rfl rfl) rfl ?_ | refine w_val (v_loadB 3 rfl Try.underlying3 rfl rfl rfl) rfl ?_ | refine w_val (v_loadB 4 rfl Try.underlying3 rfl rfl rfl) rfl ?_ | refine w_val (v_loadB 5 rfl Try.underlying3 rfl rfl rfl) rfl ?_ | refine w_val (v_loadB 6 rfl Try.underlying3 rfl rfl rfl) rfl ?_ | refine w_val (v_loadB 7 rfl Try.underlying3 rfl rfl rfl) rfl ?_
        refine w_val (v_eql rfl rfl) rfl ?_
        refine w_nil ?_
        refine e_cutK (σ := Unit) [0, 2, 3] (.cons rfl (.cons rfl (.cons rfl .nil))) (fun _ => []) (fun _ => o.kind = 8 → storedL d k = false) ?_ ?_
        · refine e_condD rfl (fun h8 => ?_) (fun h8 => ?_)
          · refine e_seq ?_
            refine e_region ?_
            refine w_val (v_assign rfl) rfl ?_
            refine w_nil ?_
            refine e_block ?_
            refine e_loopK (σ := Nat) [0, 2, 3] (.cons rfl (.cons rfl (.cons rfl .nil))) (fun j => [(5, .int .i64 j)]) (fun j => j ≤ k ∧ ∀ i (hi : i < d.length), i < j → d[i].kind ≠ 7) (fun j => k - j) 0 ⟨by omega, by omega⟩ (by repeat (first | exact Sub.nil _ | refine Sub.cons rfl ?_)) ?_
            rintro j ⟨hjk, hall⟩
            refine e_seq ?_
            refine e_seq ?_
            refine e_region ?_
            refine w_val (v_move rfl) rfl ?_
            refine w_val (v_move rfl) rfl ?_
            refine w_val (v_lss rfl rfl) rfl ?_
            refine w_nil ?_
            refine e_condD rfl (fun hj => ?_) (fun hj => ?_)
            · have hj' : j < d.length := by omega
              obtain ⟨ad', had, hopj⟩ := IsDeed.cells hc hj'
              injection had with had
              subst had
              generalize hoj : d[j] = oj at *
              refine e_skip ?_
              refine e_seq ?_
              refine e_block ?_
              refine e_seq ?_
              refine e_region ?_
              refine w_val (v_move rfl) rfl ?_
              refine w_val (v_move rfl) rfl ?_
              first | refine w_val (v_indexSB Try.underlying25 Try.hi36 Try.cz36 rfl rfl (by omega)) rfl ?_ | refine w_val (v_indexS Try.underlying25 Try.hi36 Try.cz36 rfl rfl (by omega)) rfl ?_
              first | refine w_val (v_fieldAddrB (o := 0) Try.underlying36 rfl rfl Try.nz3 rfl) rfl ?_ | refine w_val (v_fieldAddr (o := 0) Try.underlying36 rfl rfl Try.nz3 rfl) rfl ?_
              first | refine w_val (v_loadO Try.underlying3 rfl rfl ((hopj) _ _ rfl)) rfl ?_ | refine w_val (v_loadB 0 rfl Try.underlying3 rfl rfl rfl) rfl ?_ | refine w_val (v_loadB 1 rfl Try.underlying3 rfl rfl rfl) rfl ?_ | refine w_val (v_loadB 2 rfl Try.underlying3 rfl rfl rfl) rfl ?_ | refine w_val (v_loadB 3 rfl Try.underlying3 rfl rfl rfl) rfl ?_ | refine w_val (v_loadB 4 rfl Try.underlying3 rfl rfl rfl) rfl ?_ | refine w_val (v_loadB 5 rfl Try.underlying3 rfl rfl rfl) rfl ?_ | refine w_val (v_loadB 6 rfl Try.underlying3 rfl rfl rfl) rfl ?_ | refine w_val (v_loadB 7 rfl Try.underlying3 rfl rfl rfl) rfl ?_
              refine w_val (v_eql rfl rfl) rfl ?_
              refine w_nil ?_
              refine e_condD rfl (fun h7 => ?_) (fun h7 => ?_)
              · have hthis : opCheckL d.length k (storedL d k) o = 5 := by simp only [opCheckL]; rw [if_neg h1, if_pos ⟨h8, storedL_true (k := j) (by omega) hj' (by rw [hoj]; exact h7)⟩]
                refine e_seq ?_
                refine e_region ?_
                refine w_val (v_move rfl) rfl ?_
                refine w_op rfl ?_
                refine x_call0 (v := faultV (5, k)) rfl rfl rfl Try.call47 rfl (fun w hw => F_spec _ _ w) ?_
                refine w_op rfl ?_
                first | refine x_storeA 0 rfl rfl rfl Try.hi44 Try.cz44 rfl (by first | (simp [Value.oneCell', opCells]; done) | assumption | exact one_ints _ | exact one_resCells _ _) ?_ | refine x_storeA 1 rfl rfl rfl Try.hi44 Try.cz44 rfl (by first | (simp [Value.oneCell', opCells]; done) | assumption | exact one_ints _ | exact one_resCells _ _) ?_ | refine x_storeA 2 rfl rfl rfl Try.hi44 Try.cz44 rfl (by first | (simp [Value.oneCell', opCells]; done) | assumption | exact one_ints _ | exact one_resCells _ _) ?_ | refine x_storeA 3 rfl rfl rfl Try.hi44 Try.cz44 rfl (by first | (simp [Value.oneCell', opCells]; done) | assumption | exact one_ints _ | exact one_resCells _ _) ?_ | refine x_storeA 4 rfl rfl rfl Try.hi44 Try.cz44 rfl (by first | (simp [Value.oneCell', opCells]; done) | assumption | exact one_ints _ | exact one_resCells _ _) ?_ | refine x_storeA 5 rfl rfl rfl Try.hi44 Try.cz44 rfl (by first | (simp [Value.oneCell', opCells]; done) | assumption | exact one_ints _ | exact one_resCells _ _) ?_ | refine x_storeA 6 rfl rfl rfl Try.hi44 Try.cz44 rfl (by first | (simp [Value.oneCell', opCells]; done) | assumption | exact one_ints _ | exact one_resCells _ _) ?_ | refine x_storeA 7 rfl rfl rfl Try.hi44 Try.cz44 rfl (by first | (simp [Value.oneCell', opCells]; done) | assumption | exact one_ints _ | exact one_resCells _ _) ?_
                refine w_nil ?_
                refine e_retQ (q_ret1 rfl (ResV.agg 0 rfl rfl (by rw [isAggD, Try.underlying44]; rfl) (Try.cz44) Try.hi44) ?_)
                exact fun w' hw' => ⟨by rw [hhit (by rw [hthis]; omega), hthis]; rfl, hw'.res.nil⟩
              · refine e_skip ?_
                refine e_blk ?_
                refine e_region ?_
                refine w_val (v_move rfl) rfl ?_
                first | refine w_val (v_add rfl rfl (by omega)) rfl ?_ | refine w_val (v_addw rfl rfl) rfl ?_
                refine w_val (v_assign rfl) rfl ?_
                refine w_nil ?_
                exact e_round (j + 1) (⟨by omega, fun i hi hij => by rcases (by omega : i < j ∨ i = j) with h | rfl; exact hall i hi h; rw [hoj]; exact h7⟩) (by omega) (by repeat (first | exact Sub.nil _ | refine Sub.cons rfl ?_)) (fun _ hw => hw)
            · refine e_exit rfl ?_
              exact e_cutEnd (()) (fun _ => storedL_false (fun i hi hik => hall i hi (by omega))) (by repeat (first | exact Sub.nil _ | refine Sub.cons rfl ?_)) (fun _ hw => hw)
          · refine e_skip ?_
            exact e_cutEnd (()) (fun h => absurd h h8) (by repeat (first | exact Sub.nil _ | refine Sub.cons rfl ?_)) (fun _ hw => hw)
        · rintro - hst
          refine e_seq ?_
          refine e_test 70 (decide (o.kind = 9 ∧ (o.b < 1 ∨ (d.length : Int) ≤ k + o.b))) ?_ ?_
          · refine e_region ?_
            refine w_val (v_move rfl) rfl ?_
            refine w_val (v_move rfl) rfl ?_
            first | refine w_val (v_indexSB Try.underlying25 Try.hi36 Try.cz36 rfl rfl (by omega)) rfl ?_ | refine w_val (v_indexS Try.underlying25 Try.hi36 Try.cz36 rfl rfl (by omega)) rfl ?_
            first | refine w_val (v_fieldAddrB (o := 0) Try.underlying36 rfl rfl Try.nz3 rfl) rfl ?_ | refine w_val (v_fieldAddr (o := 0) Try.underlying36 rfl rfl Try.nz3 rfl) rfl ?_
            first | refine w_val (v_loadO Try.underlying3 rfl rfl ((hop) _ _ rfl)) rfl ?_ | refine w_val (v_loadB 0 rfl Try.underlying3 rfl rfl rfl) rfl ?_ | refine w_val (v_loadB 1 rfl Try.underlying3 rfl rfl rfl) rfl ?_ | refine w_val (v_loadB 2 rfl Try.underlying3 rfl rfl rfl) rfl ?_ | refine w_val (v_loadB 3 rfl Try.underlying3 rfl rfl rfl) rfl ?_ | refine w_val (v_loadB 4 rfl Try.underlying3 rfl rfl rfl) rfl ?_ | refine w_val (v_loadB 5 rfl Try.underlying3 rfl rfl rfl) rfl ?_ | refine w_val (v_loadB 6 rfl Try.underlying3 rfl rfl rfl) rfl ?_ | refine w_val (v_loadB 7 rfl Try.underlying3 rfl rfl rfl) rfl ?_
            refine w_valD (v_eql rfl rfl) rfl (fun hg5 => ?_) (fun hg5 => ?_)
            · refine w_val (v_move rfl) rfl ?_
              refine w_want rfl rfl ?_
              refine w_val (v_move rfl) rfl ?_
              refine w_want rfl rfl ?_
              refine w_val (v_move rfl) rfl ?_
              refine w_want rfl rfl ?_
              first | refine w_val (v_indexSB Try.underlying25 Try.hi36 Try.cz36 rfl rfl (by omega)) rfl ?_ | refine w_val (v_indexS Try.underlying25 Try.hi36 Try.cz36 rfl rfl (by omega)) rfl ?_
              refine w_want rfl rfl ?_
              first | refine w_val (v_fieldAddrB (o := 2) Try.underlying36 rfl rfl Try.nz3 rfl) rfl ?_ | refine w_val (v_fieldAddr (o := 2) Try.underlying36 rfl rfl Try.nz3 rfl) rfl ?_
              refine w_want rfl rfl ?_
              first | refine w_val (v_loadO Try.underlying3 rfl rfl ((hop) _ _ rfl)) rfl ?_ | refine w_val (v_loadB 0 rfl Try.underlying3 rfl rfl rfl) rfl ?_ | refine w_val (v_loadB 1 rfl Try.underlying3 rfl rfl rfl) rfl ?_ | refine w_val (v_loadB 2 rfl Try.underlying3 rfl rfl rfl) rfl ?_ | refine w_val (v_loadB 3 rfl Try.underlying3 rfl rfl rfl) rfl ?_ | refine w_val (v_loadB 4 rfl Try.underlying3 rfl rfl rfl) rfl ?_ | refine w_val (v_loadB 5 rfl Try.underlying3 rfl rfl rfl) rfl ?_ | refine w_val (v_loadB 6 rfl Try.underlying3 rfl rfl rfl) rfl ?_ | refine w_val (v_loadB 7 rfl Try.underlying3 rfl rfl rfl) rfl ?_
              refine w_want rfl rfl ?_
              refine w_valD (v_lss rfl rfl) rfl (fun hg12 => ?_) (fun hg12 => ?_)
              · refine w_want rfl rfl ?_
                refine w_val (v_move rfl) rfl ?_
                refine w_skip rfl rfl rfl rfl ?_
                refine w_skip rfl rfl rfl rfl ?_
                refine w_skip rfl rfl rfl rfl ?_
                refine w_skip rfl rfl rfl rfl ?_
                refine w_skip rfl rfl rfl rfl ?_
                refine w_skip rfl rfl rfl rfl ?_
                refine w_skip rfl rfl rfl rfl ?_
                refine w_skip rfl rfl rfl rfl ?_
                refine w_skip rfl rfl rfl rfl ?_
                refine w_skip rfl rfl rfl rfl ?_
                refine w_want rfl rfl ?_
                refine w_val (v_pickT rfl rfl) rfl ?_
                refine w_val (v_pickT rfl rfl) rfl ?_
                refine w_nil ?_
                exact e_testEnd rfl (by first | (simp_all; done) | (simp_all; omega)) (by repeat (first | exact Sub.refl _ | exact Sub.nil _ | exact Sub.del _ _ | refine Sub.skip rfl ?_)) (fun _ hw => hw)
              · refine w_want rfl rfl ?_
                refine w_val (v_move rfl) rfl ?_
                refine w_want rfl rfl ?_
                refine w_val (v_move rfl) rfl ?_
                refine w_want rfl rfl ?_
                refine w_val (v_move rfl) rfl ?_
                refine w_want rfl rfl ?_
                refine w_val (v_move rfl) rfl ?_
                refine w_want rfl rfl ?_
                first | refine w_val (v_indexSB Try.underlying25 Try.hi36 Try.cz36 rfl rfl (by omega)) rfl ?_ | refine w_val (v_indexS Try.underlying25 Try.hi36 Try.cz36 rfl rfl (by omega)) rfl ?_
                refine w_want rfl rfl ?_
                first | refine w_val (v_fieldAddrB (o := 2) Try.underlying36 rfl rfl Try.nz3 rfl) rfl ?_ | refine w_val (v_fieldAddr (o := 2) Try.underlying36 rfl rfl Try.nz3 rfl) rfl ?_
                refine w_want rfl rfl ?_
                first | refine w_val (v_loadO Try.underlying3 rfl rfl ((hop) _ _ rfl)) rfl ?_ | refine w_val (v_loadB 0 rfl Try.underlying3 rfl rfl rfl) rfl ?_ | refine w_val (v_loadB 1 rfl Try.underlying3 rfl rfl rfl) rfl ?_ | refine w_val (v_loadB 2 rfl Try.underlying3 rfl rfl rfl) rfl ?_ | refine w_val (v_loadB 3 rfl Try.underlying3 rfl rfl rfl) rfl ?_ | refine w_val (v_loadB 4 rfl Try.underlying3 rfl rfl rfl) rfl ?_ | refine w_val (v_loadB 5 rfl Try.underlying3 rfl rfl rfl) rfl ?_ | refine w_val (v_loadB 6 rfl Try.underlying3 rfl rfl rfl) rfl ?_ | refine w_val (v_loadB 7 rfl Try.underlying3 rfl rfl rfl) rfl ?_
                refine w_want rfl rfl ?_
                first | refine w_val (v_add rfl rfl (by omega)) rfl ?_ | refine w_val (v_addw rfl rfl) rfl ?_
                refine w_want rfl rfl ?_
                refine w_val (v_move rfl) rfl ?_
                refine w_want rfl rfl ?_
                refine w_val (v_lenS Try.underlying25 rfl) rfl ?_
                refine w_want rfl rfl ?_
                refine w_valD (v_geq rfl rfl) rfl (fun hg23 => ?_) (fun hg23 => ?_)
                · refine w_want rfl rfl ?_
                  refine w_val (v_pickF rfl rfl) rfl ?_
                  refine w_val (v_pickT rfl rfl) rfl ?_
                  refine w_nil ?_
                  exact e_testEnd rfl (by first | (simp_all; done) | (simp_all; omega)) (by repeat (first | exact Sub.refl _ | exact Sub.nil _ | exact Sub.del _ _ | refine Sub.skip rfl ?_)) (fun _ hw => hw)
                · refine w_want rfl rfl ?_
                  refine w_val (v_pickF rfl rfl) rfl ?_
                  refine w_val (v_pickT rfl rfl) rfl ?_
                  refine w_nil ?_
                  exact e_testEnd rfl (by first | (simp_all; done) | (simp_all; omega)) (by repeat (first | exact Sub.refl _ | exact Sub.nil _ | exact Sub.del _ _ | refine Sub.skip rfl ?_)) (fun _ hw => hw)
            · refine w_val (v_move rfl) rfl ?_
              refine w_skip rfl rfl rfl rfl ?_
              refine w_skip rfl rfl rfl rfl ?_
              refine w_skip rfl rfl rfl rfl ?_
              refine w_skip rfl rfl rfl rfl ?_
              refine w_skip rfl rfl rfl rfl ?_
              refine w_skip rfl rfl rfl rfl ?_
              refine w_skip rfl rfl rfl rfl ?_
              refine w_skip rfl rfl rfl rfl ?_
              refine w_skip rfl rfl rfl rfl ?_
              refine w_skip rfl rfl rfl rfl ?_
              refine w_skip rfl rfl rfl rfl ?_
              refine w_skip rfl rfl rfl rfl ?_
              refine w_skip rfl rfl rfl rfl ?_
              refine w_skip rfl rfl rfl rfl ?_
              refine w_skip rfl rfl rfl rfl ?_
              refine w_skip rfl rfl rfl rfl ?_
              refine w_skip rfl rfl rfl rfl ?_
              refine w_skip rfl rfl rfl rfl ?_
              refine w_val (v_pickF rfl rfl) rfl ?_
              refine w_nil ?_
              exact e_testEnd rfl (by first | (simp_all; done) | (simp_all; omega)) (by repeat (first | exact Sub.refl _ | exact Sub.nil _ | exact Sub.del _ _ | refine Sub.skip rfl ?_)) (fun _ hw => hw)
          refine e_condD rfl (fun h9 => ?_) (fun h9 => ?_)
          · have hthis : opCheckL d.length k (storedL d k) o = 1 := by simp only [opCheckL]; rw [if_neg h1, if_neg (by omega), if_pos ⟨h9.1, by omega⟩]
            refine e_seq ?_
            refine e_region ?_
            refine w_val (v_move rfl) rfl ?_
            refine w_op rfl ?_
            refine x_call0 (v := faultV (1, k)) rfl rfl rfl Try.call47 rfl (fun w hw => F_spec _ _ w) ?_
            refine w_op rfl ?_
            first | refine x_storeA 0 rfl rfl rfl Try.hi44 Try.cz44 rfl (by first | (simp [Value.oneCell', opCells]; done) | assumption | exact one_ints _ | exact one_resCells _ _) ?_ | refine x_storeA 1 rfl rfl rfl Try.hi44 Try.cz44 rfl (by first | (simp [Value.oneCell', opCells]; done) | assumption | exact one_ints _ | exact one_resCells _ _) ?_ | refine x_storeA 2 rfl rfl rfl Try.hi44 Try.cz44 rfl (by first | (simp [Value.oneCell', opCells]; done) | assumption | exact one_ints _ | exact one_resCells _ _) ?_ | refine x_storeA 3 rfl rfl rfl Try.hi44 Try.cz44 rfl (by first | (simp [Value.oneCell', opCells]; done) | assumption | exact one_ints _ | exact one_resCells _ _) ?_ | refine x_storeA 4 rfl rfl rfl Try.hi44 Try.cz44 rfl (by first | (simp [Value.oneCell', opCells]; done) | assumption | exact one_ints _ | exact one_resCells _ _) ?_ | refine x_storeA 5 rfl rfl rfl Try.hi44 Try.cz44 rfl (by first | (simp [Value.oneCell', opCells]; done) | assumption | exact one_ints _ | exact one_resCells _ _) ?_ | refine x_storeA 6 rfl rfl rfl Try.hi44 Try.cz44 rfl (by first | (simp [Value.oneCell', opCells]; done) | assumption | exact one_ints _ | exact one_resCells _ _) ?_ | refine x_storeA 7 rfl rfl rfl Try.hi44 Try.cz44 rfl (by first | (simp [Value.oneCell', opCells]; done) | assumption | exact one_ints _ | exact one_resCells _ _) ?_
            refine w_nil ?_
            refine e_retQ (q_ret1 rfl (ResV.agg 0 rfl rfl (by rw [isAggD, Try.underlying44]; rfl) (Try.cz44) Try.hi44) ?_)
            exact fun w' hw' => ⟨by rw [hhit (by rw [hthis]; omega), hthis]; rfl, hw'.res.nil⟩
          · have hthis : opCheckL d.length k (storedL d k) o = 0 := by
              simp only [opCheckL]
              rw [if_neg h1, if_neg (fun h => by rw [hst h.1] at h; exact absurd h.2 (by simp)), if_neg (by omega)]
            refine e_skip ?_
            refine e_blk ?_
            refine e_region ?_
            refine w_val (v_move rfl) rfl ?_
            first | refine w_val (v_add rfl rfl (by omega)) rfl ?_ | refine w_val (v_addw rfl rfl) rfl ?_
            refine w_val (v_assign rfl) rfl ?_
            refine w_nil ?_
            exact e_round (k + 1) (⟨by omega, (hnx hthis).symm⟩) (by omega) (by repeat (first | exact Sub.nil _ | refine Sub.cons rfl ?_)) (fun _ hw => hw)
    · obtain rfl : k = d.length := by omega
      refine e_exit rfl ?_
      refine e_seq ?_
      refine e_region ?_
      refine w_val (v_build _ rfl (by intro _; simp [Instr.build, Instr.fill, Try.zeroValue44, go_sem]; rfl)) rfl ?_
      refine w_op rfl ?_
      first | refine x_storeA 0 rfl rfl rfl Try.hi44 Try.cz44 rfl (by first | (simp [Value.oneCell', opCells]; done) | assumption | exact one_ints _ | exact one_resCells _ _) ?_ | refine x_storeA 1 rfl rfl rfl Try.hi44 Try.cz44 rfl (by first | (simp [Value.oneCell', opCells]; done) | assumption | exact one_ints _ | exact one_resCells _ _) ?_ | refine x_storeA 2 rfl rfl rfl Try.hi44 Try.cz44 rfl (by first | (simp [Value.oneCell', opCells]; done) | assumption | exact one_ints _ | exact one_resCells _ _) ?_ | refine x_storeA 3 rfl rfl rfl Try.hi44 Try.cz44 rfl (by first | (simp [Value.oneCell', opCells]; done) | assumption | exact one_ints _ | exact one_resCells _ _) ?_ | refine x_storeA 4 rfl rfl rfl Try.hi44 Try.cz44 rfl (by first | (simp [Value.oneCell', opCells]; done) | assumption | exact one_ints _ | exact one_resCells _ _) ?_ | refine x_storeA 5 rfl rfl rfl Try.hi44 Try.cz44 rfl (by first | (simp [Value.oneCell', opCells]; done) | assumption | exact one_ints _ | exact one_resCells _ _) ?_ | refine x_storeA 6 rfl rfl rfl Try.hi44 Try.cz44 rfl (by first | (simp [Value.oneCell', opCells]; done) | assumption | exact one_ints _ | exact one_resCells _ _) ?_ | refine x_storeA 7 rfl rfl rfl Try.hi44 Try.cz44 rfl (by first | (simp [Value.oneCell', opCells]; done) | assumption | exact one_ints _ | exact one_resCells _ _) ?_
      refine w_nil ?_
      refine e_retQ (q_ret1 rfl (ResV.agg 0 rfl rfl (by rw [isAggD, Try.underlying44]; rfl) (Try.cz44) Try.hi44) ?_)
      exact fun w' hw' => ⟨by rw [← hrel, checkFrom_end]; rfl, hw'.res.nil⟩
end Go.SL
