/- Ytebdkaadbakhlac: part Y2 of this seat's own texts. -/
import Derived.Test.YtebdkaadbakhlacY1
import Derived.Test.YtebdkaadbakhlacM4
set_option linter.unusedVariables false
set_option linter.unusedSimpArgs false

open Go Go.Proofs Go.SL
set_option maxRecDepth 100000
set_option maxHeartbeats 4000000
namespace Go.SL
theorem chThen_spec (c : Nat) (lv : Value) (vs : List Value) (q : QL) (n : Int) (w : World) (h : ScV w.cell? c lv q.L q.k vs) (hok : q.Ok) : Calls Try.prog 59 #[.pointer (some ⟨c, 0, none⟩), .int .i64 n] w fun e w' => e = .returned (.tuple #[intsV (thenL q.L n).1, .bool (thenL q.L n).2]) ∧ Res w [] [] w' := by
  rw [← off_none w] at h
  have h25 := hok.log.len
  obtain ⟨Al, kl, rfl, hkl, _, hc⟩ := id h.row
  have h0 := h.c0
  refine enter0 (N := 40) Try.func59 rfl rfl rfl ?_
  refine e_seq ?_
  refine e_region ?_
  refine w_op rfl ?_
  refine x_alloc (z := .agg #[.int .i64 0, .int .i64 0, .int .i64 0, .int .i64 0, .int .i64 0, .int .i64 0, .int .i64 0, .int .i64 0, .int .i64 0, .int .i64 0]) (by intro w; exact Try.zeroValue23 w) rfl (fun b4 => ?_)
  refine w_val (v_assign rfl) rfl ?_
  refine w_nil ?_
  refine e_seq ?_
  refine e_region ?_
  refine w_op rfl ?_
  refine x_alloc (z := .agg #[.int .i64 0, .int .i64 0, .int .i64 0, .int .i64 0, .int .i64 0, .int .i64 0, .int .i64 0, .int .i64 0, .int .i64 0, .int .i64 0]) (by intro w; exact Try.zeroValue23 w) rfl (fun b6 => ?_)
  refine w_nil ?_
  refine e_seq ?_
  refine e_seq ?_
  by_cases hn0 : n < 0
  · have e : thenL q.L n = (zero10, false) := by unfold thenL; rw [if_pos (.inl hn0)]
    rw [e]
    refine e_region ?_
    refine w_val (v_move rfl) rfl ?_
    refine w_val (v_is (v' := .bool true) (v_lss rfl rfl) (by rw [decide_eq_true hn0])) rfl ?_
    refine w_val (v_move rfl) rfl ?_
    refine w_skip rfl rfl rfl rfl ?_
    refine w_skip rfl rfl rfl rfl ?_
    refine w_skip rfl rfl rfl rfl ?_
    refine w_skip rfl rfl rfl rfl ?_
    refine w_skip rfl rfl rfl rfl ?_
    refine w_skip rfl rfl rfl rfl ?_
    refine w_skip rfl rfl rfl rfl ?_
    refine w_skip rfl rfl rfl rfl ?_
    refine w_val (v_pickT rfl rfl) rfl ?_
    refine w_nil ?_
    refine e_condT rfl ?_
    refine e_seq ?_
    refine e_region ?_
    refine w_val (v_loadBN 0 rfl Try.underlying23 rfl Try.hi23 Try.cz23 rfl (cs' := intCells zero10) rfl rfl) rfl ?_
    refine w_op rfl ?_
    refine x_storeA 1 rfl rfl rfl Try.hi23 (Try.cz23.trans (by simp [Value.cells, intsV, resCells, intCells, zero10_len])) (by simp [Value.cells, intsV, resCells, intCells, zero10_len]) (by first | exact one_intCells _ | exact one_resCells _ _) ?_
    refine w_val (v_assign rfl) rfl ?_
    refine w_nil ?_
    refine e_retQ (q_ret2 rfl (ResV.agg 1 rfl rfl (by rw [isAggD, Try.underlying23]; rfl) (Try.cz23) Try.hi23) (.tmp rfl) ?_)
    exact fun w' hw' => ⟨rfl, hw'.res.nil⟩
  · by_cases hnl : (q.L.length : Int) < n
    · have e : thenL q.L n = (zero10, false) := by unfold thenL; rw [if_pos (.inr hnl)]
      rw [e]
      refine e_region ?_
      refine w_val (v_move rfl) rfl ?_
      refine w_val (v_is (v' := .bool false) (v_lss rfl rfl) (by rw [decide_eq_false hn0])) rfl ?_
      refine w_val (v_move rfl) rfl ?_
      refine w_want rfl rfl ?_
      refine w_val (v_move rfl) rfl ?_
      refine w_want rfl rfl ?_
      refine w_val (v_move rfl) rfl ?_
      refine w_want rfl rfl ?_
      refine w_val (v_nilCheck rfl) rfl ?_
      refine w_want rfl rfl ?_
      refine w_val (v_fieldAddrB (o := 0) Try.underlying97 rfl rfl Try.nz95 rfl) rfl ?_
      refine w_want rfl rfl ?_
      refine w_val (v_fieldAddrB (o := 0) Try.underlying95 rfl rfl Try.nz93 rfl) rfl ?_
      refine w_want rfl rfl ?_
      refine w_val (v_loadO Try.underlying93 rfl rfl (h0)) rfl ?_
      refine w_want rfl rfl ?_
      refine w_val (v_lenS Try.underlying93 rfl) rfl ?_
      refine w_want rfl rfl ?_
      refine w_val (v_is (v' := .bool true) (v_gtr rfl rfl) (by rw [decide_eq_true hnl])) rfl ?_
      refine w_val (v_pickF rfl rfl) rfl ?_
      refine w_nil ?_
      refine e_condT rfl ?_
      refine e_seq ?_
      refine e_region ?_
      refine w_val (v_loadBN 0 rfl Try.underlying23 rfl Try.hi23 Try.cz23 rfl (cs' := intCells zero10) rfl rfl) rfl ?_
      refine w_op rfl ?_
      refine x_storeA 1 rfl rfl rfl Try.hi23 (Try.cz23.trans (by simp [Value.cells, intsV, resCells, intCells, zero10_len])) (by simp [Value.cells, intsV, resCells, intCells, zero10_len]) (by first | exact one_intCells _ | exact one_resCells _ _) ?_
      refine w_val (v_assign rfl) rfl ?_
      refine w_nil ?_
      refine e_retQ (q_ret2 rfl (ResV.agg 1 rfl rfl (by rw [isAggD, Try.underlying23]; rfl) (Try.cz23) Try.hi23) (.tmp rfl) ?_)
      exact fun w' hw' => ⟨rfl, hw'.res.nil⟩
    · obtain ⟨m, rfl⟩ : ∃ m : Nat, n = m := ⟨n.toNat, by omega⟩
      have e : thenL q.L (m : Int) = (stL q.L m, true) := by unfold thenL; rw [if_neg (by omega), Int.toNat_natCast]
      rw [e]
      have hm : m ≤ q.L.length := by omega
      refine e_region ?_
      refine w_val (v_move rfl) rfl ?_
      refine w_val (v_is (v' := .bool false) (v_lss rfl rfl) (by rw [decide_eq_false hn0])) rfl ?_
      refine w_val (v_move rfl) rfl ?_
      refine w_want rfl rfl ?_
      refine w_val (v_move rfl) rfl ?_
      refine w_want rfl rfl ?_
      refine w_val (v_move rfl) rfl ?_
      refine w_want rfl rfl ?_
      refine w_val (v_nilCheck rfl) rfl ?_
      refine w_want rfl rfl ?_
      refine w_val (v_fieldAddrB (o := 0) Try.underlying97 rfl rfl Try.nz95 rfl) rfl ?_
      refine w_want rfl rfl ?_
      refine w_val (v_fieldAddrB (o := 0) Try.underlying95 rfl rfl Try.nz93 rfl) rfl ?_
      refine w_want rfl rfl ?_
      refine w_val (v_loadO Try.underlying93 rfl rfl (h0)) rfl ?_
      refine w_want rfl rfl ?_
      refine w_val (v_lenS Try.underlying93 rfl) rfl ?_
      refine w_want rfl rfl ?_
      refine w_val (v_is (v' := .bool false) (v_gtr rfl rfl) (by rw [decide_eq_false hnl])) rfl ?_
      refine w_val (v_pickF rfl rfl) rfl ?_
      refine w_nil ?_
      refine e_condF rfl ?_
      refine e_skip ?_
      refine e_seq ?_
      refine e_seq ?_
      refine e_region ?_
      refine w_val (v_assign rfl) rfl ?_
      refine w_nil ?_
      refine e_block ?_
      refine e_loopH (σ := Nat) [0, 1, 4, 6] (.cons rfl (.cons rfl (.cons rfl (.cons rfl .nil)))) (fun i => [(7, .int .i64 (i : Int))]) (fun i => [.blk b6 23 (intCells (stL q.L i)), .blk b4 23 (intCells zero10)]) (fun i => i ≤ m) (fun i => m - i) 0 (Nat.zero_le _) (by repeat (first | exact Sub.nil _ | refine Sub.cons rfl ?_)) (fun _ hw => hw) ?_
      rintro i hi
      dsimp only at hi ⊢
      have hz := stL_len q.L i
      refine e_seq ?_
      refine e_seq ?_
      refine e_region ?_
      refine w_val (v_move rfl) rfl ?_
      refine w_val (v_move rfl) rfl ?_
      refine w_val (v_lss rfl rfl) rfl ?_
      refine w_nil ?_
      refine e_condD rfl (fun hlt => ?_) (fun hlt => ?_)
      · have hlt' : i < q.L.length := by omega
        obtain ⟨ad, rfl, hcl⟩ := hc (by omega)
        obtain ⟨u, hu, hround⟩ := h.rounds.2 i hlt'
        have hcell : off w (feet []) (ad.add (((i : Int)).toNat * 1)) = some u := hcl _ _ (by rw [Int.toNat_natCast, Nat.mul_one]; exact hu)
        have hgd : q.L.getD i [] = q.L[i] := by simp [List.getD, hlt']
        have hst1 := stL_next' q.L i
        have hz2 := stL_len q.L (i + 1)
        have hcall := fun (w1 : World) (hl : Le (off w (feet [])) w1.cell?) => refAll_spec (stL q.L i) u (q.L.getD i []) w1 (hgd ▸ hround.mono hl) hz (hok.fault hlt')
        rw [← hst1] at hcall
        refine e_skip ?_
        refine e_seq ?_
        refine e_block ?_
        refine e_draw ([.blk b4 23 (intCells zero10)]) Try.mixed ?_
        refine a_take 1 pan_cx (by kernel_rfl) (fun _ hw => hw.sub (by repeat (first | exact List.Sublist.slnil | exact List.Sublist.refl _ | apply List.Sublist.cons_cons | apply List.Sublist.cons))) rfl (by kernel_rfl) (by kernel_rfl) (v_move rfl) rfl ?_
        refine a_take 2 pan_cx (by kernel_rfl) (fun _ hw => hw.sub (by repeat (first | exact List.Sublist.slnil | exact List.Sublist.refl _ | apply List.Sublist.cons_cons | apply List.Sublist.cons))) rfl (by kernel_rfl) (by kernel_rfl) (v_nilCheck rfl) rfl ?_
        refine a_take 3 pan_cx (by kernel_rfl) (fun _ hw => hw.sub (by repeat (first | exact List.Sublist.slnil | exact List.Sublist.refl _ | apply List.Sublist.cons_cons | apply List.Sublist.cons))) rfl (by kernel_rfl) (by kernel_rfl) (v_fieldAddrB (o := 0) Try.underlying97 rfl rfl Try.nz95 rfl) rfl ?_
        refine a_take 4 pan_cx (by kernel_rfl) (fun _ hw => hw.sub (by repeat (first | exact List.Sublist.slnil | exact List.Sublist.refl _ | apply List.Sublist.cons_cons | apply List.Sublist.cons))) rfl (by kernel_rfl) (by kernel_rfl) (v_fieldAddrB (o := 0) Try.underlying95 rfl rfl Try.nz93 rfl) rfl ?_
        refine a_take 5 pan_cx (by kernel_rfl) (fun _ hw => hw.sub (by repeat (first | exact List.Sublist.slnil | exact List.Sublist.refl _ | apply List.Sublist.cons_cons | apply List.Sublist.cons))) rfl (by kernel_rfl) (by kernel_rfl) (v_loadO Try.underlying93 rfl rfl (h0)) rfl ?_
        refine a_take 6 pan_cx (by kernel_rfl) (fun _ hw => hw.sub (by repeat (first | exact List.Sublist.slnil | exact List.Sublist.refl _ | apply List.Sublist.cons_cons | apply List.Sublist.cons))) rfl (by kernel_rfl) (by kernel_rfl) (v_move rfl) rfl ?_
        refine a_take 7 pan_cx (by kernel_rfl) (fun _ hw => hw.sub (by repeat (first | exact List.Sublist.slnil | exact List.Sublist.refl _ | apply List.Sublist.cons_cons | apply List.Sublist.cons))) rfl (by kernel_rfl) (by kernel_rfl) (v_indexS Try.underlying93 Try.hi38 Try.cz38 rfl rfl (by first | omega | decide)) rfl ?_
        refine a_take 8 pan_cx (by kernel_rfl) (fun _ hw => hw.sub (by repeat (first | exact List.Sublist.slnil | exact List.Sublist.refl _ | apply List.Sublist.cons_cons | apply List.Sublist.cons))) rfl (by kernel_rfl) (by kernel_rfl) (v_loadO Try.underlying38 rfl rfl (hcell)) rfl ?_
        refine a_one 0 (by kernel_rfl) rfl rfl ?_
        refine x_val (v_loadBN (cs' := intCells (stL q.L i)) 0 rfl Try.underlying23 rfl Try.hi23 Try.cz23 rfl (by show (intCells (stL q.L i)).take 10 = _; exact List.take_of_length_le (by simp [intCells, hz])) (by simp [intCells, hz])) rfl ?_
        refine a_and (fun _ hw => hw.sub (by repeat (first | exact List.Sublist.slnil | exact List.Sublist.refl _ | apply List.Sublist.cons_cons | apply List.Sublist.cons))) ?_
        refine a_one 9 (by kernel_rfl) rfl rfl ?_
        refine x_call (dst := some 36) (mc := []) (σ := Value) (fun _ => True) (fun sl => .tuple #[intsV (stL q.L (i + 1)), sl]) (fun sl => [Own sl 30 5 (allL (stL q.L i) (q.L.getD i [])).2.length (resL (allL (stL q.L i) (q.L.getD i [])).2)]) rfl rfl rfl Try.call87 (fun w hw => hcall w hw.off) rfl (fun sl _ => ?_)
        refine a_and (fun _ hw => hw.sub (by repeat (first | exact List.Sublist.slnil | exact List.Sublist.refl _ | apply List.Sublist.cons_cons | apply List.Sublist.cons))) ?_
        refine a_take 10 pan_cx (by kernel_rfl) (fun _ hw => hw.sub (by repeat (first | exact List.Sublist.slnil | exact List.Sublist.refl _ | apply List.Sublist.cons_cons | apply List.Sublist.cons))) rfl (by kernel_rfl) (by kernel_rfl) (v_move rfl) rfl ?_
        refine a_take 11 pan_cx (by kernel_rfl) (fun _ hw => hw.sub (by repeat (first | exact List.Sublist.slnil | exact List.Sublist.refl _ | apply List.Sublist.cons_cons | apply List.Sublist.cons))) rfl (by kernel_rfl) (by kernel_rfl) (v_extract rfl rfl) rfl ?_
        refine a_take 12 pan_cx (by kernel_rfl) (fun _ hw => hw.sub (by repeat (first | exact List.Sublist.slnil | exact List.Sublist.refl _ | apply List.Sublist.cons_cons | apply List.Sublist.cons))) rfl (by kernel_rfl) (by kernel_rfl) (v_extract rfl rfl) rfl ?_
        refine a_one 13 (by kernel_rfl) rfl rfl ?_
        refine x_storeA (vs := (intCells (stL q.L (i + 1))).toArray) 1 rfl rfl rfl Try.hi23 (Try.cz23.trans (by simp [intCells, hz2])) (by simp [intCells, hz, hz2]) (one_intCells _) ?_
        refine a_and (fun _ hw => hw.sub (by repeat (first | exact List.Sublist.slnil | exact List.Sublist.refl _ | apply List.Sublist.cons_cons | apply List.Sublist.cons))) ?_
        refine a_done (by kernel_rfl) ?_
        refine e_blk ?_
        refine e_region ?_
        refine w_val (v_move rfl) rfl ?_
        refine w_val (v_add rfl rfl (by omega)) rfl ?_
        refine w_val (v_assign rfl) rfl ?_
        refine w_nil ?_
        exact e_round (i + 1) (by omega) (by omega) (by repeat (first | exact Sub.nil _ | refine Sub.cons rfl ?_)) (fun _ hw => hw.pick [1, 2] (by decide))
      · have e : i = m := by omega
        subst e
        refine e_exit rfl ?_
        refine e_seq ?_
        refine e_region ?_
        refine w_val (v_loadBA 0 rfl Try.underlying23 rfl Try.hi23 (Try.cz23.trans (by simp [Value.cells, intsV, resCells, intCells, hz, zero10_len])) rfl) rfl ?_
        refine w_op rfl ?_
        refine x_storeA 1 rfl rfl rfl Try.hi23 (Try.cz23.trans (by simp [Value.cells, intsV, resCells, intCells, hz, zero10_len])) (by simp [Value.cells, intsV, resCells, intCells, hz, zero10_len]) (by first | exact one_intCells _ | exact one_resCells _ _) ?_
        refine w_val (v_assign rfl) rfl ?_
        refine w_nil ?_
        refine e_retQ (q_ret2 rfl (ResV.agg 1 rfl rfl (by rw [isAggD, Try.underlying23]; rfl) (Try.cz23.trans (by simp [intCells, hz])) Try.hi23) (.tmp rfl) ?_)
        exact fun w' hw' => ⟨rfl, hw'.res.nil⟩
end Go.SL

