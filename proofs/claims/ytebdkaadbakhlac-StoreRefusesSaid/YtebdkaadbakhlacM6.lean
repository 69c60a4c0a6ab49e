/- Ytebdkaadbakhlac: part M6 of this seat's own texts. -/
import Derived.Test.YtebdkaadbakhlacM5
set_option linter.unusedVariables false
set_option linter.unusedSimpArgs false

open Go Go.Proofs Go.SL
set_option maxRecDepth 100000
set_option maxHeartbeats 4000000
namespace Go.SL
theorem StoreRefuses_spec (v : Value) (l : List SStepL)  (w : World) (h : IsSSteps w.cell? v l) (hin : ∀ x ∈ l, ∀ d ∈ x.round, ∀ o ∈ d, OpIn o) (hl : ∀ x ∈ l, ∀ d ∈ x.round, d.length ≤ 4398046511104) (hmax : l.length ≤ maxLen) :
    Calls Try.prog 13 #[v] w fun e w' => e = .returned (.bool true) ∧ Res w [] [] w' := by
  have hs := h
  simp only [maxLen] at hmax
  rw [← off_none w] at h hs
  obtain ⟨A, kp, rfl, hle, hc⟩ := h
  refine enter0 (N := 80) Try.func13 rfl rfl rfl ?_
  refine e_seq ?_
  refine e_region ?_
  refine w_val (v_assign rfl) rfl ?_
  refine w_nil ?_
  refine e_seq ?_
  refine e_seq ?_
  refine e_region ?_
  refine w_op rfl ?_
  refine x_call0 (v := .bool true) rfl rfl rfl Try.call48 rfl (fun w hw => storeBegun_spec w) ?_
  refine w_val (v_not rfl) rfl ?_
  refine w_nil ?_
  refine e_condF rfl ?_
  refine e_skip ?_
  refine e_seq ?_
  refine e_seq ?_
  refine e_region ?_
  refine w_val (v_move rfl) rfl ?_
  refine w_op rfl ?_
  refine x_call (dst := some 15) (mc := []) (mr := []) (σ := Bool) (fun _ => True) (fun b => .bool b) (fun _ => []) rfl rfl rfl Try.call49 (fun w hw => greatSteps_spec _ l w (hs.mono hw.off) hl) rfl (fun b _ => ?_)
  refine w_nil ?_
  cases b with
  | true =>
    refine e_condDT rfl (by omega) ?_
    refine e_seq ?_
    refine e_region ?_
    refine w_val (v_assign rfl) rfl ?_
    refine w_nil ?_
    refine e_retQ (q_ret1 rfl (.tmp rfl) ?_)
    exact fun w' hw' => ⟨rfl, hw'.res.nil⟩
  | false =>
    refine e_condF rfl ?_
    refine e_skip ?_
    refine e_seq ?_
    refine e_region ?_
    refine w_op rfl ?_
    refine x_call (dst := some 16) (mc := []) (σ := StP) (fun _ => True) (fun y => .pointer (some ⟨y.p, 0, none⟩)) (fun y => stH y ⟨[], 0, 0⟩) rfl rfl rfl Try.call50 (fun w _ => stNew_spec w) rfl (fun y _ => ?_); obtain ⟨p, pl, bv0, ev0, A0, k0⟩ := y; dsimp only
    refine w_val (v_assign rfl) rfl ?_
    refine w_nil ?_
    refine e_seq ?_
    refine e_seq ?_
    refine e_region ?_
    refine w_val (v_assign rfl) rfl ?_
    refine w_nil ?_
    refine e_block ?_
    refine e_loopH (σ := Nat × QL × (Value × Value) × Option Addr × Nat) [0, 3] (.cons rfl (.cons rfl .nil)) (fun x => [(4, .int .i64 (x.1 : Int))]) (fun x => stH ⟨p, pl, x.2.2.1.1, x.2.2.1.2, x.2.2.2.1, x.2.2.2.2⟩ x.2.1) (fun x => x.1 ≤ l.length ∧ x.2.1.Ok) (fun x => l.length - x.1) (0, ⟨[], 0, 0⟩, (bv0, ev0), A0, k0) ⟨Nat.zero_le _, q0_ok⟩ (by repeat (first | exact Sub.nil _ | refine Sub.cons rfl ?_)) (fun _ hw => hw) ?_
    rintro ⟨i, q, ⟨bv, ev⟩, A1, k1⟩ ⟨hi, hok⟩
    dsimp only at hi hok ⊢
    refine e_seq ?_
    refine e_seq ?_
    refine e_region ?_
    refine w_val (v_move rfl) rfl ?_
    refine w_val (v_move rfl) rfl ?_
    refine w_val (v_lenS Try.underlying88 rfl) rfl ?_
    refine w_val (v_lss rfl rfl) rfl ?_
    refine w_nil ?_
    refine e_condD rfl (fun hlt => ?_) (fun hlt => ?_)
    · have hi' : i < l.length := by omega
      obtain ⟨ad, u, pv, rfl, hcs, hr, hpp⟩ := hc i hi'
      have hxi := hin _ (List.getElem_mem hi')
      have hok' := doQ_ok hok hxi
      have hcs2 : Cells (off w (feet [])) (ad.add (((i : Nat) : Int).toNat * 4)) (sstC l[i] u pv) := by rw [Int.toNat_natCast]; exact hcs
      have hz := stL_len q.L q.dn
      have h8 := hok.last8 hok.len
      have hB := hok.log.bytes
      generalize l[i] = x at *
      by_cases hcode : (doQ q x).2 = 0
      · refine e_skip ?_
        refine e_seq ?_
        refine e_block ?_
        refine e_seq ?_
        refine e_region ?_
        refine w_val (v_move rfl) rfl ?_
        refine w_val (v_nilCheck rfl) rfl ?_
        refine w_val (v_fieldAddrB (o := 0) Try.underlying103 rfl rfl Try.nz101 rfl) rfl ?_
        refine w_val (v_loadB 0 rfl Try.underlying101 rfl rfl rfl) rfl ?_
        refine w_op rfl ?_
        refine x_call (dst := some 28) (mc := []) (σ := Value) (fun _ => True) (fun s => .tuple #[s, .int .i64 (endAt q.L q.k : Int)]) (fun s => [Own s 5 1 (bytesOf q.L).length (byteCells (bytesOf q.L))]) rfl rfl rfl Try.call60 (fun w hw => logBytes_spec pl bv ev q.L q.k w (StV.at (y := ⟨p, pl, bv, ev, A1, k1⟩) (q := q) hw 0 rfl rfl rfl rfl rfl).lg hB) rfl (fun ob _ => ?_)
        refine w_val (v_move rfl) rfl ?_
        refine w_val (v_extract rfl rfl) rfl ?_
        refine w_val (v_extract rfl rfl) rfl ?_
        refine w_val (v_assign rfl) rfl ?_
        refine w_val (v_assign rfl) rfl ?_
        refine w_nil ?_
        refine e_seq ?_
        refine e_region ?_
        refine w_val (v_move rfl) rfl ?_
        refine w_op rfl ?_
        refine x_call0 (v := .int .i64 (q.dn : Int)) rfl rfl rfl Try.call53 rfl (fun w hw => stDone_spec ⟨p, pl, bv, ev, A1, k1⟩ q w (StV.at (y := ⟨p, pl, bv, ev, A1, k1⟩) (q := q) hw 1 rfl rfl rfl rfl rfl)) ?_
        refine w_val (v_move rfl) rfl ?_
        refine w_op rfl ?_
        refine x_call0 (v := intsV (stL q.L q.dn)) rfl rfl rfl Try.call54 rfl (fun w hw => stState_spec ⟨p, pl, bv, ev, A1, k1⟩ q w (StV.at (y := ⟨p, pl, bv, ev, A1, k1⟩) (q := q) hw 1 rfl rfl rfl rfl rfl)) ?_
        refine w_val (v_move rfl) rfl ?_
        refine w_op rfl ?_
        refine x_call (dst := some 36) (mc := []) (σ := Value) (fun _ => True) (fun sl => sl) (fun sl => [Own sl 30 5 (lastL q.L q.dn).length (resL (lastL q.L q.dn))]) rfl rfl rfl Try.call57 (fun w hw => stLast_spec ⟨p, pl, bv, ev, A1, k1⟩ q w (StV.at (y := ⟨p, pl, bv, ev, A1, k1⟩) (q := q) hw 1 rfl rfl rfl rfl rfl) h8) rfl (fun ol _ => ?_)
        refine w_op rfl ?_
        refine x_alloc (z := .agg #[.int .i64 0, .int .i64 0, .int .i64 0, .int .i64 0, .int .i64 0, .int .i64 0, .int .i64 0, .int .i64 0, .int .i64 0, .int .i64 0]) (by intro w; exact Try.zeroValue23 w) rfl (fun b8 => ?_)
        refine w_val (v_assign rfl) rfl ?_
        refine w_op rfl ?_
        refine x_storeA 0 rfl rfl rfl Try.hi23 (Try.cz23.trans (by simp [Value.cells, intsV, resCells, intCells, hz])) (by simp [Value.cells, intsV, resCells, intCells, hz]) (by first | exact one_intCells _ | exact one_resCells _ _) ?_
        refine w_val (v_assign rfl) rfl ?_
        refine w_nil ?_
        refine e_seq ?_
        refine e_seq ?_
        refine e_region ?_
        refine w_val (v_move rfl) rfl ?_
        refine w_val (v_move rfl) rfl ?_
        refine w_val (v_move rfl) rfl ?_
        refine w_val (v_indexS Try.underlying88 Try.hi100 Try.cz100 rfl rfl (by first | omega | decide)) rfl ?_
        refine w_val (v_loadON Try.underlying100 rfl Try.hi100 rfl (hcs2) Try.cz100) rfl ?_
        refine w_op rfl ?_
        refine x_callM (dst := some 42) (stH ⟨p, pl, bv, ev, A1, k1⟩ q) [.blk b8 23 (intCells (stL q.L q.dn)), Own ol 30 5 (lastL q.L q.dn).length (resL (lastL q.L q.dn)), Own ob 5 1 (bytesOf q.L).length (byteCells (bytesOf q.L))] (σ := (Value × Value) × Option Addr × Nat) (fun _ => True) (fun _ => .int .i64 (doQ q x).2) (fun z => stH ⟨p, pl, z.1.1, z.1.2, z.2.1, z.2.2⟩ (doQ q x).1) (List.perm_append_comm (l₁ := [_, _, _])) rfl rfl rfl Try.call51 (fun w hw => stDo_spec ⟨p, pl, bv, ev, A1, k1⟩ q x u pv w (res_part hw).1 (res_part hw).2 hok (hr.mono (hw.offm (fun c hc => List.mem_append_left _ hc))) (Rds.mono (hw.offm (fun c hc => List.mem_append_left _ hc)) hpp) hxi) rfl (fun z _ => ?_); obtain ⟨⟨bv2, ev2⟩, A2, k2⟩ := z; dsimp only
        refine w_val (v_is (v' := .bool true) (v_eql rfl rfl) (by rw [decide_eq_true hcode])) rfl ?_
        refine w_nil ?_
        refine e_condDT rfl (by omega) ?_
        refine e_exit rfl ?_
        refine e_region ?_
        refine w_val (v_move rfl) rfl ?_
        refine w_val (v_add rfl rfl (by omega)) rfl ?_
        refine w_val (v_assign rfl) rfl ?_
        refine w_nil ?_
        exact e_round ((i + 1, (doQ q x).1, (bv2, ev2), A2, k2)) (⟨by dsimp only; omega, hok'⟩) (by dsimp only; omega) (by repeat (first | exact Sub.nil _ | refine Sub.cons rfl ?_)) (fun _ hw => hw.pick [0, 1, 2, 3, 4] (by decide))
      · have hsame := doQ_refused hcode
        refine e_skip ?_
        refine e_seq ?_
        refine e_block ?_
        refine e_seq ?_
        refine e_region ?_
        refine w_val (v_move rfl) rfl ?_
        refine w_val (v_nilCheck rfl) rfl ?_
        refine w_val (v_fieldAddrB (o := 0) Try.underlying103 rfl rfl Try.nz101 rfl) rfl ?_
        refine w_val (v_loadB 0 rfl Try.underlying101 rfl rfl rfl) rfl ?_
        refine w_op rfl ?_
        refine x_call (dst := some 28) (mc := []) (σ := Value) (fun _ => True) (fun s => .tuple #[s, .int .i64 (endAt q.L q.k : Int)]) (fun s => [Own s 5 1 (bytesOf q.L).length (byteCells (bytesOf q.L))]) rfl rfl rfl Try.call60 (fun w hw => logBytes_spec pl bv ev q.L q.k w (StV.at (y := ⟨p, pl, bv, ev, A1, k1⟩) (q := q) hw 0 rfl rfl rfl rfl rfl).lg hB) rfl (fun ob _ => ?_)
        refine w_val (v_move rfl) rfl ?_
        refine w_val (v_extract rfl rfl) rfl ?_
        refine w_val (v_extract rfl rfl) rfl ?_
        refine w_val (v_assign rfl) rfl ?_
        refine w_val (v_assign rfl) rfl ?_
        refine w_nil ?_
        refine e_seq ?_
        refine e_region ?_
        refine w_val (v_move rfl) rfl ?_
        refine w_op rfl ?_
        refine x_call0 (v := .int .i64 (q.dn : Int)) rfl rfl rfl Try.call53 rfl (fun w hw => stDone_spec ⟨p, pl, bv, ev, A1, k1⟩ q w (StV.at (y := ⟨p, pl, bv, ev, A1, k1⟩) (q := q) hw 1 rfl rfl rfl rfl rfl)) ?_
        refine w_val (v_move rfl) rfl ?_
        refine w_op rfl ?_
        refine x_call0 (v := intsV (stL q.L q.dn)) rfl rfl rfl Try.call54 rfl (fun w hw => stState_spec ⟨p, pl, bv, ev, A1, k1⟩ q w (StV.at (y := ⟨p, pl, bv, ev, A1, k1⟩) (q := q) hw 1 rfl rfl rfl rfl rfl)) ?_
        refine w_val (v_move rfl) rfl ?_
        refine w_op rfl ?_
        refine x_call (dst := some 36) (mc := []) (σ := Value) (fun _ => True) (fun sl => sl) (fun sl => [Own sl 30 5 (lastL q.L q.dn).length (resL (lastL q.L q.dn))]) rfl rfl rfl Try.call57 (fun w hw => stLast_spec ⟨p, pl, bv, ev, A1, k1⟩ q w (StV.at (y := ⟨p, pl, bv, ev, A1, k1⟩) (q := q) hw 1 rfl rfl rfl rfl rfl) h8) rfl (fun ol _ => ?_)
        refine w_op rfl ?_
        refine x_alloc (z := .agg #[.int .i64 0, .int .i64 0, .int .i64 0, .int .i64 0, .int .i64 0, .int .i64 0, .int .i64 0, .int .i64 0, .int .i64 0, .int .i64 0]) (by intro w; exact Try.zeroValue23 w) rfl (fun b8 => ?_)
        refine w_val (v_assign rfl) rfl ?_
        refine w_op rfl ?_
        refine x_storeA 0 rfl rfl rfl Try.hi23 (Try.cz23.trans (by simp [Value.cells, intsV, resCells, intCells, hz])) (by simp [Value.cells, intsV, resCells, intCells, hz]) (by first | exact one_intCells _ | exact one_resCells _ _) ?_
        refine w_val (v_assign rfl) rfl ?_
        refine w_nil ?_
        refine e_seq ?_
        refine e_seq ?_
        refine e_region ?_
        refine w_val (v_move rfl) rfl ?_
        refine w_val (v_move rfl) rfl ?_
        refine w_val (v_move rfl) rfl ?_
        refine w_val (v_indexS Try.underlying88 Try.hi100 Try.cz100 rfl rfl (by first | omega | decide)) rfl ?_
        refine w_val (v_loadON Try.underlying100 rfl Try.hi100 rfl (hcs2) Try.cz100) rfl ?_
        refine w_op rfl ?_
        refine x_callM (dst := some 42) (stH ⟨p, pl, bv, ev, A1, k1⟩ q) [.blk b8 23 (intCells (stL q.L q.dn)), Own ol 30 5 (lastL q.L q.dn).length (resL (lastL q.L q.dn)), Own ob 5 1 (bytesOf q.L).length (byteCells (bytesOf q.L))] (σ := (Value × Value) × Option Addr × Nat) (fun _ => True) (fun _ => .int .i64 (doQ q x).2) (fun z => stH ⟨p, pl, z.1.1, z.1.2, z.2.1, z.2.2⟩ (doQ q x).1) (List.perm_append_comm (l₁ := [_, _, _])) rfl rfl rfl Try.call51 (fun w hw => stDo_spec ⟨p, pl, bv, ev, A1, k1⟩ q x u pv w (res_part hw).1 (res_part hw).2 hok (hr.mono (hw.offm (fun c hc => List.mem_append_left _ hc))) (Rds.mono (hw.offm (fun c hc => List.mem_append_left _ hc)) hpp) hxi) rfl (fun z _ => ?_); obtain ⟨⟨bv2, ev2⟩, A2, k2⟩ := z; dsimp only
        rw [hsame]
        refine w_val (v_is (v' := .bool false) (v_eql rfl rfl) (by rw [decide_eq_false hcode])) rfl ?_
        refine w_nil ?_
        refine e_condF rfl ?_
        refine e_skip ?_
        refine e_seq ?_
        refine e_region ?_
        refine w_val (v_move rfl) rfl ?_
        refine w_val (v_nilCheck rfl) rfl ?_
        refine w_val (v_fieldAddrB (o := 0) Try.underlying103 rfl rfl Try.nz101 rfl) rfl ?_
        refine w_val (v_loadB 0 rfl Try.underlying101 rfl rfl rfl) rfl ?_
        refine w_op rfl ?_
        refine x_call (dst := some 49) (mc := []) (σ := Value) (fun _ => True) (fun s => .tuple #[s, .int .i64 (endAt q.L q.k : Int)]) (fun s => [Own s 5 1 (bytesOf q.L).length (byteCells (bytesOf q.L))]) rfl rfl rfl Try.call60 (fun w hw => logBytes_spec pl bv2 ev2 q.L q.k w (StV.at (y := ⟨p, pl, bv2, ev2, A2, k2⟩) (q := q) hw 0 rfl rfl rfl rfl rfl).lg hB) rfl (fun ob2 _ => ?_)
        refine w_val (v_move rfl) rfl ?_
        refine w_val (v_extract rfl rfl) rfl ?_
        refine w_val (v_extract rfl rfl) rfl ?_
        refine w_val (v_assign rfl) rfl ?_
        refine w_val (v_assign rfl) rfl ?_
        refine w_nil ?_
        refine e_seq ?_
        refine e_draw ([Own ob2 5 1 (bytesOf q.L).length (byteCells (bytesOf q.L))] ++ (stH ⟨p, pl, bv2, ev2, A2, k2⟩ q ++ [.blk b8 23 (intCells (stL q.L q.dn)), Own ol 30 5 (lastL q.L q.dn).length (resL (lastL q.L q.dn)), Own ob 5 1 (bytesOf q.L).length (byteCells (bytesOf q.L))])) Try.mixed ?_
        refine a_take 0 pan_cx (by kernel_rfl) (fun _ hw => hw.sub (by repeat (first | exact List.Sublist.slnil | exact List.Sublist.refl _ | apply List.Sublist.cons_cons | apply List.Sublist.cons))) rfl (by kernel_rfl) (by kernel_rfl) (v_move rfl) rfl ?_
        refine a_take 1 pan_cx (by kernel_rfl) (fun _ hw => hw.sub (by repeat (first | exact List.Sublist.slnil | exact List.Sublist.refl _ | apply List.Sublist.cons_cons | apply List.Sublist.cons))) rfl (by kernel_rfl) (by kernel_rfl) (v_move rfl) rfl ?_
        refine a_one 2 (by kernel_rfl) rfl rfl ?_
        refine x_call0 (v := .bool true) rfl rfl rfl Try.call61 rfl (fun w hw => Calls.boolT rfl (sameBytes_spec _ _ (bytesOf q.L) (bytesOf q.L) w (own_rds (hw.mem (i := 8) rfl)) (own_rds (hw.mem (i := 0) rfl)))) ?_
        refine a_and (fun _ hw => hw.sub (by repeat (first | exact List.Sublist.slnil | exact List.Sublist.refl _ | apply List.Sublist.cons_cons | apply List.Sublist.cons))) ?_
        refine a_take 3 pan_cx (by kernel_rfl) (fun _ hw => hw.sub (by repeat (first | exact List.Sublist.slnil | exact List.Sublist.refl _ | apply List.Sublist.cons_cons | apply List.Sublist.cons))) rfl (by kernel_rfl) (by kernel_rfl) (v_not rfl) rfl ?_
        refine a_take 4 pan_cx (by kernel_rfl) (fun _ hw => hw.sub (by repeat (first | exact List.Sublist.slnil | exact List.Sublist.refl _ | apply List.Sublist.cons_cons | apply List.Sublist.cons))) rfl (by kernel_rfl) (by kernel_rfl) (v_move rfl) rfl ?_
        refine a_want 5 pan_cx (by kernel_rfl) (fun _ hw => hw.sub (by repeat (first | exact List.Sublist.slnil | exact List.Sublist.refl _ | apply List.Sublist.cons_cons | apply List.Sublist.cons))) rfl (by kernel_rfl) (by kernel_rfl) rfl rfl (v_move rfl) rfl ?_
        refine a_want 6 pan_cx (by kernel_rfl) (fun _ hw => hw.sub (by repeat (first | exact List.Sublist.slnil | exact List.Sublist.refl _ | apply List.Sublist.cons_cons | apply List.Sublist.cons))) rfl (by kernel_rfl) (by kernel_rfl) rfl rfl (v_move rfl) rfl ?_
        refine a_want 7 pan_cx (by kernel_rfl) (fun _ hw => hw.sub (by repeat (first | exact List.Sublist.slnil | exact List.Sublist.refl _ | apply List.Sublist.cons_cons | apply List.Sublist.cons))) rfl (by kernel_rfl) (by kernel_rfl) rfl rfl (v_is (v' := .bool false) (v_neq rfl rfl) (by rw [decide_eq_false (fun h => h rfl)])) rfl ?_
        refine a_take 8 pan_cx (by kernel_rfl) (fun _ hw => hw.sub (by repeat (first | exact List.Sublist.slnil | exact List.Sublist.refl _ | apply List.Sublist.cons_cons | apply List.Sublist.cons))) rfl (by kernel_rfl) (by kernel_rfl) (v_pickF rfl rfl) rfl ?_
        refine a_take 9 pan_cx (by kernel_rfl) (fun _ hw => hw.sub (by repeat (first | exact List.Sublist.slnil | exact List.Sublist.refl _ | apply List.Sublist.cons_cons | apply List.Sublist.cons))) rfl (by kernel_rfl) (by kernel_rfl) (v_move rfl) rfl ?_
        refine a_want 10 pan_cx (by kernel_rfl) (fun _ hw => hw.sub (by repeat (first | exact List.Sublist.slnil | exact List.Sublist.refl _ | apply List.Sublist.cons_cons | apply List.Sublist.cons))) rfl (by kernel_rfl) (by kernel_rfl) rfl rfl (v_move rfl) rfl ?_
        refine a_want 11 pan_cx (by kernel_rfl) (fun _ hw => hw.sub (by repeat (first | exact List.Sublist.slnil | exact List.Sublist.refl _ | apply List.Sublist.cons_cons | apply List.Sublist.cons))) rfl (by kernel_rfl) (by kernel_rfl) rfl rfl (v_move rfl) rfl ?_
        refine a_oneW 12 (by kernel_rfl) rfl rfl rfl ?_
        refine x_call0 (v := .int .i64 (q.dn : Int)) rfl rfl rfl Try.call53 rfl (fun w hw => stDone_spec ⟨p, pl, bv2, ev2, A2, k2⟩ q w (StV.at (y := ⟨p, pl, bv2, ev2, A2, k2⟩) (q := q) hw 1 rfl rfl rfl rfl rfl)) ?_
        refine a_and (fun _ hw => hw.sub (by repeat (first | exact List.Sublist.slnil | exact List.Sublist.refl _ | apply List.Sublist.cons_cons | apply List.Sublist.cons))) ?_
        refine a_want 13 pan_cx (by kernel_rfl) (fun _ hw => hw.sub (by repeat (first | exact List.Sublist.slnil | exact List.Sublist.refl _ | apply List.Sublist.cons_cons | apply List.Sublist.cons))) rfl (by kernel_rfl) (by kernel_rfl) rfl rfl (v_is (v' := .bool false) (v_neq rfl rfl) (by rw [decide_eq_false (fun h => h rfl)])) rfl ?_
        refine a_take 14 pan_cx (by kernel_rfl) (fun _ hw => hw.sub (by repeat (first | exact List.Sublist.slnil | exact List.Sublist.refl _ | apply List.Sublist.cons_cons | apply List.Sublist.cons))) rfl (by kernel_rfl) (by kernel_rfl) (v_pickF rfl rfl) rfl ?_
        refine a_take 15 pan_cx (by kernel_rfl) (fun _ hw => hw.sub (by repeat (first | exact List.Sublist.slnil | exact List.Sublist.refl _ | apply List.Sublist.cons_cons | apply List.Sublist.cons))) rfl (by kernel_rfl) (by kernel_rfl) (v_move rfl) rfl ?_
        refine a_want 16 pan_cx (by kernel_rfl) (fun _ hw => hw.sub (by repeat (first | exact List.Sublist.slnil | exact List.Sublist.refl _ | apply List.Sublist.cons_cons | apply List.Sublist.cons))) rfl (by kernel_rfl) (by kernel_rfl) rfl rfl (v_loadBN (cs' := intCells (stL q.L q.dn)) 6 rfl Try.underlying23 rfl Try.hi23 Try.cz23 rfl (by show (intCells (stL q.L q.dn)).take 10 = _; exact List.take_of_length_le (by simp [intCells, hz])) (by simp [intCells, hz])) rfl ?_
        refine a_want 17 pan_cx (by kernel_rfl) (fun _ hw => hw.sub (by repeat (first | exact List.Sublist.slnil | exact List.Sublist.refl _ | apply List.Sublist.cons_cons | apply List.Sublist.cons))) rfl (by kernel_rfl) (by kernel_rfl) rfl rfl (v_move rfl) rfl ?_
        refine a_oneW 18 (by kernel_rfl) rfl rfl rfl ?_
        refine x_call0 (v := intsV (stL q.L q.dn)) rfl rfl rfl Try.call54 rfl (fun w hw => stState_spec ⟨p, pl, bv2, ev2, A2, k2⟩ q w (StV.at (y := ⟨p, pl, bv2, ev2, A2, k2⟩) (q := q) hw 1 rfl rfl rfl rfl rfl)) ?_
        refine a_and (fun _ hw => hw.sub (by repeat (first | exact List.Sublist.slnil | exact List.Sublist.refl _ | apply List.Sublist.cons_cons | apply List.Sublist.cons))) ?_
        refine a_want 19 pan_cx (by kernel_rfl) (fun _ hw => hw.sub (by repeat (first | exact List.Sublist.slnil | exact List.Sublist.refl _ | apply List.Sublist.cons_cons | apply List.Sublist.cons))) rfl (by kernel_rfl) (by kernel_rfl) rfl rfl (v_is (v' := .bool false) (v_neqInts (p := stL q.L q.dn) (q := stL q.L q.dn) Try.underlying23 (by kernel_rfl) Try.underlying2 Try.hi2 Try.cz2 hz hz rfl rfl) (congrArg Value.bool (decide_eq_false (fun h => h rfl)))) rfl ?_
        refine a_take 20 pan_cx (by kernel_rfl) (fun _ hw => hw.sub (by repeat (first | exact List.Sublist.slnil | exact List.Sublist.refl _ | apply List.Sublist.cons_cons | apply List.Sublist.cons))) rfl (by kernel_rfl) (by kernel_rfl) (v_pickF rfl rfl) rfl ?_
        refine a_take 21 pan_cx (by kernel_rfl) (fun _ hw => hw.sub (by repeat (first | exact List.Sublist.slnil | exact List.Sublist.refl _ | apply List.Sublist.cons_cons | apply List.Sublist.cons))) rfl (by kernel_rfl) (by kernel_rfl) (v_move rfl) rfl ?_
        refine a_want 22 pan_cx (by kernel_rfl) (fun _ hw => hw.sub (by repeat (first | exact List.Sublist.slnil | exact List.Sublist.refl _ | apply List.Sublist.cons_cons | apply List.Sublist.cons))) rfl (by kernel_rfl) (by kernel_rfl) rfl rfl (v_move rfl) rfl ?_
        refine a_want 23 pan_cx (by kernel_rfl) (fun _ hw => hw.sub (by repeat (first | exact List.Sublist.slnil | exact List.Sublist.refl _ | apply List.Sublist.cons_cons | apply List.Sublist.cons))) rfl (by kernel_rfl) (by kernel_rfl) rfl rfl (v_move rfl) rfl ?_
        refine a_oneW 24 (by kernel_rfl) rfl rfl rfl ?_
        refine x_call (dst := some 76) (mc := []) (σ := Value) (fun _ => True) (fun sl => sl) (fun sl => [Own sl 30 5 (lastL q.L q.dn).length (resL (lastL q.L q.dn))]) rfl rfl rfl Try.call57 (fun w hw => stLast_spec ⟨p, pl, bv2, ev2, A2, k2⟩ q w (StV.at (y := ⟨p, pl, bv2, ev2, A2, k2⟩) (q := q) hw 1 rfl rfl rfl rfl rfl) h8) rfl (fun ol2 _ => ?_)
        refine a_and (fun _ hw => hw.sub (by repeat (first | exact List.Sublist.slnil | exact List.Sublist.refl _ | apply List.Sublist.cons_cons | apply List.Sublist.cons))) ?_
        refine a_oneW 25 (by kernel_rfl) rfl rfl rfl ?_
        refine x_call0 (v := .bool true) rfl rfl rfl Try.call30 rfl (fun w hw => by have := sameResults_spec ol ol2 (lastL q.L q.dn) (lastL q.L q.dn) w (own_rds (hw.mem (i := 8) rfl)) (own_rds (hw.mem (i := 0) rfl)) (lastL_regs _ _) (lastL_regs _ _) (by omega); rwa [decide_eq_true rfl] at this) ?_
        refine a_and (fun _ hw => hw.sub (by repeat (first | exact List.Sublist.slnil | exact List.Sublist.refl _ | apply List.Sublist.cons_cons | apply List.Sublist.cons))) ?_
        refine a_want 26 pan_cx (by kernel_rfl) (fun _ hw => hw.sub (by repeat (first | exact List.Sublist.slnil | exact List.Sublist.refl _ | apply List.Sublist.cons_cons | apply List.Sublist.cons))) rfl (by kernel_rfl) (by kernel_rfl) rfl rfl (v_not rfl) rfl ?_
        refine a_take 27 pan_cx (by kernel_rfl) (fun _ hw => hw.sub (by repeat (first | exact List.Sublist.slnil | exact List.Sublist.refl _ | apply List.Sublist.cons_cons | apply List.Sublist.cons))) rfl (by kernel_rfl) (by kernel_rfl) (v_pickF rfl rfl) rfl ?_
        refine a_done (by kernel_rfl) ?_
        refine e_condF rfl ?_
        refine e_skip ?_
        refine e_blk ?_
        refine e_region ?_
        refine w_val (v_move rfl) rfl ?_
        refine w_val (v_add rfl rfl (by omega)) rfl ?_
        refine w_val (v_assign rfl) rfl ?_
        refine w_nil ?_
        exact e_round ((i + 1, q, (bv2, ev2), A2, k2)) (⟨by dsimp only; omega, hok⟩) (by dsimp only; omega) (by repeat (first | exact Sub.nil _ | refine Sub.cons rfl ?_)) (fun _ hw => hw.pick [2, 3, 4, 5, 6] (by decide))
    · refine e_exit rfl ?_
      refine e_seq ?_
      refine e_region ?_
      refine w_val (v_assign rfl) rfl ?_
      refine w_nil ?_
      refine e_retQ (q_ret1 rfl (.tmp rfl) ?_)
      exact fun w' hw' => ⟨rfl, hw'.res.nil⟩
end Go.SL

