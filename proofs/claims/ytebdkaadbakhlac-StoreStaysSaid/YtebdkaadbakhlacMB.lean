/- Ytebdkaadbakhlac: part MB of this seat's own texts. -/
import Derived.Test.YtebdkaadbakhlacMA
set_option linter.unusedVariables false
set_option linter.unusedSimpArgs false

open Go Go.Proofs Go.SL
set_option maxRecDepth 100000
set_option maxHeartbeats 4000000
namespace Go.SL
theorem StoreStays_spec (v : Value) (l : List SStepL)  (w : World) (h : IsSSteps w.cell? v l) (hin : ∀ x ∈ l, ∀ d ∈ x.round, ∀ o ∈ d, OpIn o) (hl : ∀ x ∈ l, ∀ d ∈ x.round, d.length ≤ 4398046511104) (hmax : l.length ≤ maxLen) :
    Calls Try.prog 14 #[v] w fun e w' => e = .returned (.bool true) ∧ Res w [] [] w' := by
  have hs := h
  simp only [maxLen] at hmax
  rw [← off_none w] at h hs
  obtain ⟨A, kp, rfl, hle, hc⟩ := h
  refine enter0 (N := 102) Try.func14 rfl rfl rfl ?_
  refine e_seq ?_
  refine e_region ?_
  refine w_val (v_assign rfl) rfl ?_
  refine w_nil ?_
  refine e_seq ?_
  refine e_seq ?_
  refine e_region ?_
  refine w_op rfl ?_
  refine x_call0 (v := .bool true) rfl rfl rfl Try.call48 rfl (fun w hw => storeBegun_spec w) ?_
  refine w_val (v_not rfl) rfl ?_
  refine w_nil ?_
  refine e_condF rfl ?_
  refine e_skip ?_
  refine e_seq ?_
  refine e_seq ?_
  refine e_region ?_
  refine w_val (v_move rfl) rfl ?_
  refine w_op rfl ?_
  refine x_call (dst := some 16) (mc := []) (mr := []) (σ := Bool) (fun _ => True) (fun b => .bool b) (fun _ => []) rfl rfl rfl Try.call49 (fun w hw => greatSteps_spec _ l w (hs.mono hw.off) hl) rfl (fun b _ => ?_)
  refine w_nil ?_
  cases b with
  | true =>
    refine e_condDT rfl (by omega) ?_
    refine e_seq ?_
    refine e_region ?_
    refine w_val (v_assign rfl) rfl ?_
    refine w_nil ?_
    refine e_retQ (q_ret1 rfl (.tmp rfl) ?_)
    exact fun w' hw' => ⟨rfl, hw'.res.nil⟩
  | false =>
    refine e_condF rfl ?_
    refine e_skip ?_
    refine e_seq ?_
    refine e_region ?_
    refine w_op rfl ?_
    refine x_call (dst := some 17) (mc := []) (σ := StP) (fun _ => True) (fun y => .pointer (some ⟨y.p, 0, none⟩)) (fun y => stH y ⟨[], 0, 0⟩) rfl rfl rfl Try.call50 (fun w _ => stNew_spec w) rfl (fun y _ => ?_); obtain ⟨p, pl, bv0, ev0, A0, k0⟩ := y; dsimp only
    refine w_val (v_assign rfl) rfl ?_
    refine w_nil ?_
    refine e_seq ?_
    refine e_region ?_
    refine w_val (v_assign rfl) rfl ?_
    refine w_nil ?_
    refine e_seq ?_
    refine e_seq ?_
    refine e_region ?_
    refine w_val (v_assign rfl) rfl ?_
    refine w_nil ?_
    refine e_block ?_
    refine e_loopH (σ := Nat × QL × ((Value × Value) × Option Addr × Nat) × (Option Addr × Nat) × List Value × (Nat → Prop) × List RoundL) [0, 3] (.cons rfl (.cons rfl .nil)) (fun x => [(5, .int .i64 (x.1 : Int)), (4, .slice x.2.2.2.1.1 x.2.2.2.2.2.2.length x.2.2.2.1.2)]) (fun x => stH ⟨p, pl, x.2.2.1.1.1, x.2.2.1.1.2, x.2.2.1.2.1, x.2.2.1.2.2⟩ x.2.1 ++ [Own (.slice x.2.2.2.1.1 x.2.2.2.2.2.2.length x.2.2.2.1.2) 38 1 x.2.2.2.2.2.2.length x.2.2.2.2.1, Keep x.2.2.2.2.2.1 (Rounds x.2.2.2.2.1 x.2.2.2.2.2.2)]) (fun x => x.1 ≤ l.length ∧ x.2.1.Ok ∧ x.2.2.2.2.2.2 = x.2.1.L.take x.2.2.2.2.2.2.length ∧ x.2.2.2.2.2.2.length ≤ x.2.1.dn) (fun x => l.length - x.1) (0, ⟨[], 0, 0⟩, ((bv0, ev0), A0, k0), (none, 0), [], feet [], []) ⟨Nat.zero_le _, q0_ok, rfl, Nat.le_refl _⟩ (by repeat (first | exact Sub.nil _ | refine Sub.cons rfl ?_)) (fun _ hw => ((hw.keep0 (Rounds [] []) Rounds.nil).ownNil 38 1).pick [2, 3, 4, 5, 6, 0, 1] (by decide)) ?_
    rintro ⟨i, q, ⟨⟨bv, ev⟩, A1, k1⟩, ⟨Aw, kw⟩, vs, G, W⟩ ⟨hi, hok, hW, hWn⟩
    dsimp only at hi hok hW hWn ⊢
    refine e_seq ?_
    refine e_seq ?_
    refine e_region ?_
    refine w_val (v_move rfl) rfl ?_
    refine w_val (v_move rfl) rfl ?_
    refine w_val (v_lenS Try.underlying88 rfl) rfl ?_
    refine w_val (v_lss rfl rfl) rfl ?_
    refine w_nil ?_
    refine e_condD rfl (fun hlt => ?_) (fun hlt => ?_)
    · have hi' : i < l.length := by omega
      obtain ⟨ad, u, pv, rfl, hcs, hr, hpp⟩ := hc i hi'
      have hxi := hin _ (List.getElem_mem hi')
      have hok' := doQ_ok hok hxi
      have hcs2 : Cells (off w (feet [])) (ad.add (((i : Nat) : Int).toNat * 4)) (sstC l[i] u pv) := by rw [Int.toNat_natCast]; exact hcs
      have hst := stays_take hok l[i] hok' hW hWn
      generalize l[i] = x at *
      refine e_skip ?_
      refine e_seq ?_
      refine e_block ?_
      refine e_seq ?_
      refine e_region ?_
      refine w_val (v_move rfl) rfl ?_
      refine w_val (v_move rfl) rfl ?_
      refine w_val (v_move rfl) rfl ?_
      refine w_val (v_indexS Try.underlying88 Try.hi100 Try.cz100 rfl rfl (by first | omega | decide)) rfl ?_
      refine w_val (v_loadON Try.underlying100 rfl Try.hi100 rfl (hcs2) Try.cz100) rfl ?_
      refine w_op rfl ?_
      refine x_callM (dst := some 29) (stH ⟨p, pl, bv, ev, A1, k1⟩ q) ([Own (.slice Aw W.length kw) 38 1 W.length vs, Keep G (Rounds vs W)]) (σ := (Value × Value) × Option Addr × Nat) (fun _ => True) (fun _ => .int .i64 (doQ q x).2) (fun z => stH ⟨p, pl, z.1.1, z.1.2, z.2.1, z.2.2⟩ (doQ q x).1) (List.Perm.refl _) rfl rfl rfl Try.call51 (fun w hw => stDo_spec ⟨p, pl, bv, ev, A1, k1⟩ q x u pv w (res_part hw).1 (res_part hw).2 hok (hr.mono (hw.offm (fun c hc => List.mem_append_left _ hc))) (Rds.mono (hw.offm (fun c hc => List.mem_append_left _ hc)) hpp) hxi) rfl (fun z _ => ?_); obtain ⟨⟨bv2, ev2⟩, A2, k2⟩ := z; dsimp only; generalize (doQ q x).1 = q2 at *; clear hok hW hWn; obtain ⟨hW, hWn⟩ := hst
      refine w_nil ?_
      refine e_seq ?_
      refine e_region ?_
      refine w_op rfl ?_
      refine x_alloc (z := .agg #[.int .i64 0, .int .i64 0, .int .i64 0, .int .i64 0, .int .i64 0, .int .i64 0, .int .i64 0, .int .i64 0, .int .i64 0, .int .i64 0]) (by intro w; exact Try.zeroValue23 w) rfl (fun b6 => ?_)
      refine w_nil ?_
      refine e_seq ?_
      refine e_seq ?_
      refine e_region ?_
      refine w_val (v_assign rfl) rfl ?_
      refine w_nil ?_
      refine e_block ?_
      refine e_loopH (σ := Nat × (Option Addr × Nat) × List Value × (Nat → Prop) × List RoundL) [0, 3, 5, 6] (.cons rfl (.cons rfl (.cons rfl (.cons rfl .nil)))) (fun x => [(7, .int .i64 (x.1 : Int)), (4, .slice x.2.1.1 x.2.2.2.2.length x.2.1.2)]) (fun x => (Chunk.blk b6 23 (intCells (stL q2.L x.1)) :: (stH ⟨p, pl, bv2, ev2, A2, k2⟩ q2 ++ [Own (.slice x.2.1.1 x.2.2.2.2.length x.2.1.2) 38 1 x.2.2.2.2.length x.2.2.1, Keep x.2.2.2.1 (Rounds x.2.2.1 x.2.2.2.2)]))) (fun x => x.1 ≤ q2.dn ∧ x.2.2.2.2 = q2.L.take x.2.2.2.2.length ∧ x.2.2.2.2.length ≤ q2.dn ∧ x.1 ≤ x.2.2.2.2.length) (fun x => q2.dn - x.1) (0, (Aw, kw), vs, G, W) ⟨Nat.zero_le _, hW, hWn, Nat.zero_le _⟩ (by repeat (first | exact Sub.nil _ | refine Sub.cons rfl ?_)) (fun _ hw => hw) ?_
      clear hW hWn
      rintro ⟨n, ⟨Aw, kw⟩, vs, G, W⟩ ⟨hn, hW, hWn, hnW⟩
      dsimp only at hn hW hWn hnW ⊢
      have hdl := hok'.len
      have h25 := hok'.log.len
      have hz2 := stL_len q2.L q2.dn
      refine e_seq ?_
      refine e_seq ?_
      refine e_region ?_
      refine w_val (v_move rfl) rfl ?_
      refine w_val (v_move rfl) rfl ?_
      refine w_op rfl ?_
      refine x_call0 (v := .int .i64 (q2.dn : Int)) rfl rfl rfl Try.call53 rfl (fun w hw => stDone_spec ⟨p, pl, bv2, ev2, A2, k2⟩ q2 w (StV.at (y := ⟨p, pl, bv2, ev2, A2, k2⟩) (q := q2) hw 1 rfl rfl rfl rfl rfl)) ?_
      refine w_val (v_lss rfl rfl) rfl ?_
      refine w_nil ?_
      refine e_condD rfl (fun hlt2 => ?_) (fun hlt2 => ?_)
      · have hn' : n < q2.dn := by omega
        have hnl : n < q2.L.length := by omega
        have hgd : q2.L.getD n [] = q2.L[n] := by simp [List.getD, hnl]
        have hf := hok'.fault hnl
        have hsm := small_of hf
        have hz := stL_len q2.L n
        have hzn := stL_len q2.L (n + 1)
        have hser := fun (w1 : World) (v1 : Value) (h1 : IsRound w1.cell? v1 (q2.L.getD n [])) => serAll_spec (stL q2.L n) v1 _ w1 h1 hz
        have hsa : serAllL (stL q2.L n) (q2.L.getD n []) = (stL q2.L (n + 1), resAll (stL q2.L n) (q2.L.getD n []), 0) := by unfold serAllL; rw [if_neg (by omega), allL_is]; rfl
        rw [hsa] at hser
        dsimp only at hser
        have hround := fun (w1 : World) (hv : LgV w1.cell? pl bv2 ev2 q2.L q2.k) => logRound_spec pl bv2 ev2 q2.L q2.k n w1 hv hok'.log hnl
        rw [← hgd] at hround
        have htk := fun h => take_at (n := n) hW h
        have hsn := fun h => take_snoc (n := n) hW h hnl
        generalize q2.L.getD n [] = r at *
        generalize hx0 : stL q2.L n = sx at *
        generalize hx1 : stL q2.L (n + 1) = sy at *
        have hlz : (intCells sx).length = 10 := by simp [intCells, hz]
        have hlzn : (intCells sy).length = 10 := by simp [intCells, hzn]
        refine g_shape2 6 rfl (fun A0 k0 e0 hle0 had => ?_)
        injection e0 with e0 _ e00
        subst e0; subst e00
        refine g_rounds 7 rfl (fun hvl => ?_)
        refine e_skip ?_
        refine e_seq ?_
        refine e_block ?_
        refine e_seq ?_
        refine e_region ?_
        refine w_val (v_move rfl) rfl ?_
        refine w_val (v_nilCheck rfl) rfl ?_
        refine w_val (v_fieldAddrB (o := 0) Try.underlying103 rfl rfl Try.nz101 rfl) rfl ?_
        refine w_val (v_loadB 1 rfl Try.underlying101 rfl rfl rfl) rfl ?_
        refine w_val (v_move rfl) rfl ?_
        refine w_op rfl ?_
        refine x_call (dst := some 42) (mc := []) (σ := Value × (Nat → Prop)) (fun _ => True) (fun s => .tuple #[s.1, .bool true]) (fun s => [Keep s.2 (fun c => IsRound c s.1 r)]) rfl rfl rfl Try.call62 (fun w hw => hround w (StV.at (y := ⟨p, pl, bv2, ev2, A2, k2⟩) (q := q2) hw 1 rfl rfl rfl rfl rfl).lg) rfl (fun s _ => ?_); obtain ⟨rv, Gr⟩ := s; dsimp only
        refine w_val (v_move rfl) rfl ?_
        refine w_val (v_extract rfl rfl) rfl ?_
        refine w_val (v_extract rfl rfl) rfl ?_
        refine w_val (v_assign rfl) rfl ?_
        refine w_val (v_assign rfl) rfl ?_
        refine w_nil ?_
        refine e_seq ?_
        refine e_seq ?_
        by_cases hw1 : n < W.length
        · have hu : vs[((n : Int)).toNat * 1]? = some vs[n] := by rw [Int.toNat_natCast, Nat.mul_one]; exact List.getElem?_eq_getElem (by omega)
          obtain ⟨ad, rfl⟩ := had (by omega)
          have htk' := htk hw1
          refine e_region ?_
          refine w_val (v_move rfl) rfl ?_
          refine w_val (v_is (v' := .bool false) (v_not rfl) (by rfl)) rfl ?_
          refine w_val (v_move rfl) rfl ?_
          refine w_want rfl rfl ?_
          refine w_val (v_move rfl) rfl ?_
          refine w_want rfl rfl ?_
          refine w_val (v_move rfl) rfl ?_
          refine w_want rfl rfl ?_
          refine w_val (v_lenS Try.underlying93 rfl) rfl ?_
          refine w_want rfl rfl ?_
          refine w_val (v_is (v' := .bool true) (v_lss rfl rfl) (by rw [decide_eq_true (by omega)])) rfl ?_
          refine w_want rfl rfl ?_
          refine w_val (v_move rfl) rfl ?_
          refine w_want rfl rfl ?_
          refine w_val (v_move rfl) rfl ?_
          refine w_want rfl rfl ?_
          refine w_val (v_move rfl) rfl ?_
          refine w_want rfl rfl ?_
          refine w_val (v_move rfl) rfl ?_
          refine w_want rfl rfl ?_
          refine w_val (v_indexS Try.underlying93 Try.hi38 Try.cz38 rfl rfl (by first | omega | decide)) rfl ?_
          refine w_want rfl rfl ?_
          refine w_val (v_loadW 7 rfl (by omega) hu Try.underlying38 rfl rfl) rfl ?_
          refine w_want rfl rfl ?_
          refine w_op rfl ?_
          refine x_call0 (v := .bool true) rfl rfl rfl Try.call63 rfl (fun w hw => Calls.boolT rfl (sameRound_spec _ _ r r w (keep_all (IsRound.up _ _) (hw.mem (i := 0) rfl)) (htk' ▸ (keep_all (Rounds.up _ _) (hw.mem (i := 8) rfl)).at hw1 (List.getElem?_eq_getElem (by omega))) (by omega) (fun d hd => by have := hsm.2 d hd; omega))) ?_
          refine w_want rfl rfl ?_
          refine w_val (v_is (v' := .bool false) (v_not rfl) (by rfl)) rfl ?_
          refine w_want rfl rfl ?_
          refine w_val (v_pickT rfl rfl) rfl ?_
          refine w_val (v_pickF rfl rfl) rfl ?_
          refine w_nil ?_
          refine e_condF rfl ?_
          refine e_skip ?_
          refine e_seq ?_
          refine e_region ?_
          refine w_val (v_loadBA 1 rfl Try.underlying23 rfl Try.hi23 (Try.cz23.trans hlz.symm) rfl) rfl ?_
          refine w_val (v_move rfl) rfl ?_
          refine w_op rfl ?_
          refine x_call (dst := some 65) (mc := []) (σ := Value) (fun _ => True) (fun sl => .tuple #[intsV sy, sl, .int .i64 0]) (fun sl => [Own sl 30 5 (resAll sx r).length (resL (resAll sx r))]) rfl rfl rfl Try.call47 (fun w hw => hser w _ (keep_all (IsRound.up _ _) (hw.mem (i := 0) rfl))) rfl (fun sl _ => ?_)
          refine w_val (v_move rfl) rfl ?_
          refine w_val (v_extract rfl rfl) rfl ?_
          refine w_val (v_extract rfl rfl) rfl ?_
          refine w_val (v_extract rfl rfl) rfl ?_
          refine w_op rfl ?_
          refine x_alloc (z := .agg #[.int .i64 0, .int .i64 0, .int .i64 0, .int .i64 0, .int .i64 0, .int .i64 0, .int .i64 0, .int .i64 0, .int .i64 0, .int .i64 0]) (by intro w; exact Try.zeroValue23 w) rfl (fun b10 => ?_)
          refine w_op rfl ?_
          refine x_storeA 0 rfl rfl rfl Try.hi23 (Try.cz23.trans (by simp [Value.cells, intsV, resCells, intCells, hz, hzn])) (by simp [Value.cells, intsV, resCells, intCells, hz, hzn]) (by first | exact one_intCells _ | exact one_resCells _ _) ?_
          refine w_val (v_assign rfl) rfl ?_
          refine w_val (v_assign rfl) rfl ?_
          refine w_nil ?_
          refine e_seq ?_
          refine e_seq ?_
          refine e_region ?_
          refine w_val (v_move rfl) rfl ?_
          refine w_val (v_neq rfl rfl) rfl ?_
          refine w_nil ?_
          refine e_condF rfl ?_
          refine e_skip ?_
          refine e_seq ?_
          refine e_region ?_
          refine w_val (v_loadBA 0 rfl Try.underlying23 rfl Try.hi23 (Try.cz23.trans hlzn.symm) rfl) rfl ?_
          refine w_op rfl ?_
          refine x_storeA 3 rfl rfl rfl Try.hi23 (Try.cz23.trans (by simp [intCells, hzn])) (by simp [intCells, hz, hzn]) (one_intCells _) ?_
          refine w_nil ?_
          refine e_seq ?_
          refine e_region ?_
          refine w_val (v_move rfl) rfl ?_
          refine w_val (v_move rfl) rfl ?_
          refine w_val (v_lenS Try.underlying93 rfl) rfl ?_
          refine w_val (v_is (v' := .bool false) (v_geq rfl rfl) (by rw [decide_eq_false (by omega)])) rfl ?_
          refine w_nil ?_
          refine e_condF rfl ?_
          refine e_skip ?_
          refine e_blk ?_
          refine e_region ?_
          refine w_val (v_move rfl) rfl ?_
          refine w_val (v_add rfl rfl (by omega)) rfl ?_
          refine w_val (v_assign rfl) rfl ?_
          refine w_nil ?_
          exact e_round ((n + 1, (some ad, kw), vs, G, W)) (⟨by dsimp only; omega, hW, hWn, by dsimp only; omega⟩) (by dsimp only; omega) (by repeat (first | exact Sub.nil _ | refine Sub.cons rfl ?_)) (fun _ hw => by dsimp only; rw [hx1]; exact hw.pick [3, 4, 5, 6, 7, 8, 9, 10] (by decide))
        · refine e_region ?_
          refine w_val (v_move rfl) rfl ?_
          refine w_val (v_is (v' := .bool false) (v_not rfl) (by rfl)) rfl ?_
          refine w_val (v_move rfl) rfl ?_
          refine w_want rfl rfl ?_
          refine w_val (v_move rfl) rfl ?_
          refine w_want rfl rfl ?_
          refine w_val (v_move rfl) rfl ?_
          refine w_want rfl rfl ?_
          refine w_val (v_lenS Try.underlying93 rfl) rfl ?_
          refine w_want rfl rfl ?_
          refine w_val (v_is (v' := .bool false) (v_lss rfl rfl) (by rw [decide_eq_false (by omega)])) rfl ?_
          refine w_want rfl rfl ?_
          refine w_val (v_move rfl) rfl ?_
          refine w_skip rfl rfl rfl rfl ?_
          refine w_skip rfl rfl rfl rfl ?_
          refine w_skip rfl rfl rfl rfl ?_
          refine w_skip rfl rfl rfl rfl ?_
          refine w_skip rfl rfl rfl rfl ?_
          refine w_skip rfl rfl rfl rfl ?_
          refine w_skip rfl rfl rfl rfl ?_
          refine w_want rfl rfl ?_
          refine w_val (v_pickF rfl rfl) rfl ?_
          refine w_val (v_pickF rfl rfl) rfl ?_
          refine w_nil ?_
          refine e_condF rfl ?_
          refine e_skip ?_
          refine e_seq ?_
          refine e_region ?_
          refine w_val (v_loadBA 1 rfl Try.underlying23 rfl Try.hi23 (Try.cz23.trans hlz.symm) rfl) rfl ?_
          refine w_val (v_move rfl) rfl ?_
          refine w_op rfl ?_
          refine x_call (dst := some 65) (mc := []) (σ := Value) (fun _ => True) (fun sl => .tuple #[intsV sy, sl, .int .i64 0]) (fun sl => [Own sl 30 5 (resAll sx r).length (resL (resAll sx r))]) rfl rfl rfl Try.call47 (fun w hw => hser w _ (keep_all (IsRound.up _ _) (hw.mem (i := 0) rfl))) rfl (fun sl _ => ?_)
          refine w_val (v_move rfl) rfl ?_
          refine w_val (v_extract rfl rfl) rfl ?_
          refine w_val (v_extract rfl rfl) rfl ?_
          refine w_val (v_extract rfl rfl) rfl ?_
          refine w_op rfl ?_
          refine x_alloc (z := .agg #[.int .i64 0, .int .i64 0, .int .i64 0, .int .i64 0, .int .i64 0, .int .i64 0, .int .i64 0, .int .i64 0, .int .i64 0, .int .i64 0]) (by intro w; exact Try.zeroValue23 w) rfl (fun b10 => ?_)
          refine w_op rfl ?_
          refine x_storeA 0 rfl rfl rfl Try.hi23 (Try.cz23.trans (by simp [Value.cells, intsV, resCells, intCells, hz, hzn])) (by simp [Value.cells, intsV, resCells, intCells, hz, hzn]) (by first | exact one_intCells _ | exact one_resCells _ _) ?_
          refine w_val (v_assign rfl) rfl ?_
          refine w_val (v_assign rfl) rfl ?_
          refine w_nil ?_
          refine e_seq ?_
          refine e_seq ?_
          refine e_region ?_
          refine w_val (v_move rfl) rfl ?_
          refine w_val (v_is (v' := .bool false) (v_neq rfl rfl) (by rfl)) rfl ?_
          refine w_nil ?_
          refine e_condF rfl ?_
          refine e_skip ?_
          refine e_seq ?_
          refine e_region ?_
          refine w_val (v_loadBA 0 rfl Try.underlying23 rfl Try.hi23 (Try.cz23.trans hlzn.symm) rfl) rfl ?_
          refine w_op rfl ?_
          refine x_storeA 3 rfl rfl rfl Try.hi23 (Try.cz23.trans (by simp [intCells, hzn])) (by simp [intCells, hz, hzn]) (one_intCells _) ?_
          refine w_nil ?_
          refine e_seq ?_
          refine e_region ?_
          refine w_val (v_move rfl) rfl ?_
          refine w_val (v_move rfl) rfl ?_
          refine w_val (v_lenS Try.underlying93 rfl) rfl ?_
          refine w_val (v_is (v' := .bool true) (v_geq rfl rfl) (by rw [decide_eq_true (by omega)])) rfl ?_
          refine w_nil ?_
          have hnw : n = W.length := by omega
          have hlw : (W ++ [r]).length = W.length + 1 := by simp
          refine e_condT rfl ?_
          refine e_region ?_
          refine w_val (v_move rfl) rfl ?_
          refine w_val (v_move rfl) rfl ?_
          refine w_op rfl ?_
          refine x_call (dst := some 78) (mc := []) (σ := Option Addr × Nat × (Nat → Prop)) (fun _ => True) (fun s => .slice s.1 r.length s.2.1) (fun s => [Keep s.2.2 (fun c => IsRound c (.slice s.1 r.length s.2.1) r)]) rfl rfl rfl Try.call28 (fun w hw => refOwn_spec' _ r w (keep_all (IsRound.up _ _) (hw.mem (i := 2) rfl)) (by omega) (fun d hd => by have := hsm.2 d hd; omega)) rfl (fun so _ => ?_)
          refine w_op rfl ?_
          refine x_buildSlice _ ([.slice so.1 r.length so.2.1]) rfl (run_buildSlice Try.underlying93 Try.hi38 Try.cz38 Try.zeroValue38 rfl (by kernel_rfl)) rfl (fun b79 => ?_)
          refine w_op rfl ?_
          refine x_appendIS (z := .slice none 0 0) (n := W.length) (xs := vs) (size := 1) (bytes := 24) (k := 1) (news := [.slice so.1 r.length so.2.1]) 11 rfl rfl rfl Try.underlying93 (by kernel_rfl) rfl (by decide) (fun w hw => blk_rds (hw.hold _ (List.mem_cons_self ..)) rfl) (by intro u hu; simp only [List.mem_singleton] at hu; subst hu; rfl) (by have := hok'.log.len; omega) (by have := hok'.log.len; simp only [maxLen]; omega) rfl (fun Al2 kl2 hkl2 => ?_); rw [← hlw]
          refine w_val (v_assign rfl) rfl ?_
          refine w_nil ?_
          refine e_blk ?_
          refine e_region ?_
          refine w_val (v_move rfl) rfl ?_
          refine w_val (v_add rfl rfl (by omega)) rfl ?_
          refine w_val (v_assign rfl) rfl ?_
          refine w_nil ?_
          have hsn' := hsn hnw
          exact e_round ((n + 1, (Al2, kl2), vs ++ [.slice so.1 r.length so.2.1], feet [Keep so.2.2 (fun c => IsRound c (.slice so.1 r.length so.2.1) r), Keep G (Rounds vs W)], W ++ [r])) (⟨by dsimp only; omega, hsn', by dsimp only; omega, by dsimp only; omega⟩) (by dsimp only; omega) (by repeat (first | exact Sub.nil _ | refine Sub.cons rfl ?_)) (fun _ hw => by dsimp only; rw [hx1]; exact (hw.pick [1, 12, 5, 6, 7, 8, 9, 10, 11] (by decide)).roundsIn.pick [1, 2, 3, 4, 5, 6, 7, 0] (by decide))
      · have e : n = q2.dn := by omega
        subst e
        have hlz : (intCells (stL q2.L q2.dn)).length = 10 := by simp [intCells, hz2]
        have hdk := hok'.dn
        refine e_exit rfl ?_
        refine e_seq ?_
        refine e_draw ((Chunk.blk b6 23 (intCells (stL q2.L q2.dn)) :: (stH ⟨p, pl, bv2, ev2, A2, k2⟩ q2 ++ [Own (.slice Aw W.length kw) 38 1 W.length vs, Keep G (Rounds vs W)]))) Try.mixed ?_
        refine a_take 0 pan_cx (by kernel_rfl) (fun _ hw => hw.sub (by repeat (first | exact List.Sublist.slnil | exact List.Sublist.refl _ | apply List.Sublist.cons_cons | apply List.Sublist.cons))) rfl (by kernel_rfl) (by kernel_rfl) (v_move rfl) rfl ?_
        refine a_take 2 pan_cx (by kernel_rfl) (fun _ hw => hw.sub (by repeat (first | exact List.Sublist.slnil | exact List.Sublist.refl _ | apply List.Sublist.cons_cons | apply List.Sublist.cons))) rfl (by kernel_rfl) (by kernel_rfl) (v_loadBA 0 rfl Try.underlying23 rfl Try.hi23 (Try.cz23.trans hlz.symm) rfl) rfl ?_
        refine a_one 1 (by kernel_rfl) rfl rfl ?_
        refine x_call0 (v := intsV (stL q2.L q2.dn)) rfl rfl rfl Try.call54 rfl (fun w hw => stState_spec ⟨p, pl, bv2, ev2, A2, k2⟩ q2 w (StV.at (y := ⟨p, pl, bv2, ev2, A2, k2⟩) (q := q2) hw 1 rfl rfl rfl rfl rfl)) ?_
        refine a_and (fun _ hw => hw.sub (by repeat (first | exact List.Sublist.slnil | exact List.Sublist.refl _ | apply List.Sublist.cons_cons | apply List.Sublist.cons))) ?_
        refine a_take 3 pan_cx (by kernel_rfl) (fun _ hw => hw.sub (by repeat (first | exact List.Sublist.slnil | exact List.Sublist.refl _ | apply List.Sublist.cons_cons | apply List.Sublist.cons))) rfl (by kernel_rfl) (by kernel_rfl) (v_is (v' := .bool false) (v_neqInts (p := stL q2.L q2.dn) (q := stL q2.L q2.dn) Try.underlying23 (by kernel_rfl) Try.underlying2 Try.hi2 Try.cz2 hz2 hz2 rfl rfl) (congrArg Value.bool (decide_eq_false (fun h => h rfl)))) rfl ?_
        refine a_take 4 pan_cx (by kernel_rfl) (fun _ hw => hw.sub (by repeat (first | exact List.Sublist.slnil | exact List.Sublist.refl _ | apply List.Sublist.cons_cons | apply List.Sublist.cons))) rfl (by kernel_rfl) (by kernel_rfl) (v_move rfl) rfl ?_
        refine a_want 5 pan_cx (by kernel_rfl) (fun _ hw => hw.sub (by repeat (first | exact List.Sublist.slnil | exact List.Sublist.refl _ | apply List.Sublist.cons_cons | apply List.Sublist.cons))) rfl (by kernel_rfl) (by kernel_rfl) rfl rfl (v_move rfl) rfl ?_
        refine a_want 7 pan_cx (by kernel_rfl) (fun _ hw => hw.sub (by repeat (first | exact List.Sublist.slnil | exact List.Sublist.refl _ | apply List.Sublist.cons_cons | apply List.Sublist.cons))) rfl (by kernel_rfl) (by kernel_rfl) rfl rfl (v_move rfl) rfl ?_
        refine a_want 8 pan_cx (by kernel_rfl) (fun _ hw => hw.sub (by repeat (first | exact List.Sublist.slnil | exact List.Sublist.refl _ | apply List.Sublist.cons_cons | apply List.Sublist.cons))) rfl (by kernel_rfl) (by kernel_rfl) rfl rfl (v_lenS Try.underlying93 rfl) rfl ?_
        refine a_oneW 6 (by kernel_rfl) rfl rfl rfl ?_
        refine x_call0 (v := .int .i64 (q2.dn : Int)) rfl rfl rfl Try.call53 rfl (fun w hw => stDone_spec ⟨p, pl, bv2, ev2, A2, k2⟩ q2 w (StV.at (y := ⟨p, pl, bv2, ev2, A2, k2⟩) (q := q2) hw 1 rfl rfl rfl rfl rfl)) ?_
        refine a_and (fun _ hw => hw.sub (by repeat (first | exact List.Sublist.slnil | exact List.Sublist.refl _ | apply List.Sublist.cons_cons | apply List.Sublist.cons))) ?_
        refine a_want 9 pan_cx (by kernel_rfl) (fun _ hw => hw.sub (by repeat (first | exact List.Sublist.slnil | exact List.Sublist.refl _ | apply List.Sublist.cons_cons | apply List.Sublist.cons))) rfl (by kernel_rfl) (by kernel_rfl) rfl rfl (v_is (v' := .bool false) (v_lss rfl rfl) (by rw [decide_eq_false (by omega)])) rfl ?_
        refine a_take 10 pan_cx (by kernel_rfl) (fun _ hw => hw.sub (by repeat (first | exact List.Sublist.slnil | exact List.Sublist.refl _ | apply List.Sublist.cons_cons | apply List.Sublist.cons))) rfl (by kernel_rfl) (by kernel_rfl) (v_pickF rfl rfl) rfl ?_
        refine a_take 11 pan_cx (by kernel_rfl) (fun _ hw => hw.sub (by repeat (first | exact List.Sublist.slnil | exact List.Sublist.refl _ | apply List.Sublist.cons_cons | apply List.Sublist.cons))) rfl (by kernel_rfl) (by kernel_rfl) (v_move rfl) rfl ?_
        refine a_want 12 pan_cx (by kernel_rfl) (fun _ hw => hw.sub (by repeat (first | exact List.Sublist.slnil | exact List.Sublist.refl _ | apply List.Sublist.cons_cons | apply List.Sublist.cons))) rfl (by kernel_rfl) (by kernel_rfl) rfl rfl (v_move rfl) rfl ?_
        refine a_want 14 pan_cx (by kernel_rfl) (fun _ hw => hw.sub (by repeat (first | exact List.Sublist.slnil | exact List.Sublist.refl _ | apply List.Sublist.cons_cons | apply List.Sublist.cons))) rfl (by kernel_rfl) (by kernel_rfl) rfl rfl (v_move rfl) rfl ?_
        refine a_want 15 pan_cx (by kernel_rfl) (fun _ hw => hw.sub (by repeat (first | exact List.Sublist.slnil | exact List.Sublist.refl _ | apply List.Sublist.cons_cons | apply List.Sublist.cons))) rfl (by kernel_rfl) (by kernel_rfl) rfl rfl (v_nilCheck rfl) rfl ?_
        refine a_want 16 pan_cx (by kernel_rfl) (fun _ hw => hw.sub (by repeat (first | exact List.Sublist.slnil | exact List.Sublist.refl _ | apply List.Sublist.cons_cons | apply List.Sublist.cons))) rfl (by kernel_rfl) (by kernel_rfl) rfl rfl (v_fieldAddrB (o := 0) Try.underlying103 rfl rfl Try.nz101 rfl) rfl ?_
        refine a_want 17 pan_cx (by kernel_rfl) (fun _ hw => hw.sub (by repeat (first | exact List.Sublist.slnil | exact List.Sublist.refl _ | apply List.Sublist.cons_cons | apply List.Sublist.cons))) rfl (by kernel_rfl) (by kernel_rfl) rfl rfl (v_loadB 1 rfl Try.underlying101 rfl rfl rfl) rfl ?_
        refine a_oneW 13 (by kernel_rfl) rfl rfl rfl ?_
        refine x_call0 (v := .int .i64 (q2.dn : Int)) rfl rfl rfl Try.call53 rfl (fun w hw => stDone_spec ⟨p, pl, bv2, ev2, A2, k2⟩ q2 w (StV.at (y := ⟨p, pl, bv2, ev2, A2, k2⟩) (q := q2) hw 1 rfl rfl rfl rfl rfl)) ?_
        refine a_and (fun _ hw => hw.sub (by repeat (first | exact List.Sublist.slnil | exact List.Sublist.refl _ | apply List.Sublist.cons_cons | apply List.Sublist.cons))) ?_
        refine a_oneW 18 (by kernel_rfl) rfl rfl rfl ?_
        refine x_call0 (v := .int .i64 (q2.k : Int)) rfl rfl rfl Try.call56 rfl (fun w hw => logSure_spec pl bv2 ev2 q2.L q2.k w (StV.at (y := ⟨p, pl, bv2, ev2, A2, k2⟩) (q := q2) hw 1 rfl rfl rfl rfl rfl).lg hok'.log.len hok'.log.sure) ?_
        refine a_and (fun _ hw => hw.sub (by repeat (first | exact List.Sublist.slnil | exact List.Sublist.refl _ | apply List.Sublist.cons_cons | apply List.Sublist.cons))) ?_
        refine a_want 19 pan_cx (by kernel_rfl) (fun _ hw => hw.sub (by repeat (first | exact List.Sublist.slnil | exact List.Sublist.refl _ | apply List.Sublist.cons_cons | apply List.Sublist.cons))) rfl (by kernel_rfl) (by kernel_rfl) rfl rfl (v_is (v' := .bool false) (v_gtr rfl rfl) (by rw [decide_eq_false (by omega)])) rfl ?_
        refine a_take 20 pan_cx (by kernel_rfl) (fun _ hw => hw.sub (by repeat (first | exact List.Sublist.slnil | exact List.Sublist.refl _ | apply List.Sublist.cons_cons | apply List.Sublist.cons))) rfl (by kernel_rfl) (by kernel_rfl) (v_pickF rfl rfl) rfl ?_
        refine a_done (by kernel_rfl) ?_
        refine e_condF rfl ?_
        refine e_skip ?_
        refine e_blk ?_
        refine e_region ?_
        refine w_val (v_move rfl) rfl ?_
        refine w_val (v_add rfl rfl (by omega)) rfl ?_
        refine w_val (v_assign rfl) rfl ?_
        refine w_nil ?_
        exact e_round ((i + 1, q2, ((bv2, ev2), A2, k2), (Aw, kw), vs, G, W)) (⟨by dsimp only; omega, hok', hW, hWn⟩) (by dsimp only; omega) (by repeat (first | exact Sub.nil _ | refine Sub.cons rfl ?_)) (fun _ hw => hw.pick [1, 2, 3, 4, 5, 6, 7] (by decide))
    · refine e_exit rfl ?_
      refine e_seq ?_
      refine e_region ?_
      refine w_val (v_assign rfl) rfl ?_
      refine w_nil ?_
      refine e_retQ (q_ret1 rfl (.tmp rfl) ?_)
      exact fun w' hw' => ⟨rfl, hw'.res.nil⟩
end Go.SL

