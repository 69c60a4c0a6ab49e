/- Ytebdkaadbakhlac: part M8 of this seat's own texts. -/
import Derived.Test.YtebdkaadbakhlacM7
set_option linter.unusedVariables false
set_option linter.unusedSimpArgs false

open Go Go.Proofs Go.SL
set_option maxRecDepth 100000
set_option maxHeartbeats 4000000
namespace Go.SL
theorem StoreCrash_spec (v : Value) (l : List SStepL) (keep : Int)  (w : World) (h : IsSSteps w.cell? v l) (hin : ∀ x ∈ l, ∀ d ∈ x.round, ∀ o ∈ d, OpIn o) (hl : ∀ x ∈ l, ∀ d ∈ x.round, d.length ≤ 4398046511104) (hmax : l.length ≤ maxLen) :
    Calls Try.prog 12 #[v, .int .i64 keep] w fun e w' => e = .returned (.bool true) ∧ Res w [] [] w' := by
  have hs := h
  simp only [maxLen] at hmax
  rw [← off_none w] at h hs
  obtain ⟨A, kp, rfl, hle, hc⟩ := h
  refine enter0 (N := 116) Try.func12 rfl rfl rfl ?_
  refine e_seq ?_
  refine e_region ?_
  refine w_val (v_assign rfl) rfl ?_
  refine w_nil ?_
  refine e_seq ?_
  refine e_seq ?_
  refine e_region ?_
  refine w_op rfl ?_
  refine x_call0 (v := .bool true) rfl rfl rfl Try.call48 rfl (fun w hw => storeBegun_spec w) ?_
  refine w_val (v_not rfl) rfl ?_
  refine w_nil ?_
  refine e_condF rfl ?_
  refine e_skip ?_
  refine e_seq ?_
  refine e_seq ?_
  refine e_region ?_
  refine w_val (v_move rfl) rfl ?_
  refine w_op rfl ?_
  refine x_call (dst := some 17) (mc := []) (mr := []) (σ := Bool) (fun _ => True) (fun b => .bool b) (fun _ => []) rfl rfl rfl Try.call49 (fun w hw => greatSteps_spec _ l w (hs.mono hw.off) hl) rfl (fun b _ => ?_)
  refine w_nil ?_
  cases b with
  | true =>
    refine e_condDT rfl (by omega) ?_
    refine e_seq ?_
    refine e_region ?_
    refine w_val (v_assign rfl) rfl ?_
    refine w_nil ?_
    refine e_retQ (q_ret1 rfl (.tmp rfl) ?_)
    exact fun w' hw' => ⟨rfl, hw'.res.nil⟩
  | false =>
    refine e_condF rfl ?_
    refine e_skip ?_
    refine e_seq ?_
    refine e_region ?_
    refine w_op rfl ?_
    refine x_call (dst := some 18) (mc := []) (σ := StP) (fun _ => True) (fun y => .pointer (some ⟨y.p, 0, none⟩)) (fun y => stH y ⟨[], 0, 0⟩) rfl rfl rfl Try.call50 (fun w _ => stNew_spec w) rfl (fun y _ => ?_); obtain ⟨p, pl, bv0, ev0, A0, k0⟩ := y; dsimp only
    refine w_val (v_assign rfl) rfl ?_
    refine w_nil ?_
    refine e_seq ?_
    refine e_seq ?_
    refine e_region ?_
    refine w_val (v_assign rfl) rfl ?_
    refine w_nil ?_
    refine e_block ?_
    refine e_loopH (σ := Nat × QL × (Value × Value) × Option Addr × Nat) [0, 1, 5] (.cons rfl (.cons rfl (.cons rfl .nil))) (fun x => [(6, .int .i64 (x.1 : Int))]) (fun x => stH ⟨p, pl, x.2.2.1.1, x.2.2.1.2, x.2.2.2.1, x.2.2.2.2⟩ x.2.1) (fun x => x.1 ≤ l.length ∧ x.2.1.Ok) (fun x => l.length - x.1) (0, ⟨[], 0, 0⟩, (bv0, ev0), A0, k0) ⟨Nat.zero_le _, q0_ok⟩ (by repeat (first | exact Sub.nil _ | refine Sub.cons rfl ?_)) (fun _ hw => hw) ?_
    rintro ⟨i, q, ⟨bv, ev⟩, A1, k1⟩ ⟨hi, hok⟩
    dsimp only at hi hok ⊢
    refine e_seq ?_
    refine e_seq ?_
    refine e_region ?_
    refine w_val (v_move rfl) rfl ?_
    refine w_val (v_move rfl) rfl ?_
    refine w_val (v_lenS Try.underlying88 rfl) rfl ?_
    refine w_val (v_lss rfl rfl) rfl ?_
    refine w_nil ?_
    refine e_condD rfl (fun hlt => ?_) (fun hlt => ?_)
    · have hi' : i < l.length := by omega
      obtain ⟨ad, u, pv, rfl, hcs, hr, hpp⟩ := hc i hi'
      have hxi := hin _ (List.getElem_mem hi')
      have hok' := doQ_ok hok hxi
      have hcs2 : Cells (off w (feet [])) (ad.add (((i : Nat) : Int).toNat * 4)) (sstC l[i] u pv) := by rw [Int.toNat_natCast]; exact hcs
      generalize l[i] = x at *
      refine e_skip ?_
      refine e_seq ?_
      refine e_block ?_
      refine e_region ?_
      refine w_val (v_move rfl) rfl ?_
      refine w_val (v_move rfl) rfl ?_
      refine w_val (v_move rfl) rfl ?_
      refine w_val (v_indexS Try.underlying88 Try.hi100 Try.cz100 rfl rfl (by first | omega | decide)) rfl ?_
      refine w_val (v_loadON Try.underlying100 rfl Try.hi100 rfl (hcs2) Try.cz100) rfl ?_
      refine w_op rfl ?_
      refine x_callM (dst := some 30) (stH ⟨p, pl, bv, ev, A1, k1⟩ q) [] (σ := (Value × Value) × Option Addr × Nat) (fun _ => True) (fun _ => .int .i64 (doQ q x).2) (fun z => stH ⟨p, pl, z.1.1, z.1.2, z.2.1, z.2.2⟩ (doQ q x).1) (List.Perm.refl _) rfl rfl rfl Try.call51 (fun w hw => stDo_spec ⟨p, pl, bv, ev, A1, k1⟩ q x u pv w (res_part hw).1 (res_part hw).2 hok (hr.mono (hw.offm (fun c hc => List.mem_append_left _ hc))) (Rds.mono (hw.offm (fun c hc => List.mem_append_left _ hc)) hpp) hxi) rfl (fun z _ => ?_); obtain ⟨⟨bv2, ev2⟩, A2, k2⟩ := z; dsimp only
      refine w_nil ?_
      refine e_blk ?_
      refine e_region ?_
      refine w_val (v_move rfl) rfl ?_
      refine w_val (v_add rfl rfl (by omega)) rfl ?_
      refine w_val (v_assign rfl) rfl ?_
      refine w_nil ?_
      exact e_round ((i + 1, (doQ q x).1, (bv2, ev2), A2, k2)) (⟨by dsimp only; omega, hok'⟩) (by dsimp only; omega) (by repeat (first | exact Sub.nil _ | refine Sub.cons rfl ?_)) (fun _ hw => hw.pick [0, 1, 2, 3, 4] (by decide))
    · have hkl := hok.log.sure
      have h25 := hok.log.len
      have hthen := fun (n : Nat) (hn : n ≤ q.L.length) (w1 : World) (hv : StV w1.cell? ⟨p, pl, bv, ev, A1, k1⟩ q) => (show _ from by have := stThen_spec ⟨p, pl, bv, ev, A1, k1⟩ q (n : Int) w1 hv hok; rwa [then_in hn] at this : Calls Try.prog 58 #[.pointer (some ⟨p, 0, none⟩), .int .i64 (n : Int)] w1 fun e w' => e = .returned (.tuple #[intsV (stL q.L n), .bool true]) ∧ Res w1 [] [] w')
      refine e_exit rfl ?_
      refine e_seq ?_
      refine e_draw (stH ⟨p, pl, bv, ev, A1, k1⟩ q) Try.mixed ?_
      refine a_take 0 pan_cx (by kernel_rfl) (fun _ hw => hw.sub (by repeat (first | exact List.Sublist.slnil | exact List.Sublist.refl _ | apply List.Sublist.cons_cons | apply List.Sublist.cons))) rfl (by kernel_rfl) (by kernel_rfl) (v_move rfl) rfl ?_
      refine a_take 1 pan_cx (by kernel_rfl) (fun _ hw => hw.sub (by repeat (first | exact List.Sublist.slnil | exact List.Sublist.refl _ | apply List.Sublist.cons_cons | apply List.Sublist.cons))) rfl (by kernel_rfl) (by kernel_rfl) (v_nilCheck rfl) rfl ?_
      refine a_take 2 pan_cx (by kernel_rfl) (fun _ hw => hw.sub (by repeat (first | exact List.Sublist.slnil | exact List.Sublist.refl _ | apply List.Sublist.cons_cons | apply List.Sublist.cons))) rfl (by kernel_rfl) (by kernel_rfl) (v_fieldAddrB (o := 0) Try.underlying103 rfl rfl Try.nz101 rfl) rfl ?_
      refine a_take 3 pan_cx (by kernel_rfl) (fun _ hw => hw.sub (by repeat (first | exact List.Sublist.slnil | exact List.Sublist.refl _ | apply List.Sublist.cons_cons | apply List.Sublist.cons))) rfl (by kernel_rfl) (by kernel_rfl) (v_loadB 0 rfl Try.underlying101 rfl rfl rfl) rfl ?_
      refine a_take 5 pan_cx (by kernel_rfl) (fun _ hw => hw.sub (by repeat (first | exact List.Sublist.slnil | exact List.Sublist.refl _ | apply List.Sublist.cons_cons | apply List.Sublist.cons))) rfl (by kernel_rfl) (by kernel_rfl) (v_move rfl) rfl ?_
      refine a_take 6 pan_cx (by kernel_rfl) (fun _ hw => hw.sub (by repeat (first | exact List.Sublist.slnil | exact List.Sublist.refl _ | apply List.Sublist.cons_cons | apply List.Sublist.cons))) rfl (by kernel_rfl) (by kernel_rfl) (v_nilCheck rfl) rfl ?_
      refine a_take 7 pan_cx (by kernel_rfl) (fun _ hw => hw.sub (by repeat (first | exact List.Sublist.slnil | exact List.Sublist.refl _ | apply List.Sublist.cons_cons | apply List.Sublist.cons))) rfl (by kernel_rfl) (by kernel_rfl) (v_fieldAddrB (o := 0) Try.underlying103 rfl rfl Try.nz101 rfl) rfl ?_
      refine a_take 8 pan_cx (by kernel_rfl) (fun _ hw => hw.sub (by repeat (first | exact List.Sublist.slnil | exact List.Sublist.refl _ | apply List.Sublist.cons_cons | apply List.Sublist.cons))) rfl (by kernel_rfl) (by kernel_rfl) (v_loadB 0 rfl Try.underlying101 rfl rfl rfl) rfl ?_
      refine a_one 4 (by kernel_rfl) rfl rfl ?_
      refine x_call0 (v := .int .i64 (q.k : Int)) rfl rfl rfl Try.call56 rfl (fun w hw => logSure_spec pl bv ev q.L q.k w (StV.at (y := ⟨p, pl, bv, ev, A1, k1⟩) (q := q) hw 0 rfl rfl rfl rfl rfl).lg h25 hkl) ?_
      refine a_and (fun _ hw => hw.sub (by repeat (first | exact List.Sublist.slnil | exact List.Sublist.refl _ | apply List.Sublist.cons_cons | apply List.Sublist.cons))) ?_
      refine a_one 9 (by kernel_rfl) rfl rfl ?_
      refine x_call0 (v := .int .i64 (q.L.length : Int)) rfl rfl rfl Try.call55 rfl (fun w hw => logLen_spec pl bv ev q.L q.k w (StV.at (y := ⟨p, pl, bv, ev, A1, k1⟩) (q := q) hw 0 rfl rfl rfl rfl rfl).lg) ?_
      refine a_and (fun _ hw => hw.sub (by repeat (first | exact List.Sublist.slnil | exact List.Sublist.refl _ | apply List.Sublist.cons_cons | apply List.Sublist.cons))) ?_
      refine a_take 10 pan_cx (by kernel_rfl) (fun _ hw => hw.sub (by repeat (first | exact List.Sublist.slnil | exact List.Sublist.refl _ | apply List.Sublist.cons_cons | apply List.Sublist.cons))) rfl (by kernel_rfl) (by kernel_rfl) (v_assign rfl) rfl ?_
      refine a_take 11 pan_cx (by kernel_rfl) (fun _ hw => hw.sub (by repeat (first | exact List.Sublist.slnil | exact List.Sublist.refl _ | apply List.Sublist.cons_cons | apply List.Sublist.cons))) rfl (by kernel_rfl) (by kernel_rfl) (v_assign rfl) rfl ?_
      refine a_done (by kernel_rfl) ?_
      refine e_seq ?_
      refine e_region ?_
      refine w_val (v_assign rfl) rfl ?_
      refine w_nil ?_
      refine e_seq ?_
      refine e_seq ?_
      refine e_region ?_
      refine w_val (v_assign rfl) rfl ?_
      refine w_nil ?_
      refine e_block ?_
      refine e_loopH (σ := Nat × Value) [0, 1, 5, 7, 8] (.cons rfl (.cons rfl (.cons rfl (.cons rfl (.cons rfl .nil))))) (fun x => [(10, .int .i64 (x.1 : Int)), (9, x.2)]) (fun x => Own x.2 23 10 x.1 (thC q.L x.1) :: stH ⟨p, pl, bv, ev, A1, k1⟩ q) (fun x => x.1 ≤ q.L.length + 1) (fun x => q.L.length + 1 - x.1) (0, .slice none 0 0) (Nat.zero_le _) (by repeat (first | exact Sub.nil _ | refine Sub.cons rfl ?_)) (fun _ hw => hw.ownNil 23 10) ?_
      rintro ⟨n, sv⟩ hn
      dsimp only at hn ⊢
      refine e_seq ?_
      refine e_seq ?_
      refine e_region ?_
      refine w_val (v_move rfl) rfl ?_
      refine w_val (v_move rfl) rfl ?_
      refine w_val (v_leq rfl rfl) rfl ?_
      refine w_nil ?_
      refine e_condD rfl (fun hlt2 => ?_) (fun hlt2 => ?_)
      · have hn' : n ≤ q.L.length := by omega
        have hz1 := stL_len q.L n
        have hth := hthen n hn'
        have hts := thC_succ q.L n
        generalize hx1 : stL q.L n = x1 at *
        obtain ⟨x0, x1, x2, x3, x4, x5, x6, x7, x8, x9, rfl⟩ := list10 hz1
        refine e_skip ?_
        refine e_seq ?_
        refine e_block ?_
        refine e_seq ?_
        refine e_region ?_
        refine w_val (v_move rfl) rfl ?_
        refine w_val (v_move rfl) rfl ?_
        refine w_op rfl ?_
        refine x_call0 (v := .tuple #[intsV [x0, x1, x2, x3, x4, x5, x6, x7, x8, x9], .bool true]) rfl rfl rfl Try.call58 rfl (fun w hw => hth w (StV.at (y := ⟨p, pl, bv, ev, A1, k1⟩) (q := q) hw 1 rfl rfl rfl rfl rfl)) ?_
        refine w_val (v_move rfl) rfl ?_
        refine w_val (v_extract rfl rfl) rfl ?_
        refine w_val (v_extract rfl rfl) rfl ?_
        refine w_op rfl ?_
        refine x_alloc (z := .agg #[.int .i64 0, .int .i64 0, .int .i64 0, .int .i64 0, .int .i64 0, .int .i64 0, .int .i64 0, .int .i64 0, .int .i64 0, .int .i64 0]) (by intro w; exact Try.zeroValue23 w) rfl (fun b11 => ?_)
        refine w_op rfl ?_
        refine x_storeA 0 rfl rfl rfl Try.hi23 Try.cz23 rfl (by first | (simp [Value.oneCell', opCells]; done) | assumption | exact one_ints _ | exact one_resCells _ _ | exact one_slotC _) ?_
        refine w_val (v_assign rfl) rfl ?_
        refine w_nil ?_
        refine e_seq ?_
        refine e_seq ?_
        refine e_region ?_
        refine w_val (v_move rfl) rfl ?_
        refine w_val (v_is (v' := .bool false) (v_not rfl) (by rfl)) rfl ?_
        refine w_nil ?_
        refine e_condF rfl ?_
        refine e_skip ?_
        refine e_region ?_
        refine w_val (v_move rfl) rfl ?_
        refine w_val (v_loadBA 0 rfl Try.underlying23 rfl Try.hi23 (Try.cz23.trans rfl) rfl) rfl ?_
        refine w_op rfl ?_
        refine x_buildSlice _ (intCells [x0, x1, x2, x3, x4, x5, x6, x7, x8, x9]) rfl (run_buildSlice Try.underlying109 Try.hi23 Try.cz23 Try.zeroValue23 rfl (by kernel_rfl)) rfl (fun b56 => ?_)
        refine w_op rfl ?_
        refine x_appendIS (z := .agg #[.int .i64 0, .int .i64 0, .int .i64 0, .int .i64 0, .int .i64 0, .int .i64 0, .int .i64 0, .int .i64 0, .int .i64 0, .int .i64 0]) (n := n) (xs := thC q.L n) (size := 10) (bytes := 80) (k := 1) (news := intCells [x0, x1, x2, x3, x4, x5, x6, x7, x8, x9]) 2 rfl rfl rfl Try.underlying109 (by kernel_rfl) rfl (by decide) (fun w hw => blk_rds (hw.hold (Chunk.blk b56 23 (intCells [x0, x1, x2, x3, x4, x5, x6, x7, x8, x9])) (by first | exact List.mem_cons_self | exact List.mem_cons_of_mem _ List.mem_cons_self)) rfl) (by intro u hu; exact one_intCells _ u (by simpa using hu)) (by omega) (by simp only [maxLen]; omega) rfl (fun A4 cap4 _ => ?_)
        refine w_val (v_assign rfl) rfl ?_
        refine w_nil ?_
        refine e_blk ?_
        refine e_region ?_
        refine w_val (v_move rfl) rfl ?_
        refine w_val (v_add rfl rfl (by omega)) rfl ?_
        refine w_val (v_assign rfl) rfl ?_
        refine w_nil ?_
        exact e_round ((n + 1, Value.slice A4 (n + 1) cap4)) (by dsimp only; omega) (by dsimp only; omega) (by repeat (first | exact Sub.nil _ | refine Sub.cons rfl ?_)) (fun _ hw => by dsimp only; rw [hts]; exact hw.pick [2, 3, 4, 5, 6, 7] (by decide))
      · have e : n = q.L.length + 1 := by omega
        subst e
        refine g_shapeW 0 rfl (by omega) (fun g kk hsv _ => ?_)
        subst hsv
        obtain ⟨L', m, hd1, hok1, hm1, hm2, hL', hst1, hd2⟩ := crash_facts hok keep
        have hthm := thC_at q.L (n := q.L.length + 1) (i := m) (by omega)
        have hzm := stL_len q.L m
        refine e_exit rfl ?_
        refine e_seq ?_
        refine e_seq ?_
        refine e_region ?_
        refine w_val (v_move rfl) rfl ?_
        refine w_val (v_move rfl) rfl ?_
        refine w_val (v_build (v := sstV ⟨4, keep, [], []⟩ (.slice none 0 0) (.slice none 0 0)) _ rfl (by intro _; simp [Instr.build, Instr.fill, Try.zeroValue100, go_sem]; rfl)) rfl ?_
        refine w_op rfl ?_
        refine x_callM (dst := some 61) (stH ⟨p, pl, bv, ev, A1, k1⟩ q) [Own (.slice (some ⟨g, 0, none⟩) (q.L.length + 1) kk) 23 10 (q.L.length + 1) (thC q.L (q.L.length + 1))] (σ := (Value × Value) × Option Addr × Nat) (fun _ => True) (fun _ => .int .i64 0) (fun z => stH ⟨p, pl, z.1.1, z.1.2, z.2.1, z.2.2⟩ ⟨L', m, m⟩) (List.perm_append_comm (l₁ := [_])) rfl rfl rfl Try.call51 (fun w hw => by have := stDo_spec ⟨p, pl, bv, ev, A1, k1⟩ q ⟨4, keep, [], []⟩ (.slice none 0 0) (.slice none 0 0) w (res_part hw).1 (res_part hw).2 hok (isRound_nil' _) (isInts_nil _) (fun d hd => by cases hd); rwa [hd1] at this) rfl (fun z _ => ?_); obtain ⟨⟨bv2, ev2⟩, A2, k2⟩ := z; dsimp only
        refine w_val (v_is (v' := .bool false) (v_neq rfl rfl) (by rfl)) rfl ?_
        refine w_nil ?_
        refine e_condF rfl ?_
        refine e_skip ?_
        refine e_seq ?_
        refine e_region ?_
        refine w_val (v_move rfl) rfl ?_
        refine w_op rfl ?_
        refine x_call0 (v := .int .i64 (m : Int)) rfl rfl rfl Try.call53 rfl (fun w hw => stDone_spec ⟨p, pl, bv2, ev2, A2, k2⟩ ⟨L', m, m⟩ w (StV.at (y := ⟨p, pl, bv2, ev2, A2, k2⟩) (q := ⟨L', m, m⟩) hw 0 rfl rfl rfl rfl rfl)) ?_
        refine w_val (v_assign rfl) rfl ?_
        refine w_nil ?_
        refine e_seq ?_
        refine e_seq ?_
        refine e_draw (stH ⟨p, pl, bv2, ev2, A2, k2⟩ ⟨L', m, m⟩ ++ [Own (.slice (some ⟨g, 0, none⟩) (q.L.length + 1) kk) 23 10 (q.L.length + 1) (thC q.L (q.L.length + 1))]) Try.mixed ?_
        refine a_take 0 pan_cx (by kernel_rfl) (fun _ hw => hw.sub (by repeat (first | exact List.Sublist.slnil | exact List.Sublist.refl _ | apply List.Sublist.cons_cons | apply List.Sublist.cons))) rfl (by kernel_rfl) (by kernel_rfl) (v_move rfl) rfl ?_
        refine a_take 1 pan_cx (by kernel_rfl) (fun _ hw => hw.sub (by repeat (first | exact List.Sublist.slnil | exact List.Sublist.refl _ | apply List.Sublist.cons_cons | apply List.Sublist.cons))) rfl (by kernel_rfl) (by kernel_rfl) (v_move rfl) rfl ?_
        refine a_take 2 pan_cx (by kernel_rfl) (fun _ hw => hw.sub (by repeat (first | exact List.Sublist.slnil | exact List.Sublist.refl _ | apply List.Sublist.cons_cons | apply List.Sublist.cons))) rfl (by kernel_rfl) (by kernel_rfl) (v_is (v' := .bool false) (v_lss rfl rfl) (by rw [decide_eq_false (by omega)])) rfl ?_
        refine a_take 3 pan_cx (by kernel_rfl) (fun _ hw => hw.sub (by repeat (first | exact List.Sublist.slnil | exact List.Sublist.refl _ | apply List.Sublist.cons_cons | apply List.Sublist.cons))) rfl (by kernel_rfl) (by kernel_rfl) (v_move rfl) rfl ?_
        refine a_want 4 pan_cx (by kernel_rfl) (fun _ hw => hw.sub (by repeat (first | exact List.Sublist.slnil | exact List.Sublist.refl _ | apply List.Sublist.cons_cons | apply List.Sublist.cons))) rfl (by kernel_rfl) (by kernel_rfl) rfl rfl (v_move rfl) rfl ?_
        refine a_want 5 pan_cx (by kernel_rfl) (fun _ hw => hw.sub (by repeat (first | exact List.Sublist.slnil | exact List.Sublist.refl _ | apply List.Sublist.cons_cons | apply List.Sublist.cons))) rfl (by kernel_rfl) (by kernel_rfl) rfl rfl (v_move rfl) rfl ?_
        refine a_want 6 pan_cx (by kernel_rfl) (fun _ hw => hw.sub (by repeat (first | exact List.Sublist.slnil | exact List.Sublist.refl _ | apply List.Sublist.cons_cons | apply List.Sublist.cons))) rfl (by kernel_rfl) (by kernel_rfl) rfl rfl (v_is (v' := .bool false) (v_gtr rfl rfl) (by rw [decide_eq_false (by omega)])) rfl ?_
        refine a_take 7 pan_cx (by kernel_rfl) (fun _ hw => hw.sub (by repeat (first | exact List.Sublist.slnil | exact List.Sublist.refl _ | apply List.Sublist.cons_cons | apply List.Sublist.cons))) rfl (by kernel_rfl) (by kernel_rfl) (v_pickF rfl rfl) rfl ?_
        refine a_take 8 pan_cx (by kernel_rfl) (fun _ hw => hw.sub (by repeat (first | exact List.Sublist.slnil | exact List.Sublist.refl _ | apply List.Sublist.cons_cons | apply List.Sublist.cons))) rfl (by kernel_rfl) (by kernel_rfl) (v_move rfl) rfl ?_
        refine a_want 9 pan_cx (by kernel_rfl) (fun _ hw => hw.sub (by repeat (first | exact List.Sublist.slnil | exact List.Sublist.refl _ | apply List.Sublist.cons_cons | apply List.Sublist.cons))) rfl (by kernel_rfl) (by kernel_rfl) rfl rfl (v_move rfl) rfl ?_
        refine a_want 11 pan_cx (by kernel_rfl) (fun _ hw => hw.sub (by repeat (first | exact List.Sublist.slnil | exact List.Sublist.refl _ | apply List.Sublist.cons_cons | apply List.Sublist.cons))) rfl (by kernel_rfl) (by kernel_rfl) rfl rfl (v_move rfl) rfl ?_
        refine a_want 12 pan_cx (by kernel_rfl) (fun _ hw => hw.sub (by repeat (first | exact List.Sublist.slnil | exact List.Sublist.refl _ | apply List.Sublist.cons_cons | apply List.Sublist.cons))) rfl (by kernel_rfl) (by kernel_rfl) rfl rfl (v_move rfl) rfl ?_
        refine a_want 13 pan_cx (by kernel_rfl) (fun _ hw => hw.sub (by repeat (first | exact List.Sublist.slnil | exact List.Sublist.refl _ | apply List.Sublist.cons_cons | apply List.Sublist.cons))) rfl (by kernel_rfl) (by kernel_rfl) rfl rfl (v_indexSB Try.underlying109 Try.hi23 Try.cz23 rfl rfl (by first | omega | decide)) rfl ?_
        refine a_want 14 pan_cx (by kernel_rfl) (fun _ hw => hw.sub (by repeat (first | exact List.Sublist.slnil | exact List.Sublist.refl _ | apply List.Sublist.cons_cons | apply List.Sublist.cons))) rfl (by kernel_rfl) (by kernel_rfl) rfl rfl (v_loadWN (cs := intCells (stL q.L m)) 5 rfl (by omega) (by rw [show (intCells (stL q.L m)).length = 10 from by simp [intCells, hzm], Int.toNat_natCast, Nat.zero_add]; exact hthm) rfl Try.underlying23 rfl Try.hi23 (Try.cz23.trans (by simp [intCells, hzm]))) rfl ?_
        refine a_oneW 10 (by kernel_rfl) rfl rfl rfl ?_
        refine x_call0 (v := intsV (stL q.L m)) rfl rfl rfl Try.call54 rfl (fun w hw => by have := stState_spec ⟨p, pl, bv2, ev2, A2, k2⟩ ⟨L', m, m⟩ w (StV.at (y := ⟨p, pl, bv2, ev2, A2, k2⟩) (q := ⟨L', m, m⟩) hw 0 rfl rfl rfl rfl rfl); rwa [hst1] at this) ?_
        refine a_and (fun _ hw => hw.sub (by repeat (first | exact List.Sublist.slnil | exact List.Sublist.refl _ | apply List.Sublist.cons_cons | apply List.Sublist.cons))) ?_
        refine a_want 15 pan_cx (by kernel_rfl) (fun _ hw => hw.sub (by repeat (first | exact List.Sublist.slnil | exact List.Sublist.refl _ | apply List.Sublist.cons_cons | apply List.Sublist.cons))) rfl (by kernel_rfl) (by kernel_rfl) rfl rfl (v_is (v' := .bool false) (v_neqInts (p := stL q.L m) (q := stL q.L m) Try.underlying23 (by kernel_rfl) Try.underlying2 Try.hi2 Try.cz2 hzm hzm rfl rfl) (congrArg Value.bool (decide_eq_false (fun h => h rfl)))) rfl ?_
        refine a_take 16 pan_cx (by kernel_rfl) (fun _ hw => hw.sub (by repeat (first | exact List.Sublist.slnil | exact List.Sublist.refl _ | apply List.Sublist.cons_cons | apply List.Sublist.cons))) rfl (by kernel_rfl) (by kernel_rfl) (v_pickF rfl rfl) rfl ?_
        refine a_take 17 pan_cx (by kernel_rfl) (fun _ hw => hw.sub (by repeat (first | exact List.Sublist.slnil | exact List.Sublist.refl _ | apply List.Sublist.cons_cons | apply List.Sublist.cons))) rfl (by kernel_rfl) (by kernel_rfl) (v_move rfl) rfl ?_
        refine a_want 18 pan_cx (by kernel_rfl) (fun _ hw => hw.sub (by repeat (first | exact List.Sublist.slnil | exact List.Sublist.refl _ | apply List.Sublist.cons_cons | apply List.Sublist.cons))) rfl (by kernel_rfl) (by kernel_rfl) rfl rfl (v_move rfl) rfl ?_
        refine a_want 19 pan_cx (by kernel_rfl) (fun _ hw => hw.sub (by repeat (first | exact List.Sublist.slnil | exact List.Sublist.refl _ | apply List.Sublist.cons_cons | apply List.Sublist.cons))) rfl (by kernel_rfl) (by kernel_rfl) rfl rfl (v_nilCheck rfl) rfl ?_
        refine a_want 20 pan_cx (by kernel_rfl) (fun _ hw => hw.sub (by repeat (first | exact List.Sublist.slnil | exact List.Sublist.refl _ | apply List.Sublist.cons_cons | apply List.Sublist.cons))) rfl (by kernel_rfl) (by kernel_rfl) rfl rfl (v_fieldAddrB (o := 0) Try.underlying103 rfl rfl Try.nz101 rfl) rfl ?_
        refine a_want 21 pan_cx (by kernel_rfl) (fun _ hw => hw.sub (by repeat (first | exact List.Sublist.slnil | exact List.Sublist.refl _ | apply List.Sublist.cons_cons | apply List.Sublist.cons))) rfl (by kernel_rfl) (by kernel_rfl) rfl rfl (v_loadB 0 rfl Try.underlying101 rfl rfl rfl) rfl ?_
        refine a_want 23 pan_cx (by kernel_rfl) (fun _ hw => hw.sub (by repeat (first | exact List.Sublist.slnil | exact List.Sublist.refl _ | apply List.Sublist.cons_cons | apply List.Sublist.cons))) rfl (by kernel_rfl) (by kernel_rfl) rfl rfl (v_move rfl) rfl ?_
        refine a_oneW 22 (by kernel_rfl) rfl rfl rfl ?_
        refine x_call0 (v := .int .i64 (m : Int)) rfl rfl rfl Try.call55 rfl (fun w hw => by have := logLen_spec pl bv2 ev2 L' m w (StV.at (y := ⟨p, pl, bv2, ev2, A2, k2⟩) (q := ⟨L', m, m⟩) hw 0 rfl rfl rfl rfl rfl).lg; rwa [hL'] at this) ?_
        refine a_and (fun _ hw => hw.sub (by repeat (first | exact List.Sublist.slnil | exact List.Sublist.refl _ | apply List.Sublist.cons_cons | apply List.Sublist.cons))) ?_
        refine a_want 24 pan_cx (by kernel_rfl) (fun _ hw => hw.sub (by repeat (first | exact List.Sublist.slnil | exact List.Sublist.refl _ | apply List.Sublist.cons_cons | apply List.Sublist.cons))) rfl (by kernel_rfl) (by kernel_rfl) rfl rfl (v_is (v' := .bool false) (v_neq rfl rfl) (by rw [decide_eq_false (fun h => h rfl)])) rfl ?_
        refine a_take 25 pan_cx (by kernel_rfl) (fun _ hw => hw.sub (by repeat (first | exact List.Sublist.slnil | exact List.Sublist.refl _ | apply List.Sublist.cons_cons | apply List.Sublist.cons))) rfl (by kernel_rfl) (by kernel_rfl) (v_pickF rfl rfl) rfl ?_
        refine a_take 26 pan_cx (by kernel_rfl) (fun _ hw => hw.sub (by repeat (first | exact List.Sublist.slnil | exact List.Sublist.refl _ | apply List.Sublist.cons_cons | apply List.Sublist.cons))) rfl (by kernel_rfl) (by kernel_rfl) (v_move rfl) rfl ?_
        refine a_want 27 pan_cx (by kernel_rfl) (fun _ hw => hw.sub (by repeat (first | exact List.Sublist.slnil | exact List.Sublist.refl _ | apply List.Sublist.cons_cons | apply List.Sublist.cons))) rfl (by kernel_rfl) (by kernel_rfl) rfl rfl (v_move rfl) rfl ?_
        refine a_want 28 pan_cx (by kernel_rfl) (fun _ hw => hw.sub (by repeat (first | exact List.Sublist.slnil | exact List.Sublist.refl _ | apply List.Sublist.cons_cons | apply List.Sublist.cons))) rfl (by kernel_rfl) (by kernel_rfl) rfl rfl (v_nilCheck rfl) rfl ?_
        refine a_want 29 pan_cx (by kernel_rfl) (fun _ hw => hw.sub (by repeat (first | exact List.Sublist.slnil | exact List.Sublist.refl _ | apply List.Sublist.cons_cons | apply List.Sublist.cons))) rfl (by kernel_rfl) (by kernel_rfl) rfl rfl (v_fieldAddrB (o := 0) Try.underlying103 rfl rfl Try.nz101 rfl) rfl ?_
        refine a_want 30 pan_cx (by kernel_rfl) (fun _ hw => hw.sub (by repeat (first | exact List.Sublist.slnil | exact List.Sublist.refl _ | apply List.Sublist.cons_cons | apply List.Sublist.cons))) rfl (by kernel_rfl) (by kernel_rfl) rfl rfl (v_loadB 0 rfl Try.underlying101 rfl rfl rfl) rfl ?_
        refine a_want 32 pan_cx (by kernel_rfl) (fun _ hw => hw.sub (by repeat (first | exact List.Sublist.slnil | exact List.Sublist.refl _ | apply List.Sublist.cons_cons | apply List.Sublist.cons))) rfl (by kernel_rfl) (by kernel_rfl) rfl rfl (v_move rfl) rfl ?_
        refine a_oneW 31 (by kernel_rfl) rfl rfl rfl ?_
        refine x_call0 (v := .int .i64 (m : Int)) rfl rfl rfl Try.call56 rfl (fun w hw => logSure_spec pl bv2 ev2 L' m w (StV.at (y := ⟨p, pl, bv2, ev2, A2, k2⟩) (q := ⟨L', m, m⟩) hw 0 rfl rfl rfl rfl rfl).lg hok1.log.len hok1.log.sure) ?_
        refine a_and (fun _ hw => hw.sub (by repeat (first | exact List.Sublist.slnil | exact List.Sublist.refl _ | apply List.Sublist.cons_cons | apply List.Sublist.cons))) ?_
        refine a_want 33 pan_cx (by kernel_rfl) (fun _ hw => hw.sub (by repeat (first | exact List.Sublist.slnil | exact List.Sublist.refl _ | apply List.Sublist.cons_cons | apply List.Sublist.cons))) rfl (by kernel_rfl) (by kernel_rfl) rfl rfl (v_is (v' := .bool false) (v_neq rfl rfl) (by rw [decide_eq_false (fun h => h rfl)])) rfl ?_
        refine a_take 34 pan_cx (by kernel_rfl) (fun _ hw => hw.sub (by repeat (first | exact List.Sublist.slnil | exact List.Sublist.refl _ | apply List.Sublist.cons_cons | apply List.Sublist.cons))) rfl (by kernel_rfl) (by kernel_rfl) (v_pickF rfl rfl) rfl ?_
        refine a_done (by kernel_rfl) ?_
        refine e_condF rfl ?_
        refine e_skip ?_
        refine e_seq ?_
        refine e_region ?_
        refine w_val (v_move rfl) rfl ?_
        refine w_val (v_build (v := sstV ⟨4, -1, [], []⟩ (.slice none 0 0) (.slice none 0 0)) _ rfl (by intro _; simp [Instr.build, Instr.fill, Try.zeroValue100, go_sem]; rfl)) rfl ?_
        refine w_op rfl ?_
        refine x_callM (dst := some 102) (stH ⟨p, pl, bv2, ev2, A2, k2⟩ ⟨L', m, m⟩) [Own (.slice (some ⟨g, 0, none⟩) (q.L.length + 1) kk) 23 10 (q.L.length + 1) (thC q.L (q.L.length + 1))] (σ := (Value × Value) × Option Addr × Nat) (fun _ => True) (fun _ => .int .i64 0) (fun z => stH ⟨p, pl, z.1.1, z.1.2, z.2.1, z.2.2⟩ ⟨L', m, m⟩) (List.Perm.refl _) rfl rfl rfl Try.call51 (fun w hw => by have := stDo_spec ⟨p, pl, bv2, ev2, A2, k2⟩ ⟨L', m, m⟩ ⟨4, -1, [], []⟩ (.slice none 0 0) (.slice none 0 0) w (res_part hw).1 (res_part hw).2 hok1 (isRound_nil' _) (isInts_nil _) (fun d hd => by cases hd); rwa [hd2] at this) rfl (fun z _ => ?_); obtain ⟨⟨bv3, ev3⟩, A3, k3⟩ := z; dsimp only
        refine w_nil ?_
        refine e_seq ?_
        refine e_draw (stH ⟨p, pl, bv3, ev3, A3, k3⟩ ⟨L', m, m⟩ ++ [Own (.slice (some ⟨g, 0, none⟩) (q.L.length + 1) kk) 23 10 (q.L.length + 1) (thC q.L (q.L.length + 1))]) Try.mixed ?_
        refine a_take 0 pan_cx (by kernel_rfl) (fun _ hw => hw.sub (by repeat (first | exact List.Sublist.slnil | exact List.Sublist.refl _ | apply List.Sublist.cons_cons | apply List.Sublist.cons))) rfl (by kernel_rfl) (by kernel_rfl) (v_move rfl) rfl ?_
        refine a_take 2 pan_cx (by kernel_rfl) (fun _ hw => hw.sub (by repeat (first | exact List.Sublist.slnil | exact List.Sublist.refl _ | apply List.Sublist.cons_cons | apply List.Sublist.cons))) rfl (by kernel_rfl) (by kernel_rfl) (v_move rfl) rfl ?_
        refine a_one 1 (by kernel_rfl) rfl rfl ?_
        refine x_call0 (v := .int .i64 (m : Int)) rfl rfl rfl Try.call53 rfl (fun w hw => stDone_spec ⟨p, pl, bv3, ev3, A3, k3⟩ ⟨L', m, m⟩ w (StV.at (y := ⟨p, pl, bv3, ev3, A3, k3⟩) (q := ⟨L', m, m⟩) hw 0 rfl rfl rfl rfl rfl)) ?_
        refine a_and (fun _ hw => hw.sub (by repeat (first | exact List.Sublist.slnil | exact List.Sublist.refl _ | apply List.Sublist.cons_cons | apply List.Sublist.cons))) ?_
        refine a_take 3 pan_cx (by kernel_rfl) (fun _ hw => hw.sub (by repeat (first | exact List.Sublist.slnil | exact List.Sublist.refl _ | apply List.Sublist.cons_cons | apply List.Sublist.cons))) rfl (by kernel_rfl) (by kernel_rfl) (v_is (v' := .bool true) (v_eql rfl rfl) (by rw [decide_eq_true rfl])) rfl ?_
        refine a_take 4 pan_cx (by kernel_rfl) (fun _ hw => hw.sub (by repeat (first | exact List.Sublist.slnil | exact List.Sublist.refl _ | apply List.Sublist.cons_cons | apply List.Sublist.cons))) rfl (by kernel_rfl) (by kernel_rfl) (v_move rfl) rfl ?_
        refine a_want 5 pan_cx (by kernel_rfl) (fun _ hw => hw.sub (by repeat (first | exact List.Sublist.slnil | exact List.Sublist.refl _ | apply List.Sublist.cons_cons | apply List.Sublist.cons))) rfl (by kernel_rfl) (by kernel_rfl) rfl rfl (v_move rfl) rfl ?_
        refine a_want 7 pan_cx (by kernel_rfl) (fun _ hw => hw.sub (by repeat (first | exact List.Sublist.slnil | exact List.Sublist.refl _ | apply List.Sublist.cons_cons | apply List.Sublist.cons))) rfl (by kernel_rfl) (by kernel_rfl) rfl rfl (v_move rfl) rfl ?_
        refine a_want 8 pan_cx (by kernel_rfl) (fun _ hw => hw.sub (by repeat (first | exact List.Sublist.slnil | exact List.Sublist.refl _ | apply List.Sublist.cons_cons | apply List.Sublist.cons))) rfl (by kernel_rfl) (by kernel_rfl) rfl rfl (v_move rfl) rfl ?_
        refine a_want 9 pan_cx (by kernel_rfl) (fun _ hw => hw.sub (by repeat (first | exact List.Sublist.slnil | exact List.Sublist.refl _ | apply List.Sublist.cons_cons | apply List.Sublist.cons))) rfl (by kernel_rfl) (by kernel_rfl) rfl rfl (v_indexSB Try.underlying109 Try.hi23 Try.cz23 rfl rfl (by first | omega | decide)) rfl ?_
        refine a_want 10 pan_cx (by kernel_rfl) (fun _ hw => hw.sub (by repeat (first | exact List.Sublist.slnil | exact List.Sublist.refl _ | apply List.Sublist.cons_cons | apply List.Sublist.cons))) rfl (by kernel_rfl) (by kernel_rfl) rfl rfl (v_loadWN (cs := intCells (stL q.L m)) 5 rfl (by omega) (by rw [show (intCells (stL q.L m)).length = 10 from by simp [intCells, hzm], Int.toNat_natCast, Nat.zero_add]; exact hthm) rfl Try.underlying23 rfl Try.hi23 (Try.cz23.trans (by simp [intCells, hzm]))) rfl ?_
        refine a_oneW 6 (by kernel_rfl) rfl rfl rfl ?_
        refine x_call0 (v := intsV (stL q.L m)) rfl rfl rfl Try.call54 rfl (fun w hw => by have := stState_spec ⟨p, pl, bv3, ev3, A3, k3⟩ ⟨L', m, m⟩ w (StV.at (y := ⟨p, pl, bv3, ev3, A3, k3⟩) (q := ⟨L', m, m⟩) hw 0 rfl rfl rfl rfl rfl); rwa [hst1] at this) ?_
        refine a_and (fun _ hw => hw.sub (by repeat (first | exact List.Sublist.slnil | exact List.Sublist.refl _ | apply List.Sublist.cons_cons | apply List.Sublist.cons))) ?_
        refine a_want 11 pan_cx (by kernel_rfl) (fun _ hw => hw.sub (by repeat (first | exact List.Sublist.slnil | exact List.Sublist.refl _ | apply List.Sublist.cons_cons | apply List.Sublist.cons))) rfl (by kernel_rfl) (by kernel_rfl) rfl rfl (v_is (v' := .bool true) (v_eqlInts (p := stL q.L m) (q := stL q.L m) Try.underlying23 (by kernel_rfl) Try.underlying2 Try.hi2 Try.cz2 hzm hzm rfl rfl) (congrArg Value.bool (decide_eq_true rfl))) rfl ?_
        refine a_take 12 pan_cx (by kernel_rfl) (fun _ hw => hw.sub (by repeat (first | exact List.Sublist.slnil | exact List.Sublist.refl _ | apply List.Sublist.cons_cons | apply List.Sublist.cons))) rfl (by kernel_rfl) (by kernel_rfl) (v_pickT rfl rfl) rfl ?_
        refine a_take 13 pan_cx (by kernel_rfl) (fun _ hw => hw.sub (by repeat (first | exact List.Sublist.slnil | exact List.Sublist.refl _ | apply List.Sublist.cons_cons | apply List.Sublist.cons))) rfl (by kernel_rfl) (by kernel_rfl) (v_assign rfl) rfl ?_
        refine a_done (by kernel_rfl) ?_
        refine e_retQ (q_ret1 rfl (.tmp rfl) ?_)
        exact fun w' hw' => ⟨rfl, hw'.res.nil⟩
end Go.SL

