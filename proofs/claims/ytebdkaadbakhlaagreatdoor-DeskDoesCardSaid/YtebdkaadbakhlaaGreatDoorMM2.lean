/- YtebdkaadbakhlaaGreatDoor: part MM2 of this seat's own texts. -/
import Derived.Test.YtebdkaadbakhlaaGreatDoorMM1
set_option linter.unusedVariables false
set_option linter.unusedSimpArgs false
section
open Go Go.Proofs Go.SL
set_option maxRecDepth 100000
set_option maxHeartbeats 4000000
namespace Go.SL
theorem stR_dn0 {pl dn : Nat} {z : List Int} {lv : Value} : (stR pl dn z lv).set (0 + 1) (.int .i64 0) = stR pl 0 z lv := rfl
theorem isInts_nil (c : View) : IsInts c (.slice none 0 0) [] := ⟨none, 0, rfl, Nat.le_refl _, rfl, fun h => absurd h (Nat.lt_irrefl _)⟩
theorem stCrash_spec (y : StP) (q : QL) (keep : Int) (w : World) (h : ∀ c ∈ stH y q, c.holds w) (hsep : (stH y q).Pairwise Disj) (hok : q.Ok) :
  Calls Tryz.prog 89 #[.pointer (some ⟨y.p, 0, none⟩), .int .i64 keep] w fun e w' => ∃ x : (Value × Value) × Option Addr × Nat, True ∧ e = .returned (.tuple #[]) ∧ Res w (stH y q) (stH ⟨y.p, y.pl, x.1.1, x.1.2, x.2.1, x.2.2⟩ (crashQ q keep)) w' := by
 have hz := stL_len q.L q.dn
 have hcok := crashQ_ok hok keep
 unfold crashQ at *
 have hcr := fun (w1 : World) (h1 : ∀ c ∈ lgH y.pl y.bv y.ev q.L q.k, c.holds w1) (h2 : (lgH y.pl y.bv y.ev q.L q.k).Pairwise Disj) => logCrash_spec y.pl y.bv y.ev q.L q.k keep w1 h1 h2 hok.log
 generalize q.L.take (crashL q.L q.k keep) = L' at *
 generalize crashL q.L q.k keep = m at *
 refine enter (mc := stH y q) (N := 23) Tryz.func89 rfl rfl rfl ?_ ?_ ?_
 ·exact h
 ·exact hsep
 refine esr <| wm rfl rfl <| wn rfl rfl <| w_val (v_fieldAddrB (o := 0) uT63 rfl rfl Tryz.nz60 rfl) rfl <| w_val (v_loadB 0 rfl uT60 rfl rfl rfl) rfl <| wm rfl rfl <| w_op rfl ?_
 refine x_callM (dst := some 9) (lgH y.pl y.bv y.ev q.L q.k) [stB y q, stO y q] (σ := Value × Value) (fun _ => True) (fun _ => .tuple #[]) (fun s => lgH y.pl s.1 s.2 L' m) (List.perm_append_comm (l₁ := [_, _])) rfl rfl rfl Tryz.call126 (fun w hw => hcr w (res_part hw).1 (res_part hw).2) rfl (fun s _ => ?_); obtain ⟨bv, ev⟩ := s; refine g_heap (m' := [stB y q, stO y q] ++ lgH y.pl bv ev L' m) (fun _ hw => hw.pick [3, 4, 0, 1, 2] (by decide)) ?_
 refine wsr <| wm rfl rfl <| wm rfl rfl <| wm rfl rfl ?_
 refine w_val (v_build (v := intsV zero10) _ rfl (by intro _; simp [Instr.build, Instr.fill, Tryz.zeroValue32, go_sem]; rfl)) rfl ?_
 refine wn rfl rfl <| w_val (v_fieldAddrB (o := 1) uT63 rfl rfl Tryz.nz3 rfl) rfl <| w_op rfl ?_
 refine x_store1 0 rfl rfl rfl Tryz.hi3 Tryz.cz3 rfl (by rw [stR_len hz]; decide) rfl ?_; rw [stR_dn0]
 refine wn rfl rfl <| w_val (v_fieldAddrB (o := 2) uT63 rfl rfl Tryz.nz32 rfl) rfl <| w_op rfl ?_
 refine x_store 0 rfl rfl rfl Tryz.hi32 (Tryz.cz32.trans rfl) (by rw [stR_len hz]; decide) (one_intCells _) (stR y.pl 0 zero10 (.slice y.A (lastL q.L q.dn).length (lastL q.L q.dn).length)) (stR_st_set hz _) ?_
 refine wn rfl rfl <| w_val (v_fieldAddrB (o := 12) uT63 rfl rfl Tryz.nz33 rfl) rfl <| w_op rfl ?_
 refine x_store1 0 rfl rfl rfl Tryz.hi33 Tryz.cz33 rfl (by rw [stR_len rfl]; decide) rfl ?_; rw [stR_last_set rfl]
 refine w_nil <| e_block ?_
 refine e_loopH (σ := Nat × Option Addr × Nat) [0] (.cons rfl .nil) (fun _ => []) (fun x => stH ⟨y.p, y.pl, bv, ev, x.2.1, x.2.2⟩ ⟨L', m, x.1⟩) (fun x => x.1 ≤ m) (fun x => m - x.1) (0, none, 0) (Nat.zero_le _) (by repeat first | exact .nil _ | refine .cons rfl ?_) (fun _ hw => (hw.ownNil 96 5).pick [1, 0, 3, 4, 5] (by decide)) ?_
 rintro ⟨d, A1, k1⟩ hd
 dsimp only at hd ⊢
 have hokd : QL.Ok ⟨L', m, d⟩ := ⟨hcok.log, hd⟩
 have hrun := fun (w1 : World) (hw : ∀ c ∈ stH ⟨y.p, y.pl, bv, ev, A1, k1⟩ ⟨L', m, d⟩, c.holds w1) (hs : (stH ⟨y.p, y.pl, bv, ev, A1, k1⟩ ⟨L', m, d⟩).Pairwise Disj) => stRun_spec ⟨y.p, y.pl, bv, ev, A1, k1⟩ ⟨L', m, d⟩ (.slice none 0 0) [] w1 hw hs hokd (isInts_nil _)
 by_cases hlt : d < m
 ·have hq : runQ ⟨L', m, d⟩ ([] : List Int).length = (⟨L', m, d + 1⟩, 0) := by unfold runQ; rw [if_pos hlt, if_neg (by decide)]
  rw [hq] at hrun
  refine e_seq <| esr <| wm rfl rfl <| w_op rfl ?_
  refine x_call (dst := some 21) (mc := stH ⟨y.p, y.pl, bv, ev, A1, k1⟩ ⟨L', m, d⟩) (mr := []) (σ := Option Addr × Nat) (fun _ => True) (fun _ => .int .i64 0) (fun x => stH ⟨y.p, y.pl, bv, ev, x.1, x.2⟩ ⟨L', m, d + 1⟩) rfl rfl rfl Tryz.call88 (fun w hw => hrun w (res_part hw).1 (res_part hw).2) rfl (fun x _ => ?_); obtain ⟨A2, k2⟩ := x; dsimp only
  refine w_val (v_is (v' := .bool true) (v_eql rfl rfl) (by rfl)) rfl ?_
  refine w_nil ?_
  refine e_condDT rfl (by omega) ?_
  refine e_skip <| e_block <| e_skip <| e_blk ?_
  exact e_round ((d + 1, A2, k2)) (by dsimp only; omega) (by dsimp only; omega) (by repeat first | exact .nil _ | refine .cons rfl ?_) (fun _ hw => hw)
 ·have hq : runQ ⟨L', m, d⟩ ([] : List Int).length = (⟨L', m, d⟩, 7) := by unfold runQ; rw [if_neg hlt]
  rw [hq] at hrun
  have e : d = m := by omega
  subst e
  refine e_seq <| esr <| wm rfl rfl <| w_op rfl ?_
  refine x_call (dst := some 21) (mc := stH ⟨y.p, y.pl, bv, ev, A1, k1⟩ ⟨L', d, d⟩) (mr := []) (σ := Option Addr × Nat) (fun _ => True) (fun _ => .int .i64 7) (fun x => stH ⟨y.p, y.pl, bv, ev, x.1, x.2⟩ ⟨L', d, d⟩) rfl rfl rfl Tryz.call88 (fun w hw => hrun w (res_part hw).1 (res_part hw).2) rfl (fun x _ => ?_); obtain ⟨A2, k2⟩ := x; dsimp only
  refine w_val (v_is (v' := .bool false) (v_eql rfl rfl) (by rfl)) rfl ?_
  refine w_nil <| e_condF rfl <| e_exit rfl ?_
  refine e_endQ (q_ret0 rfl ?_)
  exact fun w' hw' => ⟨((bv, ev), A2, k2), trivial, rfl, hw'.res⟩
theorem stDo_spec (y : StP) (q : QL) (x : SStepL) (u pv : Value) (w : World) (h : ∀ c ∈ stH y q, c.holds w) (hsep : (stH y q).Pairwise Disj) (hok : q.Ok) (hr : IsRound (off w (feet (stH y q))) u x.round) (hp : IsInts (off w (feet (stH y q))) pv x.picks) (hin : ∀ d ∈ x.round, ∀ o ∈ d, OpIn o) :
  Calls Tryz.prog 50 #[.pointer (some ⟨y.p, 0, none⟩), sstV x u pv] w fun e w' => ∃ z : (Value × Value) × Option Addr × Nat, True ∧ e = .returned (.int .i64 (doQ q x).2) ∧ Res w (stH y q) (stH ⟨y.p, y.pl, z.1.1, z.1.2, z.2.1, z.2.2⟩ (doQ q x).1) w' := by
 obtain ⟨Au, ku, rfl, _, _⟩ := hr.form
 obtain ⟨Ap, kpp, rfl, _, _⟩ := hp.form
 have hlen := hok.len
 unfold sstV
 refine enter (mc := stH y q) (N := 41) Tryz.func50 rfl rfl rfl ?_ ?_ ?_
 ·exact h
 ·exact hsep
 refine esr <| w_op rfl ?_
 refine x_box rfl rfl (fun b3 => ?_)
 refine wa rfl rfl <| w_nil <| e_seq <| esr <| w_val (v_fieldAddrB (o := 0) uT90 rfl rfl Tryz.nz3 rfl) rfl <| w_val (v_loadB 0 rfl uT3 rfl rfl rfl) rfl <| w_nil <| e_block <| esr ?_
 by_cases h1 : x.kind = 1
 ·have hq : doQ q x = (⟨(putL q.L x.round).1, q.k, q.dn⟩, (putL q.L x.round).2.2) := by unfold doQ; rw [if_pos h1]
  rw [hq]
  dsimp only
  have hps := put_st (r := x.round) hlen
  refine w_val (v_is (v' := .bool true) (v_eql rfl rfl) (by rw [decide_eq_true h1])) rfl ?_
  refine wa rfl rfl <| w_nil <| e_condT rfl <| e_seq <| e_draw ([.blk b3 90 [.int .i64 x.kind, .slice Au x.round.length ku, .slice Ap x.picks.length kpp, .int .i64 x.keep], stB y q]) Tryz.mixed <| tk 0 rfl (v_move rfl) rfl <| tk 1 rfl (v_nilCheck rfl) rfl <| tk 2 rfl (v_fieldAddrB (o := 0) uT63 rfl rfl Tryz.nz60 rfl) rfl <| tk 3 rfl (v_loadB 1 rfl uT60 rfl rfl rfl) rfl <| tk 4 rfl (v_fieldAddrB (o := 1) uT90 rfl rfl Tryz.nz37 rfl) rfl <| tk 5 rfl (v_loadB 0 rfl uT37 rfl rfl rfl) rfl <| t1 6 rfl rfl ?_
  refine x_callM (dst := some 18) (lgH y.pl y.bv y.ev q.L q.k) [.blk b3 90 [.int .i64 x.kind, .slice Au x.round.length ku, .slice Ap x.picks.length kpp, .int .i64 x.keep], stB y q, stO y q] (σ := Value × Value) (fun _ => True) (fun _ => .tuple #[.int .i64 (putL q.L x.round).2.1, .int .i64 (putL q.L x.round).2.2]) (fun s => lgH y.pl s.1 s.2 (putL q.L x.round).1 q.k) (List.perm_append_comm (l₁ := [_, _, _])) rfl rfl rfl Tryz.call86 (fun w hw => logPut_spec y.pl y.bv y.ev q.L q.k _ x.round w (res_part hw).1 (res_part hw).2 hok.log (hr.mono (hw.offm (fun c hc => List.mem_append_left _ hc))) hin) rfl (fun s _ => ?_); obtain ⟨bv, ev⟩ := s; dsimp only
  refine tn <| tk 7 rfl (v_move rfl) rfl <| tk 8 rfl (v_extract rfl rfl) rfl <| tk 9 rfl (v_extract rfl rfl) rfl <| tk 10 rfl (v_assign rfl) rfl <| tk 11 rfl (v_assign rfl) rfl <| td <| esr <| wm rfl rfl <| wa rfl rfl <| w_nil ?_
  refine e_retQ (q_ret1 rfl (.tmp rfl) ?_)
  refine fun w' hw' => ⟨((bv, ev), y.A, y.kk), trivial, rfl, ?_⟩
  show Res _ _ ([.blk y.p 63 (stR y.pl q.dn (stL (putL q.L x.round).1 q.dn) (.slice y.A (lastL (putL q.L x.round).1 q.dn).length (lastL (putL q.L x.round).1 q.dn).length)), Own (.slice y.A (lastL (putL q.L x.round).1 q.dn).length y.kk) 96 5 (lastL (putL q.L x.round).1 q.dn).length (resL (lastL (putL q.L x.round).1 q.dn))] ++ lgH y.pl bv ev (putL q.L x.round).1 q.k) _
  rw [hps.1, hps.2]
  exact (hw'.pick [4, 5, 0, 1, 2] (by decide)).res
 ·by_cases h2 : x.kind = 2
  ·have hq : doQ q x = (⟨q.L, q.L.length, q.dn⟩, 0) := by unfold doQ; rw [if_neg h1, if_pos h2]
   rw [hq]
   dsimp only
   refine w_val (v_is (v' := .bool false) (v_eql rfl rfl) (by rw [decide_eq_false h1])) rfl ?_
   refine wa rfl rfl <| w_nil <| e_condF rfl <| esr ?_
   refine w_val (v_is (v' := .bool true) (v_eql rfl rfl) (by rw [decide_eq_true h2])) rfl ?_
   refine wa rfl rfl <| w_nil <| e_condT rfl <| e_region <| wm rfl rfl <| wn rfl rfl <| w_val (v_fieldAddrB (o := 0) uT63 rfl rfl Tryz.nz60 rfl) rfl <| w_val (v_loadB 1 rfl uT60 rfl rfl rfl) rfl <| w_op rfl ?_
   refine x_callM (dst := some 28) [lgB y.pl y.bv y.ev q.L q.k] [.blk b3 90 [.int .i64 x.kind, .slice Au x.round.length ku, .slice Ap x.picks.length kpp, .int .i64 x.keep], stB y q, stO y q, Rw y.bv 5 1 (bytesOf q.L).length (byteCells (bytesOf q.L)), Rw y.ev 3 1 q.L.length (intCells (endsOf q.L))] (σ := Unit) (fun _ => True) (fun _ => .tuple #[]) (fun _ => [lgB y.pl y.bv y.ev q.L q.L.length]) (List.Perm.append_right [_, _] (List.perm_append_comm (l₁ := [_, _, _]) (l₂ := [_]))) rfl rfl rfl Tryz.call87 (fun w hw => (logSync_spec y.pl y.bv y.ev q.L q.k w (hw.mem (i := 0) rfl) (hw.mem (i := 4) rfl)).mono (fun e w' hh => ⟨(), trivial, hh.1, hh.2⟩)) rfl (fun _ _ => ?_)
   refine w_nil <| e_blk <| esr <| wa rfl rfl <| w_nil ?_
   refine e_retQ (q_ret1 rfl (.tmp rfl) ?_)
   exact fun w' hw' => ⟨((y.bv, y.ev), y.A, y.kk), trivial, rfl, (hw'.pick [2, 3, 0, 4, 5] (by decide)).res⟩
  ·by_cases h3 : x.kind = 3
   ·have hq : doQ q x = runQ q x.picks.length := by unfold doQ; rw [if_neg h1, if_neg h2, if_pos h3]
    rw [hq]
    refine w_val (v_is (v' := .bool false) (v_eql rfl rfl) (by rw [decide_eq_false h1])) rfl ?_
    refine wa rfl rfl <| w_nil <| e_condF rfl <| esr ?_
    refine w_val (v_is (v' := .bool false) (v_eql rfl rfl) (by rw [decide_eq_false h2])) rfl ?_
    refine wa rfl rfl <| w_nil <| e_condF rfl <| esr ?_
    refine w_val (v_is (v' := .bool true) (v_eql rfl rfl) (by rw [decide_eq_true h3])) rfl ?_
    refine wa rfl rfl <| w_nil <| e_condT rfl <| esr <| wm rfl rfl <| w_val (v_fieldAddrB (o := 2) uT90 rfl rfl Tryz.nz70 rfl) rfl <| w_val (v_loadB 0 rfl uT70 rfl rfl rfl) rfl <| w_op rfl ?_
    refine x_callM (dst := some 34) (stH y q) [.blk b3 90 [.int .i64 x.kind, .slice Au x.round.length ku, .slice Ap x.picks.length kpp, .int .i64 x.keep]] (σ := Option Addr × Nat) (fun _ => True) (fun _ => .int .i64 (runQ q x.picks.length).2) (fun z => stH ⟨y.p, y.pl, y.bv, y.ev, z.1, z.2⟩ (runQ q x.picks.length).1) (List.perm_append_comm (l₁ := [_])) rfl rfl rfl Tryz.call88 (fun w hw => stRun_spec y q _ x.picks w (res_part hw).1 (res_part hw).2 hok (Rds.mono (hw.offm (fun c hc => List.mem_append_left _ hc)) hp)) rfl (fun z _ => ?_); obtain ⟨A1, k1⟩ := z; dsimp only
    refine wa rfl rfl <| w_nil ?_
    refine e_retQ (q_ret1 rfl (.tmp rfl) ?_)
    exact fun w' hw' => ⟨((y.bv, y.ev), A1, k1), trivial, rfl, (hw'.pick [0, 1, 2, 3, 4] (by decide)).res⟩
   ·by_cases h4 : x.kind = 4
    ·have hq : doQ q x = (crashQ q x.keep, 0) := by unfold doQ; rw [if_neg h1, if_neg h2, if_neg h3, if_pos h4]
     rw [hq]
     dsimp only
     refine w_val (v_is (v' := .bool false) (v_eql rfl rfl) (by rw [decide_eq_false h1])) rfl ?_
     refine wa rfl rfl <| w_nil <| e_condF rfl <| esr ?_
     refine w_val (v_is (v' := .bool false) (v_eql rfl rfl) (by rw [decide_eq_false h2])) rfl ?_
     refine wa rfl rfl <| w_nil <| e_condF rfl <| esr ?_
     refine w_val (v_is (v' := .bool false) (v_eql rfl rfl) (by rw [decide_eq_false h3])) rfl ?_
     refine wa rfl rfl <| w_nil <| e_condF rfl <| esr ?_
     refine w_val (v_is (v' := .bool true) (v_eql rfl rfl) (by rw [decide_eq_true h4])) rfl ?_
     refine wa rfl rfl <| w_nil <| e_condT rfl <| e_region <| wm rfl rfl <| w_val (v_fieldAddrB (o := 3) uT90 rfl rfl Tryz.nz3 rfl) rfl <| w_val (v_loadB 0 rfl uT3 rfl rfl rfl) rfl <| w_op rfl ?_
     refine x_callM (dst := some 40) (stH y q) [.blk b3 90 [.int .i64 x.kind, .slice Au x.round.length ku, .slice Ap x.picks.length kpp, .int .i64 x.keep]] (σ := (Value × Value) × Option Addr × Nat) (fun _ => True) (fun _ => .tuple #[]) (fun z => stH ⟨y.p, y.pl, z.1.1, z.1.2, z.2.1, z.2.2⟩ (crashQ q x.keep)) (List.perm_append_comm (l₁ := [_])) rfl rfl rfl Tryz.call89 (fun w hw => stCrash_spec y q x.keep w (res_part hw).1 (res_part hw).2 hok) rfl (fun z _ => ?_); obtain ⟨⟨bv, ev⟩, A1, k1⟩ := z; dsimp only
     refine w_nil <| e_blk <| esr <| wa rfl rfl <| w_nil ?_
     refine e_retQ (q_ret1 rfl (.tmp rfl) ?_)
     exact fun w' hw' => ⟨((bv, ev), A1, k1), trivial, rfl, (hw'.pick [0, 1, 2, 3, 4] (by decide)).res⟩
    ·have hq : doQ q x = (q, 2) := by unfold doQ; rw [if_neg h1, if_neg h2, if_neg h3, if_neg h4]
     rw [hq]
     dsimp only
     refine w_val (v_is (v' := .bool false) (v_eql rfl rfl) (by rw [decide_eq_false h1])) rfl ?_
     refine wa rfl rfl <| w_nil <| e_condF rfl <| esr ?_
     refine w_val (v_is (v' := .bool false) (v_eql rfl rfl) (by rw [decide_eq_false h2])) rfl ?_
     refine wa rfl rfl <| w_nil <| e_condF rfl <| esr ?_
     refine w_val (v_is (v' := .bool false) (v_eql rfl rfl) (by rw [decide_eq_false h3])) rfl ?_
     refine wa rfl rfl <| w_nil <| e_condF rfl <| esr ?_
     refine w_val (v_is (v' := .bool false) (v_eql rfl rfl) (by rw [decide_eq_false h4])) rfl ?_
     refine wa rfl rfl <| w_nil <| e_condF rfl <| esr <| wa rfl rfl <| w_nil ?_
     refine e_retQ (q_ret1 rfl (.tmp rfl) ?_)
     exact fun w' hw' => ⟨((y.bv, y.ev), y.A, y.kk), trivial, rfl, (hw'.pick [1, 2, 3, 4, 5] (by decide)).res⟩
end Go.SL
end
section
open Go Go.Proofs Go.SL
set_option maxRecDepth 100000
set_option maxHeartbeats 4000000
namespace Go.SL
def thenL (L : List RoundL) (n : Int) : List Int × Bool := if n < 0 ∨ (L.length : Int) < n then (zero10, false) else (stL L n.toNat, true)
theorem stThen_spec (y : StP) (q : QL) (n : Int) (w : World) (h : StV w.cell? y q) (hok : q.Ok) : Calls Tryz.prog 91 #[.pointer (some ⟨y.p, 0, none⟩), .int .i64 n] w fun e w' => e = .returned (.tuple #[intsV (thenL q.L n).1, .bool (thenL q.L n).2]) ∧ Res w [] [] w' := by
 rw [← off_none w] at h
 have h0 := h.c0
 have h25 := hok.log.len
 refine enter0 (N := 44) Tryz.func91 rfl rfl rfl <| esr <| w_op rfl ?_
 refine x_alloc (z := .agg #[.int .i64 0, .int .i64 0, .int .i64 0, .int .i64 0, .int .i64 0, .int .i64 0, .int .i64 0, .int .i64 0, .int .i64 0, .int .i64 0]) (by intro w; exact Tryz.zeroValue32 w) rfl (fun b4 => ?_)
 refine wa rfl rfl <| wsr <| w_op rfl ?_
 refine x_alloc (z := .agg #[.int .i64 0, .int .i64 0, .int .i64 0, .int .i64 0, .int .i64 0, .int .i64 0, .int .i64 0, .int .i64 0, .int .i64 0, .int .i64 0]) (by intro w; exact Tryz.zeroValue32 w) rfl (fun b6 => ?_)
 refine w_nil <| e_seq <| e_seq ?_
 by_cases hn0 : n < 0
 ·have e : thenL q.L n = (zero10, false) := by unfold thenL; rw [if_pos (.inl hn0)]
  rw [e]
  refine e_region <| wm rfl rfl ?_
  refine w_val (v_is (v' := .bool true) (v_lss rfl rfl) (by rw [decide_eq_true hn0])) rfl ?_
  refine wm rfl rfl <| w_skip rfl rfl rfl rfl <| w_skip rfl rfl rfl rfl <| w_skip rfl rfl rfl rfl <| w_skip rfl rfl rfl rfl <| w_skip rfl rfl rfl rfl <| w_skip rfl rfl rfl rfl <| w_skip rfl rfl rfl rfl <| w_val (v_pickT rfl rfl) rfl <| w_nil <| e_condT rfl <| esr <| w_val (v_loadBN 0 rfl uT32 rfl Tryz.hi32 Tryz.cz32 rfl (cs' := intCells zero10) rfl rfl) rfl <| w_op rfl ?_
  refine x_storeA 1 rfl rfl rfl Tryz.hi32 (Tryz.cz32.trans (by simp [Value.cells, intsV, resCells, intCells, zero10_len])) (by simp [Value.cells, intsV, resCells, intCells, zero10_len]) (by first | exact one_intCells _ | exact one_resCells _ _) ?_
  refine wa rfl rfl <| w_nil ?_
  refine e_retQ (q_ret2 rfl (ResV.agg 1 rfl rfl (by rw [isAggD, uT32]; rfl) (Tryz.cz32) Tryz.hi32) (.tmp rfl) ?_)
  exact fun w' hw' => ⟨rfl, hw'.res.nil⟩
 ·by_cases hnl : (q.L.length : Int) < n
  ·have e : thenL q.L n = (zero10, false) := by unfold thenL; rw [if_pos (.inr hnl)]
   rw [e]
   refine e_region <| wm rfl rfl ?_
   refine w_val (v_is (v' := .bool false) (v_lss rfl rfl) (by rw [decide_eq_false hn0])) rfl ?_
   refine wm rfl rfl <| w_want rfl rfl <| wm rfl rfl <| w_want rfl rfl <| wm rfl rfl <| w_want rfl rfl <| wn rfl rfl <| w_want rfl rfl <| w_val (v_fieldAddrB (o := 0) uT63 rfl rfl Tryz.nz60 rfl) rfl <| w_want rfl rfl <| w_val (v_loadO uT60 rfl rfl (h0)) rfl <| w_want rfl rfl <| w_op rfl ?_
   refine x_call0 (v := .int .i64 (q.L.length : Int)) rfl rfl rfl Tryz.call56 rfl (fun w hw => logLen_spec y.pl y.bv y.ev q.L q.k w (h.mono hw.off).lg) ?_
   refine w_want rfl rfl ?_
   refine w_val (v_is (v' := .bool true) (v_gtr rfl rfl) (by rw [decide_eq_true hnl])) rfl ?_
   refine w_val (v_pickF rfl rfl) rfl <| w_nil <| e_condT rfl <| esr <| w_val (v_loadBN 0 rfl uT32 rfl Tryz.hi32 Tryz.cz32 rfl (cs' := intCells zero10) rfl rfl) rfl <| w_op rfl ?_
   refine x_storeA 1 rfl rfl rfl Tryz.hi32 (Tryz.cz32.trans (by simp [Value.cells, intsV, resCells, intCells, zero10_len])) (by simp [Value.cells, intsV, resCells, intCells, zero10_len]) (by first | exact one_intCells _ | exact one_resCells _ _) ?_
   refine wa rfl rfl <| w_nil ?_
   refine e_retQ (q_ret2 rfl (ResV.agg 1 rfl rfl (by rw [isAggD, uT32]; rfl) (Tryz.cz32) Tryz.hi32) (.tmp rfl) ?_)
   exact fun w' hw' => ⟨rfl, hw'.res.nil⟩
  ·obtain ⟨m, rfl⟩ : ∃ m : Nat, n = m := ⟨n.toNat, by omega⟩
   have e : thenL q.L (m : Int) = (stL q.L m, true) := by unfold thenL; rw [if_neg (by omega), Int.toNat_natCast]
   rw [e]
   have hm : m ≤ q.L.length := by omega
   refine e_region <| wm rfl rfl ?_
   refine w_val (v_is (v' := .bool false) (v_lss rfl rfl) (by rw [decide_eq_false hn0])) rfl ?_
   refine wm rfl rfl <| w_want rfl rfl <| wm rfl rfl <| w_want rfl rfl <| wm rfl rfl <| w_want rfl rfl <| wn rfl rfl <| w_want rfl rfl <| w_val (v_fieldAddrB (o := 0) uT63 rfl rfl Tryz.nz60 rfl) rfl <| w_want rfl rfl <| w_val (v_loadO uT60 rfl rfl (h0)) rfl <| w_want rfl rfl <| w_op rfl ?_
   refine x_call0 (v := .int .i64 (q.L.length : Int)) rfl rfl rfl Tryz.call56 rfl (fun w hw => logLen_spec y.pl y.bv y.ev q.L q.k w (h.mono hw.off).lg) ?_
   refine w_want rfl rfl ?_
   refine w_val (v_is (v' := .bool false) (v_gtr rfl rfl) (by rw [decide_eq_false hnl])) rfl ?_
   refine w_val (v_pickF rfl rfl) rfl <| w_nil <| e_condF rfl <| e_skip <| e_seq <| esr <| wm rfl rfl <| wm rfl rfl <| w_nil <| e_block ?_
   refine e_loopH (σ := Nat) [0, 4, 6, 22] (.cons rfl (.cons rfl (.cons rfl (.cons rfl .nil)))) (fun i => [(23, .int .i64 (i : Int))]) (fun i => [.blk b6 32 (intCells (stL q.L i)), .blk b4 32 (intCells zero10)]) (fun i => i ≤ m) (fun i => m - i) 0 (Nat.zero_le _) (by repeat first | exact .nil _ | refine .cons rfl ?_) (fun _ hw => hw) ?_
   rintro i hi
   dsimp only at hi ⊢
   have hz := stL_len q.L i
   refine esr <| w_val (v_lss rfl rfl) rfl <| w_nil <| e_seq ?_
   refine e_condD rfl (fun hlt => ?_) (fun hlt => ?_)
   ·have hi' : i < q.L.length := by omega
    have hgd : q.L.getD i [] = q.L[i] := by simp [List.getD, hi']
    have hf := hok.fault hi'
    have hround := fun (w1 : World) (hv : LgV w1.cell? y.pl y.bv y.ev q.L q.k) => logRound_spec y.pl y.bv y.ev q.L q.k i w1 hv hok.log hi'
    rw [← hgd] at hround
    have hst1 := stL_next q.L i
    have hz2 := stL_len q.L (i + 1)
    have hrun := fun (w1 : World) (v1 : Value) (h1 : IsRound w1.cell? v1 (q.L.getD i [])) => rdRun_ok (stL q.L i) v1 (.slice none 0 0) (q.L.getD i []) [] w1 h1 hz (isInts_nil _) hf (by decide)
    rw [← hst1] at hrun
    generalize hx : stL q.L (i + 1) = x at *
    refine e_skip <| e_seq <| e_block <| esr <| wm rfl rfl <| wa rfl rfl <| wsr <| wm rfl rfl <| wn rfl rfl <| w_val (v_fieldAddrB (o := 0) uT63 rfl rfl Tryz.nz60 rfl) rfl <| w_val (v_loadO uT60 rfl rfl (h0)) rfl <| wm rfl rfl <| w_op rfl ?_
    refine x_call (dst := some 32) (mc := []) (σ := Value × (Nat → Prop)) (fun _ => True) (fun s => .tuple #[s.1, .bool true]) (fun s => [Keep s.2 (fun c => IsRound c s.1 (q.L.getD i []))]) rfl rfl rfl Tryz.call92 (fun w hw => hround w (h.mono hw.off).lg) rfl (fun s _ => ?_); obtain ⟨rv, G⟩ := s; dsimp only
    refine wm rfl rfl <| w_val (v_extract rfl rfl) rfl <| w_val (v_extract rfl rfl) rfl <| wa rfl rfl <| wa rfl rfl <| wre ?_
    refine w_val (v_loadBA 1 rfl uT32 rfl Tryz.hi32 (Tryz.cz32.trans (by simp [Value.cells, intsV, resCells, intCells, hz, zero10_len, hz2])) rfl) rfl ?_
    refine wm rfl rfl <| w_op rfl ?_
    refine x_call (dst := some 38) (mc := []) (σ := Option Addr × Nat) (fun x => (q.L.getD i []).length ≤ x.2) (fun z => .tuple #[intsV x, .slice z.1 (q.L.getD i []).length (q.L.getD i []).length, .int .i64 0]) (fun z => [Own (.slice z.1 (q.L.getD i []).length z.2) 96 5 (q.L.getD i []).length (resL (resAll (stL q.L i) (q.L.getD i [])))]) rfl rfl rfl Tryz.call125 (fun w hw => hrun w rv (keep_all (IsRound.up _ _) (hw.mem (i := 0) rfl))) rfl (fun z hz1 => ?_); obtain ⟨A1, k1⟩ := z; dsimp only at hz1; dsimp only
    refine wm rfl rfl <| w_val (v_extract rfl rfl) rfl <| w_val (v_extract rfl rfl) rfl <| w_val (v_extract rfl rfl) rfl <| w_op rfl ?_
    refine x_storeA 2 rfl rfl rfl Tryz.hi32 (Tryz.cz32.trans (by simp [Value.cells, intsV, resCells, intCells, hz, zero10_len, hz2])) (by simp [Value.cells, intsV, resCells, intCells, hz, zero10_len, hz2]) (by first | exact one_intCells _ | exact one_resCells _ _) ?_
    refine w_nil <| e_blk <| e_region ?_
    refine w_val (v_add rfl rfl (by omega)) rfl ?_
    refine wm rfl rfl <| w_nil ?_
    subst hx
    exact e_round (i + 1) (by omega) (by omega) (by repeat first | exact .nil _ | refine .cons rfl ?_) (fun _ hw => hw.pick [2, 3] (by decide))
   ·have e : i = m := by omega
    subst e
    refine e_exit rfl <| esr ?_
    refine w_val (v_loadBA 0 rfl uT32 rfl Tryz.hi32 (Tryz.cz32.trans (by simp [Value.cells, intsV, resCells, intCells, hz, zero10_len])) rfl) rfl ?_
    refine w_op rfl ?_
    refine x_storeA 1 rfl rfl rfl Tryz.hi32 (Tryz.cz32.trans (by simp [Value.cells, intsV, resCells, intCells, hz, zero10_len])) (by simp [Value.cells, intsV, resCells, intCells, hz, zero10_len]) (by first | exact one_intCells _ | exact one_resCells _ _) ?_
    refine wa rfl rfl <| w_nil ?_
    refine e_retQ (q_ret2 rfl (ResV.agg 1 rfl rfl (by rw [isAggD, uT32]; rfl) (Tryz.cz32.trans (by simp [intCells, hz])) Tryz.hi32) (.tmp rfl) ?_)
    exact fun w' hw' => ⟨rfl, hw'.res.nil⟩
end Go.SL
end
section
open Go Go.Proofs Go.SL
set_option maxRecDepth 100000
set_option maxHeartbeats 4000000
namespace Go.SL
theorem StV.at {w0 w : World} {F : Nat → Prop} {m : Hp} {y : StP} {q : QL} (h : St w0 F m w) (i : Nat) (h0 : m[i]? = some (stB y q)) (h1 : m[i + 1]? = some (stO y q)) (h2 : m[i + 2]? = some (lgB y.pl y.bv y.ev q.L q.k)) (h3 : m[i + 3]? = some (Rw y.bv 5 1 (bytesOf q.L).length (byteCells (bytesOf q.L)))) (h4 : m[i + 4]? = some (Rw y.ev 3 1 q.L.length (intCells (endsOf q.L)))) : StV w.cell? y q := by
 refine StV.of h (fun c hc => ?_)
 simp only [List.mem_append, List.mem_cons, List.not_mem_nil, or_false] at hc
 rcases hc with (rfl | rfl) | rfl | rfl | rfl
 ·exact List.mem_of_getElem? h0
 ·exact List.mem_of_getElem? h1
 ·exact List.mem_of_getElem? h2
 ·exact List.mem_of_getElem? h3
 ·exact List.mem_of_getElem? h4
end Go.SL
end
