/- YtebdkaadbakhladDoor: part ReE of this seat's own texts: WHATEVER THE INPUT, the law eE returns true and leaves what was there; no condition. -/
import Derived.Test.YtebdkaadbakhladDoorReD
import Derived.Test.YtebdkaadbakhladDoorZK
import Derived.Test.YtebdkaadbakhladDoorP5
import Derived.Test.YtebdkaadbakhladDoorW4
set_option linter.unusedVariables false
set_option linter.unusedSimpArgs false

open Go Go.Proofs Go.SL Go.RowKit
set_option maxRecDepth 100000
set_option maxHeartbeats 4000000
namespace Go.SL
theorem isRoundOne {c : View} {v u : Value} {d : DeedL} (h : Rds c v 1 1 [u]) (hd : IsDeed c u d) : IsRound c v [d] := ⟨[u], h, fun i hi => by
  have : i = 0 := by simpa using hi
  subst this
  exact ⟨u, rfl, hd⟩⟩
theorem refOwnOne_spec (v : Value) (d : DeedL) (w : World) (h : IsRound w.cell? v [d]) (hb : d.length ≤ 500) : Calls Tryd.prog 8 #[v] w
    fun e w' => ∃ s : Value × Option Addr × Nat, True ∧ e = .returned s.1 ∧ Res w [] [Own s.1 23 1 1 [.slice s.2.1 d.length s.2.2], Own (.slice s.2.1 d.length s.2.2) 41 5 d.length (deedCells d)] w' := by
  rw [← off_none w] at h
  obtain ⟨A, kp, rfl, hle, hc⟩ := h.form
  refine enter0 (N := 22) Tryd.func8 rfl rfl rfl ?_
  refine esr ?_
  refine wa rfl rfl ?_
  refine wsr ?_
  refine wa rfl rfl ?_
  refine w_nil ?_
  refine e_seq ?_
  refine esr ?_
  refine wa rfl rfl ?_
  refine w_nil ?_
  refine g_heap (m' := [Own (.slice none 0 0) 23 1 0 []]) (fun _ hw => hw.ownNil 23 1) ?_
  refine e_block ?_
  refine e_loopH (σ := Nat × Value × List Value × Hp) [0] (.cons rfl .nil) (fun x => [(3, x.2.1), (4, .int .i64 x.1)]) (fun x => Own x.2.1 23 1 x.1 x.2.2.1 :: x.2.2.2) (fun x => (x.1 = 0 ∧ x.2.2.1 = [] ∧ x.2.2.2 = []) ∨ (x.1 = 1 ∧ ∃ A k, x.2.2.1 = [Value.slice A d.length k] ∧ x.2.2.2 = [Own (.slice A d.length k) 41 5 d.length (deedCells d)])) (fun x => 1 - x.1) (0, .slice none 0 0, [], []) (.inl ⟨rfl, rfl, rfl⟩) (by repeat (first | exact Sub.nil _ | refine Sub.cons rfl ?_)) (fun _ hw => hw) ?_
  rintro ⟨k, vo, vs, hp⟩ hst
  dsimp only at hst ⊢
  have hl1 : ([d] : RoundL).length = 1 := rfl
  rcases hst with ⟨rfl, rfl, rfl⟩ | ⟨rfl, A1, k1, rfl, rfl⟩
  · obtain ⟨ad, u, rfl, hcell, hd⟩ := hc 0 Nat.zero_lt_one
    have hd : IsDeed (off w (feet [])) u d := hd
    refine e_seq ?_
    refine esr ?_
    refine wm rfl rfl ?_
    refine wm rfl rfl ?_
    refine w_val (v_lenS Tryd.underlying26 rfl) rfl ?_
    refine w_val (v_is (v' := .bool true) (v_lss rfl rfl) (by rfl)) rfl ?_
    refine w_nil ?_
    refine e_condT rfl ?_
    refine e_skip ?_
    refine e_seq ?_
    refine e_block ?_
    refine esr ?_
    refine wa rfl rfl ?_
    refine wre ?_
    refine wm rfl rfl ?_
    refine wm rfl rfl ?_
    refine wm rfl rfl ?_
    refine wm rfl rfl ?_
    refine w_val (v_indexS Tryd.underlying26 Tryd.hi23 Tryd.cz23 rfl rfl (by first | omega | decide)) rfl ?_
    refine w_val (v_loadO Tryd.underlying23 rfl rfl (hcell)) rfl ?_
    refine w_heap (fun _ hw => hw.ownNil 41 5) ?_
    refine w_op rfl ?_
    refine x_appendI (z := .agg #[.int .i64 0, .int .i64 0, .int .i64 0, .int .i64 0, .int .i64 0]) (n := 0) (xs := []) (size := 5) (bytes := 40) (k := d.length) (news := deedCells d) 0 rfl rfl rfl Tryd.underlying23 (by kernel_rfl) rfl (by decide) (fun w hw => hd.mono hw.off) (one_deedCells d) (by omega) (by simp only [maxLen]; omega) rfl (fun vd => ?_)
    refine g_shape 0 rfl fun A1 k1 hv1 hk1 => ?_
    subst hv1
    refine w_op rfl ?_
    refine x_buildSlice _ ([Value.slice A1 (0 + d.length) k1]) rfl (run_buildSlice Tryd.underlying26 Tryd.hi23 Tryd.cz23 Tryd.zeroValue23 rfl (by kernel_rfl)) rfl (fun b19 => ?_)
    refine w_op rfl ?_
    refine x_appendI (z := .slice none 0 0) (n := 0) (xs := []) (size := 1) (bytes := 24) (k := 1) (news := [Value.slice A1 (0 + d.length) k1]) 2 rfl rfl rfl Tryd.underlying26 (by kernel_rfl) rfl (by decide) (fun w hw => blk_rds (hw.hold _ (List.mem_cons_self ..)) rfl) (by intro u hu; simp only [List.mem_singleton] at hu; subst hu; rfl) (by omega) (by simp only [maxLen]; omega) rfl (fun vo' => ?_)
    refine wa rfl rfl ?_
    refine w_nil ?_
    refine e_blk ?_
    refine e_region ?_
    refine wm rfl rfl ?_
    refine w_val (v_add rfl rfl (by omega)) rfl ?_
    refine wa rfl rfl ?_
    refine w_nil ?_
    refine e_round ((1, vo', [Value.slice A1 d.length k1], [Own (.slice A1 d.length k1) 41 5 d.length (deedCells d)])) (.inr ⟨rfl, A1, k1, rfl, rfl⟩) (Nat.zero_lt_one) (by repeat (first | exact Sub.nil _ | refine Sub.cons rfl ?_)) (fun _ hw => ?_)
    dsimp only
    simp only [List.set_cons_zero, List.set_cons_succ, List.append_eq, List.nil_append, Nat.zero_add] at hw
    exact (hw.sub (.cons _ (List.Sublist.refl _))).perm (.swap _ _ _)
  · refine e_seq ?_
    refine esr ?_
    refine wm rfl rfl ?_
    refine wm rfl rfl ?_
    refine w_val (v_lenS Tryd.underlying26 rfl) rfl ?_
    refine w_val (v_is (v' := .bool false) (v_lss rfl rfl) (by rfl)) rfl ?_
    refine w_nil ?_
    refine e_condF rfl ?_
    refine e_exit rfl ?_
    refine esr ?_
    refine wm rfl rfl ?_
    refine wa rfl rfl ?_
    refine w_nil ?_
    refine e_retQ (q_ret1 rfl (.tmp rfl) ?_)
    refine fun w' hw' => ⟨(vo, A1, k1), trivial, rfl, ?_⟩
    exact hw'.res
theorem TextDoes_spec (v : Value) (d : DeedL) (s : List UInt8) (w : World) (h : IsDeed w.cell? v d) (hin : ∀ o ∈ d, OpIn o) (hL : LaidD w) (hN : NamesV w.cell?) :
    Calls Tryd.prog 3 #[v, strV s] w fun e w' => e = .returned (.bool true) ∧ Res w [] [] w' := by
  rw [← off_none w] at h hN
  have hs := h
  obtain ⟨A, kp, rfl, hle, hc⟩ := h.form
  refine enter0 (N := 72) Tryd.func3 rfl rfl rfl ?_
  refine esr ?_
  refine wa rfl rfl ?_
  refine w_nil ?_
  refine e_seq ?_
  refine esr ?_
  refine w_op rfl ?_
  refine x_call0 (v := .bool true) rfl rfl rfl Tryd.call7 rfl (fun w hw => textBegun_spec w (hL.chg hw.chg)) ?_
  refine w_val (v_is (v' := .bool false) (v_not rfl) (by rfl)) rfl ?_
  refine w_nil ?_
  refine e_condF rfl ?_
  refine e_skip ?_
  refine e_seq ?_
  refine e_seq ?_
  by_cases hd : 200 < d.length
  · refine e_region ?_
    refine wm rfl rfl ?_
    refine w_val (v_lenS Tryd.underlying23 rfl) rfl ?_
    refine w_val (v_is (v' := .bool true) (v_gtr rfl rfl) (by rw [decide_eq_true (by omega)])) rfl ?_
    refine wm rfl rfl ?_
    refine w_skip rfl rfl rfl rfl ?_
    refine w_skip rfl rfl rfl rfl ?_
    refine w_skip rfl rfl rfl rfl ?_
    refine w_val (v_pickT rfl rfl) rfl ?_
    refine w_nil ?_
    refine e_condT rfl ?_
    refine esr ?_
    refine wa rfl rfl ?_
    refine w_nil ?_
    refine e_retQ (q_ret1 rfl (.tmp rfl) ?_)
    exact fun w' hw' => ⟨rfl, hw'.res.nil⟩
  by_cases hsl : 3000 < s.length
  · refine e_region ?_
    refine wm rfl rfl ?_
    refine w_val (v_lenS Tryd.underlying23 rfl) rfl ?_
    refine w_val (v_is (v' := .bool false) (v_gtr rfl rfl) (by rw [decide_eq_false (by omega)])) rfl ?_
    refine wm rfl rfl ?_
    refine w_want rfl rfl ?_
    refine wm rfl rfl ?_
    refine w_want rfl rfl ?_
    refine w_val (v_strLen Tryd.underlying9 rfl) rfl ?_
    refine w_want rfl rfl ?_
    refine w_val (v_is (v' := .bool true) (v_gtr rfl rfl) (by rw [decide_eq_true (by omega)])) rfl ?_
    refine w_val (v_pickF rfl rfl) rfl ?_
    refine w_nil ?_
    refine e_condT rfl ?_
    refine esr ?_
    refine wa rfl rfl ?_
    refine w_nil ?_
    refine e_retQ (q_ret1 rfl (.tmp rfl) ?_)
    exact fun w' hw' => ⟨rfl, hw'.res.nil⟩
  refine e_region ?_
  refine wm rfl rfl ?_
  refine w_val (v_lenS Tryd.underlying23 rfl) rfl ?_
  refine w_val (v_is (v' := .bool false) (v_gtr rfl rfl) (by rw [decide_eq_false (by omega)])) rfl ?_
  refine wm rfl rfl ?_
  refine w_want rfl rfl ?_
  refine wm rfl rfl ?_
  refine w_want rfl rfl ?_
  refine w_val (v_strLen Tryd.underlying9 rfl) rfl ?_
  refine w_want rfl rfl ?_
  refine w_val (v_is (v' := .bool false) (v_gtr rfl rfl) (by rw [decide_eq_false (by omega)])) rfl ?_
  refine w_val (v_pickF rfl rfl) rfl ?_
  refine w_nil ?_
  refine e_condF rfl ?_
  have hO := fun (w1 : World) (v1 : Value) hv => refOwnOne_spec v1 d w1 hv (by omega)
  have hp1 := fun (w1 : World) (v1 : Value) hv hL1 => txPrint_spec v1 d w1 hv hin hL1
  have hp2 := fun (w1 : World) (v1 : Value) hv hL1 hN1 => refTextOf_spec v1 d w1 hv hin hL1 hN1
  have hq1 := fun (w1 : World) hL1 => txParse_spec s w1 (by omega) hL1
  have hq2 := fun (w1 : World) hL1 hN1 => refDeedOf_spec s w1 (by omega) hL1 hN1
  have hxl : (parseL s).1.length ≤ 14 := by
    obtain ⟨ho1, ho2, _⟩ := parse_out s
    by_cases hz : (parseL s).2.1 = 0
    · exact (checked (ho2 hz)).1
    · rw [ho1 hz]; simp
  generalize printS d = pd at *
  generalize parseL s = pr at *
  obtain ⟨a, f0, f1⟩ := pd
  obtain ⟨x, h0, h1⟩ := pr
  dsimp only at hp1 hp2 hq1 hq2 hxl
  refine e_skip ?_
  refine esr ?_
  refine wm rfl rfl ?_
  refine w_op rfl ?_
  refine x_buildSlice _ ([Value.slice A d.length kp]) rfl (run_buildSlice Tryd.underlying26 Tryd.hi23 Tryd.cz23 Tryd.zeroValue23 rfl (by kernel_rfl)) rfl (fun b25 => ?_)
  refine w_op rfl ?_
  refine x_call (dst := some 26) (mc := []) (σ := Value × Option Addr × Nat) (fun _ => True) (fun s => s.1) (fun s => [Own s.1 23 1 1 [Value.slice s.2.1 d.length s.2.2], Own (.slice s.2.1 d.length s.2.2) 41 5 d.length (deedCells d)]) rfl rfl rfl Tryd.call8 (fun w hw => hO w _ (isRoundOne (blk_rds (hw.mem (i := 0) rfl) rfl) (hs.mono hw.off))) rfl (fun so _ => ?_)
  obtain ⟨v2, A3, k3⟩ := so
  dsimp only
  refine g_shape2 0 rfl fun A2 k2 hv2 hk2 hA2 => ?_
  subst hv2
  obtain ⟨ad2, rfl⟩ := hA2 (by decide)
  refine w_val (v_indexS Tryd.underlying26 Tryd.hi23 Tryd.cz23 rfl rfl (by first | omega | decide)) rfl ?_
  refine w_val (v_loadW (j := 0) (v := .slice A3 d.length k3) 0 rfl (by decide) rfl Tryd.underlying23 rfl rfl) rfl ?_
  refine wa rfl rfl ?_
  refine wsr ?_
  refine wm rfl rfl ?_
  refine w_op rfl ?_
  refine x_call0 (v := .tuple #[strV a, .agg #[.int .i64 f0, .int .i64 f1]]) rfl rfl rfl Tryd.call9 rfl (fun w hw => hp1 w _ (own_rds (hw.mem (i := 1) rfl)) (hL.chg hw.chg)) ?_
  refine wm rfl rfl ?_
  refine w_val (v_extract rfl rfl) rfl ?_
  refine w_val (v_extract rfl rfl) rfl ?_
  refine w_op rfl ?_
  refine x_alloc (z := .agg #[.int .i64 0, .int .i64 0]) (by intro w; exact Tryd.zeroValue29 w) rfl (fun b7 => ?_)
  refine wa rfl rfl ?_
  refine w_op rfl ?_
  refine x_storeA 0 rfl rfl rfl Tryd.hi29 Tryd.cz29 rfl (by first | (simp [Value.oneCell', opCells]; done) | assumption | exact one_ints _ | exact one_resCells _ _ | exact one_slotC _) ?_
  refine wsr ?_
  refine wm rfl rfl ?_
  refine w_op rfl ?_
  refine x_call0 (v := .tuple #[strV a, .agg #[.int .i64 f0, .int .i64 f1]]) rfl rfl rfl Tryd.call10 rfl (fun w hw => hp2 w _ (hs.mono hw.off) (hL.chg hw.chg) (hN.mono hw.off)) ?_
  refine wm rfl rfl ?_
  refine w_val (v_extract rfl rfl) rfl ?_
  refine w_val (v_extract rfl rfl) rfl ?_
  refine w_op rfl ?_
  refine x_alloc (z := .agg #[.int .i64 0, .int .i64 0]) (by intro w; exact Tryd.zeroValue29 w) rfl (fun b9 => ?_)
  refine wa rfl rfl ?_
  refine w_op rfl ?_
  refine x_storeA 0 rfl rfl rfl Tryd.hi29 Tryd.cz29 rfl (by first | (simp [Value.oneCell', opCells]; done) | assumption | exact one_ints _ | exact one_resCells _ _ | exact one_slotC _) ?_
  refine wsr ?_
  refine wm rfl rfl ?_
  refine w_op rfl ?_
  refine x_call (dst := some 41) (mc := []) (σ := Value) (fun _ => True) (fun v => .tuple #[v, .agg #[.int .i64 h0, .int .i64 h1]]) (fun v => [Own v 41 5 x.length (deedCells x)]) rfl rfl rfl Tryd.call11 (fun w hw => hq1 w (hL.chg hw.chg)) rfl (fun v41 _ => ?_)
  refine wm rfl rfl ?_
  refine w_val (v_extract rfl rfl) rfl ?_
  refine w_val (v_extract rfl rfl) rfl ?_
  refine w_op rfl ?_
  refine x_alloc (z := .agg #[.int .i64 0, .int .i64 0]) (by intro w; exact Tryd.zeroValue29 w) rfl (fun b11 => ?_)
  refine wa rfl rfl ?_
  refine w_op rfl ?_
  refine x_storeA 0 rfl rfl rfl Tryd.hi29 Tryd.cz29 rfl (by first | (simp [Value.oneCell', opCells]; done) | assumption | exact one_ints _ | exact one_resCells _ _ | exact one_slotC _) ?_
  refine wsr ?_
  refine wm rfl rfl ?_
  refine w_op rfl ?_
  refine x_call (dst := some 46) (mc := []) (σ := Value) (fun _ => True) (fun v => .tuple #[v, .agg #[.int .i64 h0, .int .i64 h1]]) (fun v => [Own v 41 5 x.length (deedCells x)]) rfl rfl rfl Tryd.call12 (fun w hw => hq2 w (hL.chg hw.chg) (hN.mono hw.off)) rfl (fun v46 _ => ?_)
  refine wm rfl rfl ?_
  refine w_val (v_extract rfl rfl) rfl ?_
  refine w_val (v_extract rfl rfl) rfl ?_
  refine w_op rfl ?_
  refine x_alloc (z := .agg #[.int .i64 0, .int .i64 0]) (by intro w; exact Tryd.zeroValue29 w) rfl (fun b13 => ?_)
  refine wa rfl rfl ?_
  refine w_op rfl ?_
  refine x_storeA 0 rfl rfl rfl Tryd.hi29 Tryd.cz29 rfl (by first | (simp [Value.oneCell', opCells]; done) | assumption | exact one_ints _ | exact one_resCells _ _ | exact one_slotC _) ?_
  refine w_nil ?_
  refine e_seq ?_
  refine e_region ?_
  refine wm rfl rfl ?_
  refine wm rfl rfl ?_
  refine w_val (v_is (v' := .bool true) (v_strEql rfl rfl) (by rw [decide_eq_true rfl])) rfl ?_
  refine wm rfl rfl ?_
  refine w_want rfl rfl ?_
  refine w_val (v_loadBA 5 rfl Tryd.underlying29 rfl Tryd.hi29 Tryd.cz29 rfl) rfl ?_
  refine w_want rfl rfl ?_
  refine w_val (v_loadBA 4 rfl Tryd.underlying29 rfl Tryd.hi29 Tryd.cz29 rfl) rfl ?_
  refine w_want rfl rfl ?_
  refine w_val (v_is (v' := .bool true) (v_eqlTwo (ti := 3) Tryd.underlying29 (by kernel_rfl) (by kernel_rfl) (by kernel_rfl) rfl rfl Tryd.underlying3 (o := (f0, f1)) (o' := (f0, f1)) rfl rfl) (congrArg Value.bool (decide_eq_true rfl))) rfl ?_
  refine w_val (v_pickT rfl rfl) rfl ?_
  refine wm rfl rfl ?_
  refine w_want rfl rfl ?_
  refine wm rfl rfl ?_
  refine w_want rfl rfl ?_
  refine wm rfl rfl ?_
  refine w_want rfl rfl ?_
  refine w_op rfl ?_
  refine x_call0 (v := .bool true) rfl rfl rfl Tryd.call13 rfl (fun w hw => by have := sameDeed_spec _ _ x x w (own_rds (hw.mem (i := 3) rfl)) (own_rds (hw.mem (i := 1) rfl)) (by omega); rwa [decide_eq_true rfl] at this) ?_
  refine w_val (v_pickT rfl rfl) rfl ?_
  refine wm rfl rfl ?_
  refine w_want rfl rfl ?_
  refine w_val (v_loadBA 2 rfl Tryd.underlying29 rfl Tryd.hi29 Tryd.cz29 rfl) rfl ?_
  refine w_want rfl rfl ?_
  refine w_val (v_loadBA 0 rfl Tryd.underlying29 rfl Tryd.hi29 Tryd.cz29 rfl) rfl ?_
  refine w_want rfl rfl ?_
  refine w_val (v_is (v' := .bool true) (v_eqlTwo (ti := 3) Tryd.underlying29 (by kernel_rfl) (by kernel_rfl) (by kernel_rfl) rfl rfl Tryd.underlying3 (o := (h0, h1)) (o' := (h0, h1)) rfl rfl) (congrArg Value.bool (decide_eq_true rfl))) rfl ?_
  refine w_val (v_pickT rfl rfl) rfl ?_
  refine wm rfl rfl ?_
  refine w_want rfl rfl ?_
  refine wm rfl rfl ?_
  refine w_want rfl rfl ?_
  refine wm rfl rfl ?_
  refine w_want rfl rfl ?_
  refine w_op rfl ?_
  refine x_call0 (v := .bool true) rfl rfl rfl Tryd.call13 rfl (fun w hw => by have := sameDeed_spec _ _ d d w (own_rds (hw.mem (i := 7) rfl)) (hs.mono hw.off) (by omega); rwa [decide_eq_true rfl] at this) ?_
  refine w_val (v_pickT rfl rfl) rfl ?_
  refine wa rfl rfl ?_
  refine w_nil ?_
  refine e_retQ (q_ret1 rfl (.tmp rfl) ?_)
  exact fun w' hw' => ⟨rfl, hw'.res.nil⟩
end Go.SL

