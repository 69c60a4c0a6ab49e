/- YtebdkaadbakhladDoor: part ZL of this seat's own texts. -/
import Derived.Test.YtebdkaadbakhladDoorZK
import Derived.Test.YtebdkaadbakhladDoorP2
set_option linter.unusedVariables false
set_option linter.unusedSimpArgs false

open Go Go.Proofs Go.SL Go.RowKit
set_option maxRecDepth 100000
set_option maxHeartbeats 4000000
namespace Go.SL
theorem TextBack_spec (v1 v2 : Value) (d e : DeedL) (s : List UInt8) (w : World) (h1 : IsDeed w.cell? v1 d) (h2 : IsDeed w.cell? v2 e) (hin1 : ∀ o ∈ d, OpIn o) (hin2 : ∀ o ∈ e, OpIn o) (hL : LaidD w) :
    Calls Tryd.prog 4 #[v1, v2, strV s] w fun e w' => e = .returned (.bool true) ∧ Res w [] [] w' := by
  rw [← off_none w] at h1 h2
  have hs1 := h1
  have hs2 := h2
  obtain ⟨A1, kp1, rfl, hle1, hc1⟩ := h1.form
  obtain ⟨A2, kp2, rfl, hle2, hc2⟩ := h2.form
  refine enter0 (N := 109) Tryd.func4 rfl rfl rfl ?_
  refine esr ?_
  refine wa rfl rfl ?_
  refine w_nil ?_
  refine e_seq ?_
  refine esr ?_
  refine w_op rfl ?_
  refine x_call0 (v := .bool true) rfl rfl rfl Tryd.call7 rfl (fun w hw => textBegun_spec w (hL.chg hw.chg)) ?_
  refine w_val (v_is (v' := .bool false) (v_not rfl) (by rfl)) rfl ?_
  refine w_nil ?_
  refine e_condF rfl ?_
  refine e_skip ?_
  refine e_seq ?_
  refine e_seq ?_
  by_cases hd : 200 < d.length
  · refine e_region ?_
    refine wm rfl rfl ?_
    refine w_val (v_lenS Tryd.underlying23 rfl) rfl ?_
    refine w_val (v_is (v' := .bool true) (v_gtr rfl rfl) (by rw [decide_eq_true (by omega)])) rfl ?_
    refine wm rfl rfl ?_
    refine w_skip rfl rfl rfl rfl ?_
    refine w_skip rfl rfl rfl rfl ?_
    refine w_skip rfl rfl rfl rfl ?_
    refine w_val (v_pickT rfl rfl) rfl ?_
    refine wm rfl rfl ?_
    refine w_skip rfl rfl rfl rfl ?_
    refine w_skip rfl rfl rfl rfl ?_
    refine w_skip rfl rfl rfl rfl ?_
    refine w_val (v_pickT rfl rfl) rfl ?_
    refine w_nil ?_
    refine e_condT rfl ?_
    refine esr ?_
    refine wa rfl rfl ?_
    refine w_nil ?_
    refine e_retQ (q_ret1 rfl (.tmp rfl) ?_)
    exact fun w' hw' => ⟨rfl, hw'.res.nil⟩
  by_cases he : 200 < e.length
  · refine e_region ?_
    refine wm rfl rfl ?_
    refine w_val (v_lenS Tryd.underlying23 rfl) rfl ?_
    refine w_val (v_is (v' := .bool false) (v_gtr rfl rfl) (by rw [decide_eq_false (by omega)])) rfl ?_
    refine wm rfl rfl ?_
    refine w_want rfl rfl ?_
    refine wm rfl rfl ?_
    refine w_want rfl rfl ?_
    refine w_val (v_lenS Tryd.underlying23 rfl) rfl ?_
    refine w_want rfl rfl ?_
    refine w_val (v_is (v' := .bool true) (v_gtr rfl rfl) (by rw [decide_eq_true (by omega)])) rfl ?_
    refine w_val (v_pickF rfl rfl) rfl ?_
    refine wm rfl rfl ?_
    refine w_skip rfl rfl rfl rfl ?_
    refine w_skip rfl rfl rfl rfl ?_
    refine w_skip rfl rfl rfl rfl ?_
    refine w_val (v_pickT rfl rfl) rfl ?_
    refine w_nil ?_
    refine e_condT rfl ?_
    refine esr ?_
    refine wa rfl rfl ?_
    refine w_nil ?_
    refine e_retQ (q_ret1 rfl (.tmp rfl) ?_)
    exact fun w' hw' => ⟨rfl, hw'.res.nil⟩
  by_cases hsl : 3000 < s.length
  · refine e_region ?_
    refine wm rfl rfl ?_
    refine w_val (v_lenS Tryd.underlying23 rfl) rfl ?_
    refine w_val (v_is (v' := .bool false) (v_gtr rfl rfl) (by rw [decide_eq_false (by omega)])) rfl ?_
    refine wm rfl rfl ?_
    refine w_want rfl rfl ?_
    refine wm rfl rfl ?_
    refine w_want rfl rfl ?_
    refine w_val (v_lenS Tryd.underlying23 rfl) rfl ?_
    refine w_want rfl rfl ?_
    refine w_val (v_is (v' := .bool false) (v_gtr rfl rfl) (by rw [decide_eq_false (by omega)])) rfl ?_
    refine w_val (v_pickF rfl rfl) rfl ?_
    refine wm rfl rfl ?_
    refine w_want rfl rfl ?_
    refine wm rfl rfl ?_
    refine w_want rfl rfl ?_
    refine w_val (v_strLen Tryd.underlying9 rfl) rfl ?_
    refine w_want rfl rfl ?_
    refine w_val (v_is (v' := .bool true) (v_gtr rfl rfl) (by rw [decide_eq_true (by omega)])) rfl ?_
    refine w_val (v_pickF rfl rfl) rfl ?_
    refine w_nil ?_
    refine e_condT rfl ?_
    refine esr ?_
    refine wa rfl rfl ?_
    refine w_nil ?_
    refine e_retQ (q_ret1 rfl (.tmp rfl) ?_)
    exact fun w' hw' => ⟨rfl, hw'.res.nil⟩
  refine e_region ?_
  refine wm rfl rfl ?_
  refine w_val (v_lenS Tryd.underlying23 rfl) rfl ?_
  refine w_val (v_is (v' := .bool false) (v_gtr rfl rfl) (by rw [decide_eq_false (by omega)])) rfl ?_
  refine wm rfl rfl ?_
  refine w_want rfl rfl ?_
  refine wm rfl rfl ?_
  refine w_want rfl rfl ?_
  refine w_val (v_lenS Tryd.underlying23 rfl) rfl ?_
  refine w_want rfl rfl ?_
  refine w_val (v_is (v' := .bool false) (v_gtr rfl rfl) (by rw [decide_eq_false (by omega)])) rfl ?_
  refine w_val (v_pickF rfl rfl) rfl ?_
  refine wm rfl rfl ?_
  refine w_want rfl rfl ?_
  refine wm rfl rfl ?_
  refine w_want rfl rfl ?_
  refine w_val (v_strLen Tryd.underlying9 rfl) rfl ?_
  refine w_want rfl rfl ?_
  refine w_val (v_is (v' := .bool false) (v_gtr rfl rfl) (by rw [decide_eq_false (by omega)])) rfl ?_
  refine w_val (v_pickF rfl rfl) rfl ?_
  refine w_nil ?_
  refine e_condF rfl ?_
  have hp1 := fun (w1 : World) hw hL1 => txPrint_spec (.slice A1 d.length kp1) d w1 hw hin1 hL1
  have hp2 := fun (w1 : World) hw hL1 => txPrint_spec (.slice A2 e.length kp2) e w1 hw hin2 hL1
  have hk1 := fun h => print_ok (d := d) h
  have hk2 := fun h => print_ok (d := e) h
  generalize hpd : printS d = pd at *
  generalize hpe : printS e = pe at *
  obtain ⟨a, f0, f1⟩ := pd
  obtain ⟨b, g0, g1⟩ := pe
  dsimp only at hp1 hp2 hk1 hk2
  refine e_skip ?_
  refine esr ?_
  refine wm rfl rfl ?_
  refine w_op rfl ?_
  refine x_call0 (v := .tuple #[strV a, .agg #[.int .i64 f0, .int .i64 f1]]) rfl rfl rfl Tryd.call9 rfl (fun w hw => hp1 w (hs1.mono hw.off) (hL.chg hw.chg)) ?_
  refine wm rfl rfl ?_
  refine w_val (v_extract rfl rfl) rfl ?_
  refine w_val (v_extract rfl rfl) rfl ?_
  refine w_op rfl ?_
  refine x_alloc (z := .agg #[.int .i64 0, .int .i64 0]) (by intro w; exact Tryd.zeroValue29 w) rfl (fun b8 => ?_)
  refine wa rfl rfl ?_
  refine w_op rfl ?_
  refine x_storeA 0 rfl rfl rfl Tryd.hi29 Tryd.cz29 rfl (by first | (simp [Value.oneCell', opCells]; done) | assumption | exact one_ints _ | exact one_resCells _ _ | exact one_slotC _) ?_
  refine wsr ?_
  refine wm rfl rfl ?_
  refine w_op rfl ?_
  refine x_call0 (v := .tuple #[strV b, .agg #[.int .i64 g0, .int .i64 g1]]) rfl rfl rfl Tryd.call9 rfl (fun w hw => hp2 w (hs2.mono hw.off) (hL.chg hw.chg)) ?_
  refine wm rfl rfl ?_
  refine w_val (v_extract rfl rfl) rfl ?_
  refine w_val (v_extract rfl rfl) rfl ?_
  refine w_op rfl ?_
  refine x_alloc (z := .agg #[.int .i64 0, .int .i64 0]) (by intro w; exact Tryd.zeroValue29 w) rfl (fun b10 => ?_)
  refine wa rfl rfl ?_
  refine w_op rfl ?_
  refine x_storeA 0 rfl rfl rfl Tryd.hi29 Tryd.cz29 rfl (by first | (simp [Value.oneCell', opCells]; done) | assumption | exact one_ints _ | exact one_resCells _ _ | exact one_slotC _) ?_
  refine w_nil ?_
  refine e_seq ?_
  refine e_cutH (σ := Unit) [2] (.cons rfl .nil) (fun _ => []) (fun _ => []) (fun _ => True) ?_ ?_
  · refine esr ?_
    refine w_val (v_fieldAddrB (o := 0) Tryd.underlying29 rfl rfl Tryd.nz3 rfl) rfl ?_
    refine w_val (v_loadB 1 rfl Tryd.underlying3 rfl rfl rfl) rfl ?_
    by_cases hf : f0 = 0
    · obtain ⟨e1, hcd⟩ := hk1 hf
      injection e1 with ha e1
      have hla := printL_len (checked hcd).1 hin1
      have hback := parse_print hcd hin1
      rw [← ha] at hla hback
      have hps := fun (w1 : World) hL1 => txParse_spec a w1 (by omega) hL1
      rw [hback] at hps
      refine w_val (v_is (v' := .bool true) (v_eql rfl rfl) (by rw [decide_eq_true hf])) rfl ?_
      refine w_nil ?_
      refine e_condT rfl ?_
      refine esr ?_
      refine wm rfl rfl ?_
      refine w_op rfl ?_
      refine x_call (dst := some 49) (mc := []) (σ := Value) (fun _ => True) (fun v => .tuple #[v, .agg #[.int .i64 0, .int .i64 0]]) (fun v => [Own v 41 5 d.length (deedCells d)]) rfl rfl rfl Tryd.call11 (fun w hw => hps w (hL.chg hw.chg)) rfl (fun v _ => ?_)
      refine wm rfl rfl ?_
      refine w_val (v_extract rfl rfl) rfl ?_
      refine w_val (v_extract rfl rfl) rfl ?_
      refine w_op rfl ?_
      refine x_alloc (z := .agg #[.int .i64 0, .int .i64 0]) (by intro w; exact Tryd.zeroValue29 w) rfl (fun b12 => ?_)
      refine wa rfl rfl ?_
      refine w_op rfl ?_
      refine x_storeA 0 rfl rfl rfl Tryd.hi29 Tryd.cz29 rfl (by first | (simp [Value.oneCell', opCells]; done) | assumption | exact one_ints _ | exact one_resCells _ _ | exact one_slotC _) ?_
      refine w_nil ?_
      refine e_seq ?_
      by_cases hg : g0 = 0
      · obtain ⟨e2, hce⟩ := hk2 hg
        injection e2 with hb e2
        have hinj := print_inj hcd hce hin1 hin2
        rw [← ha, ← hb] at hinj
        refine e_region ?_
        refine w_val (v_fieldAddrB (o := 0) Tryd.underlying29 rfl rfl Tryd.nz3 rfl) rfl ?_
        refine w_val (v_loadB 0 rfl Tryd.underlying3 rfl rfl rfl) rfl ?_
        refine w_val (v_is (v' := .bool false) (v_neq rfl rfl) (by rfl)) rfl ?_
        refine wm rfl rfl ?_
        refine w_want rfl rfl ?_
        refine wm rfl rfl ?_
        refine w_want rfl rfl ?_
        refine wm rfl rfl ?_
        refine w_want rfl rfl ?_
        refine w_op rfl ?_
        refine x_call0 (v := .bool true) rfl rfl rfl Tryd.call13 rfl (fun w hw => by have := sameDeed_spec _ _ d d w (own_rds (hw.mem (i := 1) rfl)) (hs1.mono hw.off) (by omega); rwa [decide_eq_true rfl] at this) ?_
        refine w_want rfl rfl ?_
        refine w_val (v_is (v' := .bool false) (v_not rfl) (by rfl)) rfl ?_
        refine w_val (v_pickF rfl rfl) rfl ?_
        refine wm rfl rfl ?_
        refine w_want rfl rfl ?_
        refine w_val (v_fieldAddrB (o := 0) Tryd.underlying29 rfl rfl Tryd.nz3 rfl) rfl ?_
        refine w_want rfl rfl ?_
        refine w_val (v_loadB 2 rfl Tryd.underlying3 rfl rfl rfl) rfl ?_
        refine w_want rfl rfl ?_
        refine w_val (v_is (v' := .bool true) (v_eql rfl rfl) (by rw [decide_eq_true hg])) rfl ?_
        refine w_want rfl rfl ?_
        refine wm rfl rfl ?_
        refine w_want rfl rfl ?_
        refine wm rfl rfl ?_
        refine w_want rfl rfl ?_
        refine wm rfl rfl ?_
        refine w_want rfl rfl ?_
        refine w_val (v_strEql rfl rfl) rfl ?_
        refine w_want rfl rfl ?_
        refine wm rfl rfl ?_
        refine w_want rfl rfl ?_
        refine wm rfl rfl ?_
        refine w_want rfl rfl ?_
        refine w_op rfl ?_
        refine x_call0 (v := .bool (decide (d = e))) rfl rfl rfl Tryd.call13 rfl (fun w hw => sameDeed_spec _ _ d e w (hs1.mono hw.off) (hs2.mono hw.off) (by omega)) ?_
        refine w_want rfl rfl ?_
        refine w_val (v_is (v' := .bool false) (v_neqBool Tryd.underlying4 rfl rfl) (by rw [show decide (a = b) = decide (d = e) from decide_eq_decide.2 hinj]; cases decide (d = e) <;> rfl)) rfl ?_
        refine w_want rfl rfl ?_
        refine w_val (v_pickT rfl rfl) rfl ?_
        refine w_val (v_pickF rfl rfl) rfl ?_
        refine w_nil ?_
        refine e_condF rfl ?_
        refine e_skip ?_
        exact e_cutEnd (()) (trivial) (by repeat (first | exact Sub.nil _ | refine Sub.cons rfl ?_)) (fun _ hw => hw.sub (List.nil_sublist _))
      · refine e_region ?_
        refine w_val (v_fieldAddrB (o := 0) Tryd.underlying29 rfl rfl Tryd.nz3 rfl) rfl ?_
        refine w_val (v_loadB 0 rfl Tryd.underlying3 rfl rfl rfl) rfl ?_
        refine w_val (v_is (v' := .bool false) (v_neq rfl rfl) (by rfl)) rfl ?_
        refine wm rfl rfl ?_
        refine w_want rfl rfl ?_
        refine wm rfl rfl ?_
        refine w_want rfl rfl ?_
        refine wm rfl rfl ?_
        refine w_want rfl rfl ?_
        refine w_op rfl ?_
        refine x_call0 (v := .bool true) rfl rfl rfl Tryd.call13 rfl (fun w hw => by have := sameDeed_spec _ _ d d w (own_rds (hw.mem (i := 1) rfl)) (hs1.mono hw.off) (by omega); rwa [decide_eq_true rfl] at this) ?_
        refine w_want rfl rfl ?_
        refine w_val (v_is (v' := .bool false) (v_not rfl) (by rfl)) rfl ?_
        refine w_val (v_pickF rfl rfl) rfl ?_
        refine wm rfl rfl ?_
        refine w_want rfl rfl ?_
        refine w_val (v_fieldAddrB (o := 0) Tryd.underlying29 rfl rfl Tryd.nz3 rfl) rfl ?_
        refine w_want rfl rfl ?_
        refine w_val (v_loadB 2 rfl Tryd.underlying3 rfl rfl rfl) rfl ?_
        refine w_want rfl rfl ?_
        refine w_val (v_is (v' := .bool false) (v_eql rfl rfl) (by rw [decide_eq_false hg])) rfl ?_
        refine w_want rfl rfl ?_
        refine wm rfl rfl ?_
        refine w_skip rfl rfl rfl rfl ?_
        refine w_skip rfl rfl rfl rfl ?_
        refine w_skip rfl rfl rfl rfl ?_
        refine w_skip rfl rfl rfl rfl ?_
        refine w_skip rfl rfl rfl rfl ?_
        refine w_skip rfl rfl rfl rfl ?_
        refine w_skip rfl rfl rfl rfl ?_
        refine w_want rfl rfl ?_
        refine w_val (v_pickF rfl rfl) rfl ?_
        refine w_val (v_pickF rfl rfl) rfl ?_
        refine w_nil ?_
        refine e_condF rfl ?_
        refine e_skip ?_
        exact e_cutEnd (()) (trivial) (by repeat (first | exact Sub.nil _ | refine Sub.cons rfl ?_)) (fun _ hw => hw.sub (List.nil_sublist _))
    · refine w_val (v_is (v' := .bool false) (v_eql rfl rfl) (by rw [decide_eq_false hf])) rfl ?_
      refine w_nil ?_
      refine e_condF rfl ?_
      refine e_skip ?_
      exact e_cutEnd (()) (trivial) (by repeat (first | exact Sub.nil _ | refine Sub.cons rfl ?_)) (fun _ hw => hw.sub (List.nil_sublist _))
  · rintro - -
    obtain ⟨ho1, ho2, ho3⟩ := parse_out s
    have hps := fun (w1 : World) hL1 => txParse_spec s w1 (by omega) hL1
    generalize hpr : parseL s = pr at *
    obtain ⟨x, h0, h1'⟩ := pr
    dsimp only at ho1 ho2 ho3 hps
    refine esr ?_
    refine wm rfl rfl ?_
    refine w_op rfl ?_
    refine x_call (dst := some 77) (mc := []) (σ := Value) (fun _ => True) (fun v => .tuple #[v, .agg #[.int .i64 h0, .int .i64 h1']]) (fun v => [Own v 41 5 x.length (deedCells x)]) rfl rfl rfl Tryd.call11 (fun w hw => hps w (hL.chg hw.chg)) rfl (fun v _ => ?_); refine g_shape 0 rfl (fun Ax kx hvx _ => ?_); subst hvx
    refine wm rfl rfl ?_
    refine w_val (v_extract rfl rfl) rfl ?_
    refine w_val (v_extract rfl rfl) rfl ?_
    refine w_op rfl ?_
    refine x_alloc (z := .agg #[.int .i64 0, .int .i64 0]) (by intro w; exact Tryd.zeroValue29 w) rfl (fun b14 => ?_)
    refine wa rfl rfl ?_
    refine w_op rfl ?_
    refine x_storeA 0 rfl rfl rfl Tryd.hi29 Tryd.cz29 rfl (by first | (simp [Value.oneCell', opCells]; done) | assumption | exact one_ints _ | exact one_resCells _ _ | exact one_slotC _) ?_
    refine w_nil ?_
    refine e_seq ?_
    refine esr ?_
    refine w_val (v_fieldAddrB (o := 0) Tryd.underlying29 rfl rfl Tryd.nz3 rfl) rfl ?_
    refine w_val (v_loadB 0 rfl Tryd.underlying3 rfl rfl rfl) rfl ?_
    by_cases hh : h0 = 0
    · have hcx := ho2 hh
      have hlx := (checked hcx).1
      have hpx : printS x = (printL x, (0, 0)) := by unfold printS; rw [if_neg (by omega)]
      have hlp := printL_len hlx ho3
      have hback := parse_print hcx ho3
      have hpp := fun (w1 : World) (v : Value) hv hL1 => txPrint_spec v x w1 hv ho3 hL1
      rw [hpx] at hpp
      have hps2 := fun (w1 : World) hL1 => txParse_spec (printL x) w1 (by omega) hL1
      rw [hback] at hps2
      refine w_val (v_is (v' := .bool false) (v_neq rfl rfl) (by rw [decide_eq_false (fun h => h hh)])) rfl ?_
      refine w_nil ?_
      refine e_condF rfl ?_
      refine e_skip ?_
      refine esr ?_
      refine wm rfl rfl ?_
      refine w_op rfl ?_
      refine x_call0 (v := .tuple #[strV (printL x), .agg #[.int .i64 0, .int .i64 0]]) rfl rfl rfl Tryd.call9 rfl (fun w hw => hpp w _ (own_rds (hw.mem (i := 1) rfl)) (hL.chg hw.chg)) ?_
      refine wm rfl rfl ?_
      refine w_val (v_extract rfl rfl) rfl ?_
      refine w_val (v_extract rfl rfl) rfl ?_
      refine w_op rfl ?_
      refine x_alloc (z := .agg #[.int .i64 0, .int .i64 0]) (by intro w; exact Tryd.zeroValue29 w) rfl (fun b16 => ?_)
      refine wa rfl rfl ?_
      refine w_op rfl ?_
      refine x_storeA 0 rfl rfl rfl Tryd.hi29 Tryd.cz29 rfl (by first | (simp [Value.oneCell', opCells]; done) | assumption | exact one_ints _ | exact one_resCells _ _ | exact one_slotC _) ?_
      refine wsr ?_
      refine wm rfl rfl ?_
      refine w_op rfl ?_
      refine x_call (dst := some 93) (mc := []) (σ := Value) (fun _ => True) (fun v => .tuple #[v, .agg #[.int .i64 0, .int .i64 0]]) (fun v => [Own v 41 5 x.length (deedCells x)]) rfl rfl rfl Tryd.call11 (fun w hw => hps2 w (hL.chg hw.chg)) rfl (fun v2 _ => ?_)
      refine wm rfl rfl ?_
      refine w_val (v_extract rfl rfl) rfl ?_
      refine w_val (v_extract rfl rfl) rfl ?_
      refine w_op rfl ?_
      refine x_alloc (z := .agg #[.int .i64 0, .int .i64 0]) (by intro w; exact Tryd.zeroValue29 w) rfl (fun b18 => ?_)
      refine wa rfl rfl ?_
      refine w_op rfl ?_
      refine x_storeA 0 rfl rfl rfl Tryd.hi29 Tryd.cz29 rfl (by first | (simp [Value.oneCell', opCells]; done) | assumption | exact one_ints _ | exact one_resCells _ _ | exact one_slotC _) ?_
      refine w_nil ?_
      refine e_seq ?_
      refine e_region ?_
      refine w_val (v_fieldAddrB (o := 0) Tryd.underlying29 rfl rfl Tryd.nz3 rfl) rfl ?_
      refine w_val (v_loadB 2 rfl Tryd.underlying3 rfl rfl rfl) rfl ?_
      refine w_val (v_is (v' := .bool true) (v_eql rfl rfl) (by rfl)) rfl ?_
      refine wm rfl rfl ?_
      refine w_want rfl rfl ?_
      refine w_val (v_fieldAddrB (o := 0) Tryd.underlying29 rfl rfl Tryd.nz3 rfl) rfl ?_
      refine w_want rfl rfl ?_
      refine w_val (v_loadB 0 rfl Tryd.underlying3 rfl rfl rfl) rfl ?_
      refine w_want rfl rfl ?_
      refine w_val (v_is (v' := .bool true) (v_eql rfl rfl) (by rfl)) rfl ?_
      refine w_val (v_pickT rfl rfl) rfl ?_
      refine wm rfl rfl ?_
      refine w_want rfl rfl ?_
      refine wm rfl rfl ?_
      refine w_want rfl rfl ?_
      refine wm rfl rfl ?_
      refine w_want rfl rfl ?_
      refine w_op rfl ?_
      refine x_call0 (v := .bool true) rfl rfl rfl Tryd.call13 rfl (fun w hw => by have := sameDeed_spec _ _ x x w (own_rds (hw.mem (i := 4) rfl)) (own_rds (hw.mem (i := 1) rfl)) (by omega); rwa [decide_eq_true rfl] at this) ?_
      refine w_val (v_pickT rfl rfl) rfl ?_
      refine wa rfl rfl ?_
      refine w_nil ?_
      refine e_retQ (q_ret1 rfl (.tmp rfl) ?_)
      exact fun w' hw' => ⟨rfl, hw'.res.nil⟩
    · have hx0 : x.length = 0 := by rw [ho1 hh]; rfl
      refine w_val (v_is (v' := .bool true) (v_neq rfl rfl) (by rw [decide_eq_true hh])) rfl ?_
      refine w_nil ?_
      refine e_condT rfl ?_
      refine esr ?_
      refine wm rfl rfl ?_
      refine w_val (v_lenS Tryd.underlying23 rfl) rfl ?_
      refine w_val (v_is (v' := .bool true) (v_eql rfl rfl) (by rw [decide_eq_true (by omega)])) rfl ?_
      refine wa rfl rfl ?_
      refine w_nil ?_
      refine e_retQ (q_ret1 rfl (.tmp rfl) ?_)
      exact fun w' hw' => ⟨rfl, hw'.res.nil⟩
end Go.SL

