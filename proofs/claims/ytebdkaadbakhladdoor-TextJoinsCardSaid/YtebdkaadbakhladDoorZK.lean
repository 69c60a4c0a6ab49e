/- YtebdkaadbakhladDoor: part ZK of this seat's own texts. -/
import Derived.Test.YtebdkaadbakhladDoorZJ
import Derived.Test.YtebdkaadbakhladDoorP5
set_option linter.unusedVariables false
set_option linter.unusedSimpArgs false

open Go Go.Proofs Go.SL Go.RowKit
set_option maxRecDepth 100000
set_option maxHeartbeats 4000000
namespace Go.SL
theorem print_ok {d : DeedL} (h : (printS d).2.1 = 0) : printS d = (printL d, (0, 0)) ∧ (checkL d).1 = 0 := by
  unfold printS at h ⊢
  split at h
  · rename_i hc; exact absurd h hc
  · rename_i hc; rw [if_neg hc]; exact ⟨rfl, by omega⟩
theorem deedCells_app (a b : DeedL) : deedCells (a ++ b) = deedCells a ++ deedCells b := by simp [deedCells]
theorem one_deedCells (d : DeedL) : ∀ u ∈ deedCells d, u.oneCell' = true := by
  intro u hu
  obtain ⟨o, _, ho⟩ := List.mem_flatMap.1 hu
  exact one_opCells o u ho
theorem TextJoins_spec (v1 v2 : Value) (d e : DeedL) (w : World) (h1 : IsDeed w.cell? v1 d) (h2 : IsDeed w.cell? v2 e) (hin1 : ∀ o ∈ d, OpIn o) (hin2 : ∀ o ∈ e, OpIn o) (hL : LaidD w) :
    Calls Tryd.prog 6 #[v1, v2] w fun e w' => e = .returned (.bool true) ∧ Res w [] [] w' := by
  rw [← off_none w] at h1 h2
  have hs1 := h1
  have hs2 := h2
  obtain ⟨A1, kp1, rfl, hle1, hc1⟩ := h1.form
  obtain ⟨A2, kp2, rfl, hle2, hc2⟩ := h2.form
  refine enter0 (N := 85) Tryd.func6 rfl rfl rfl ?_
  refine e_seq ?_
  refine e_region ?_
  refine w_val (v_assign rfl) rfl ?_
  refine w_nil ?_
  refine e_seq ?_
  refine e_seq ?_
  refine e_region ?_
  refine w_op rfl ?_
  refine x_call0 (v := .bool true) rfl rfl rfl Tryd.call7 rfl (fun w hw => textBegun_spec w (hL.chg hw.chg)) ?_
  refine w_val (v_is (v' := .bool false) (v_not rfl) (by rfl)) rfl ?_
  refine w_nil ?_
  refine e_condF rfl ?_
  refine e_skip ?_
  refine e_seq ?_
  refine e_seq ?_
  by_cases hd : 100 < d.length
  · refine e_region ?_
    refine w_val (v_move rfl) rfl ?_
    refine w_val (v_lenS Tryd.underlying23 rfl) rfl ?_
    refine w_val (v_gtr rfl rfl) rfl ?_
    refine w_val (v_is (v' := .bool true) (v_move rfl) (by rw [decide_eq_true (by omega)])) rfl ?_
    refine w_skip rfl rfl rfl rfl ?_
    refine w_skip rfl rfl rfl rfl ?_
    refine w_skip rfl rfl rfl rfl ?_
    refine w_val (v_pickT rfl rfl) rfl ?_
    refine w_val (v_move rfl) rfl ?_
    refine w_skip rfl rfl rfl rfl ?_
    refine w_skip rfl rfl rfl rfl ?_
    refine w_skip rfl rfl rfl rfl ?_
    refine w_val (v_pickT rfl rfl) rfl ?_
    refine w_val (v_move rfl) rfl ?_
    refine w_skip rfl rfl rfl rfl ?_
    refine w_skip rfl rfl rfl rfl ?_
    refine w_skip rfl rfl rfl rfl ?_
    refine w_val (v_pickT rfl rfl) rfl ?_
    refine w_nil ?_
    refine e_condT rfl ?_
    refine e_seq ?_
    refine e_region ?_
    refine w_val (v_assign rfl) rfl ?_
    refine w_nil ?_
    refine e_retQ (q_ret1 rfl (.tmp rfl) ?_)
    exact fun w' hw' => ⟨rfl, hw'.res.nil⟩
  by_cases he : 100 < e.length
  · refine e_region ?_
    refine w_val (v_move rfl) rfl ?_
    refine w_val (v_lenS Tryd.underlying23 rfl) rfl ?_
    refine w_val (v_gtr rfl rfl) rfl ?_
    refine w_val (v_is (v' := .bool false) (v_move rfl) (by rw [decide_eq_false (by omega)])) rfl ?_
    refine w_want rfl rfl ?_
    refine w_val (v_move rfl) rfl ?_
    refine w_want rfl rfl ?_
    refine w_val (v_lenS Tryd.underlying23 rfl) rfl ?_
    refine w_want rfl rfl ?_
    refine w_val (v_is (v' := .bool true) (v_gtr rfl rfl) (by rw [decide_eq_true (by omega)])) rfl ?_
    refine w_val (v_pickF rfl rfl) rfl ?_
    refine w_val (v_move rfl) rfl ?_
    refine w_skip rfl rfl rfl rfl ?_
    refine w_skip rfl rfl rfl rfl ?_
    refine w_skip rfl rfl rfl rfl ?_
    refine w_val (v_pickT rfl rfl) rfl ?_
    refine w_val (v_move rfl) rfl ?_
    refine w_skip rfl rfl rfl rfl ?_
    refine w_skip rfl rfl rfl rfl ?_
    refine w_skip rfl rfl rfl rfl ?_
    refine w_val (v_pickT rfl rfl) rfl ?_
    refine w_nil ?_
    refine e_condT rfl ?_
    refine e_seq ?_
    refine e_region ?_
    refine w_val (v_assign rfl) rfl ?_
    refine w_nil ?_
    refine e_retQ (q_ret1 rfl (.tmp rfl) ?_)
    exact fun w' hw' => ⟨rfl, hw'.res.nil⟩
  by_cases hd0 : d.length = 0
  · refine e_region ?_
    refine w_val (v_move rfl) rfl ?_
    refine w_val (v_lenS Tryd.underlying23 rfl) rfl ?_
    refine w_val (v_gtr rfl rfl) rfl ?_
    refine w_val (v_is (v' := .bool false) (v_move rfl) (by rw [decide_eq_false (by omega)])) rfl ?_
    refine w_want rfl rfl ?_
    refine w_val (v_move rfl) rfl ?_
    refine w_want rfl rfl ?_
    refine w_val (v_lenS Tryd.underlying23 rfl) rfl ?_
    refine w_want rfl rfl ?_
    refine w_val (v_is (v' := .bool false) (v_gtr rfl rfl) (by rw [decide_eq_false (by omega)])) rfl ?_
    refine w_val (v_pickF rfl rfl) rfl ?_
    refine w_val (v_move rfl) rfl ?_
    refine w_want rfl rfl ?_
    refine w_val (v_move rfl) rfl ?_
    refine w_want rfl rfl ?_
    refine w_val (v_lenS Tryd.underlying23 rfl) rfl ?_
    refine w_want rfl rfl ?_
    refine w_val (v_is (v' := .bool true) (v_eql rfl rfl) (by rw [decide_eq_true (by omega)])) rfl ?_
    refine w_val (v_pickF rfl rfl) rfl ?_
    refine w_val (v_move rfl) rfl ?_
    refine w_skip rfl rfl rfl rfl ?_
    refine w_skip rfl rfl rfl rfl ?_
    refine w_skip rfl rfl rfl rfl ?_
    refine w_val (v_pickT rfl rfl) rfl ?_
    refine w_nil ?_
    refine e_condT rfl ?_
    refine e_seq ?_
    refine e_region ?_
    refine w_val (v_assign rfl) rfl ?_
    refine w_nil ?_
    refine e_retQ (q_ret1 rfl (.tmp rfl) ?_)
    exact fun w' hw' => ⟨rfl, hw'.res.nil⟩
  by_cases he0 : e.length = 0
  · refine e_region ?_
    refine w_val (v_move rfl) rfl ?_
    refine w_val (v_lenS Tryd.underlying23 rfl) rfl ?_
    refine w_val (v_gtr rfl rfl) rfl ?_
    refine w_val (v_is (v' := .bool false) (v_move rfl) (by rw [decide_eq_false (by omega)])) rfl ?_
    refine w_want rfl rfl ?_
    refine w_val (v_move rfl) rfl ?_
    refine w_want rfl rfl ?_
    refine w_val (v_lenS Tryd.underlying23 rfl) rfl ?_
    refine w_want rfl rfl ?_
    refine w_val (v_is (v' := .bool false) (v_gtr rfl rfl) (by rw [decide_eq_false (by omega)])) rfl ?_
    refine w_val (v_pickF rfl rfl) rfl ?_
    refine w_val (v_move rfl) rfl ?_
    refine w_want rfl rfl ?_
    refine w_val (v_move rfl) rfl ?_
    refine w_want rfl rfl ?_
    refine w_val (v_lenS Tryd.underlying23 rfl) rfl ?_
    refine w_want rfl rfl ?_
    refine w_val (v_is (v' := .bool false) (v_eql rfl rfl) (by rw [decide_eq_false (by omega)])) rfl ?_
    refine w_val (v_pickF rfl rfl) rfl ?_
    refine w_val (v_move rfl) rfl ?_
    refine w_want rfl rfl ?_
    refine w_val (v_move rfl) rfl ?_
    refine w_want rfl rfl ?_
    refine w_val (v_lenS Tryd.underlying23 rfl) rfl ?_
    refine w_want rfl rfl ?_
    refine w_val (v_is (v' := .bool true) (v_eql rfl rfl) (by rw [decide_eq_true (by omega)])) rfl ?_
    refine w_val (v_pickF rfl rfl) rfl ?_
    refine w_nil ?_
    refine e_condT rfl ?_
    refine e_seq ?_
    refine e_region ?_
    refine w_val (v_assign rfl) rfl ?_
    refine w_nil ?_
    refine e_retQ (q_ret1 rfl (.tmp rfl) ?_)
    exact fun w' hw' => ⟨rfl, hw'.res.nil⟩
  refine e_region ?_
  refine w_val (v_move rfl) rfl ?_
  refine w_val (v_lenS Tryd.underlying23 rfl) rfl ?_
  refine w_val (v_gtr rfl rfl) rfl ?_
  refine w_val (v_is (v' := .bool false) (v_move rfl) (by rw [decide_eq_false (by omega)])) rfl ?_
  refine w_want rfl rfl ?_
  refine w_val (v_move rfl) rfl ?_
  refine w_want rfl rfl ?_
  refine w_val (v_lenS Tryd.underlying23 rfl) rfl ?_
  refine w_want rfl rfl ?_
  refine w_val (v_is (v' := .bool false) (v_gtr rfl rfl) (by rw [decide_eq_false (by omega)])) rfl ?_
  refine w_val (v_pickF rfl rfl) rfl ?_
  refine w_val (v_move rfl) rfl ?_
  refine w_want rfl rfl ?_
  refine w_val (v_move rfl) rfl ?_
  refine w_want rfl rfl ?_
  refine w_val (v_lenS Tryd.underlying23 rfl) rfl ?_
  refine w_want rfl rfl ?_
  refine w_val (v_is (v' := .bool false) (v_eql rfl rfl) (by rw [decide_eq_false (by omega)])) rfl ?_
  refine w_val (v_pickF rfl rfl) rfl ?_
  refine w_val (v_move rfl) rfl ?_
  refine w_want rfl rfl ?_
  refine w_val (v_move rfl) rfl ?_
  refine w_want rfl rfl ?_
  refine w_val (v_lenS Tryd.underlying23 rfl) rfl ?_
  refine w_want rfl rfl ?_
  refine w_val (v_is (v' := .bool false) (v_eql rfl rfl) (by rw [decide_eq_false (by omega)])) rfl ?_
  refine w_val (v_pickF rfl rfl) rfl ?_
  refine w_nil ?_
  refine e_condF rfl ?_
  have hp1 := fun (w1 : World) hw hL1 => txPrint_spec (.slice A1 d.length kp1) d w1 hw hin1 hL1
  have hp2 := fun (w1 : World) hw hL1 => txPrint_spec (.slice A2 e.length kp2) e w1 hw hin2 hL1
  have hk1 := fun h => print_ok (d := d) h
  have hk2 := fun h => print_ok (d := e) h
  have hdn : d ≠ [] := fun h => by subst h; exact hd0 rfl
  have hen : e ≠ [] := fun h => by subst h; exact he0 rfl
  generalize hpd : printS d = pd at *
  generalize hpe : printS e = pe at *
  obtain ⟨a, f0, f1⟩ := pd
  obtain ⟨b, g0, g1⟩ := pe
  dsimp only at hp1 hp2 hk1 hk2
  refine e_skip ?_
  refine e_seq ?_
  refine e_region ?_
  refine w_val (v_move rfl) rfl ?_
  refine w_op rfl ?_
  refine x_call0 (v := .tuple #[strV a, .agg #[.int .i64 f0, .int .i64 f1]]) rfl rfl rfl Tryd.call9 rfl (fun w hw => hp1 w (hs1.mono hw.off) (hL.chg hw.chg)) ?_
  refine w_val (v_move rfl) rfl ?_
  refine w_val (v_extract rfl rfl) rfl ?_
  refine w_val (v_extract rfl rfl) rfl ?_
  refine w_op rfl ?_
  refine x_alloc (z := .agg #[.int .i64 0, .int .i64 0]) (by intro w; exact Tryd.zeroValue29 w) rfl (fun b6 => ?_)
  refine w_val (v_assign rfl) rfl ?_
  refine w_op rfl ?_
  refine x_storeA 0 rfl rfl rfl Tryd.hi29 Tryd.cz29 rfl (by first | (simp [Value.oneCell', opCells]; done) | assumption | exact one_ints _ | exact one_resCells _ _ | exact one_slotC _) ?_
  refine w_nil ?_
  refine e_seq ?_
  refine e_region ?_
  refine w_val (v_move rfl) rfl ?_
  refine w_op rfl ?_
  refine x_call0 (v := .tuple #[strV b, .agg #[.int .i64 g0, .int .i64 g1]]) rfl rfl rfl Tryd.call9 rfl (fun w hw => hp2 w (hs2.mono hw.off) (hL.chg hw.chg)) ?_
  refine w_val (v_move rfl) rfl ?_
  refine w_val (v_extract rfl rfl) rfl ?_
  refine w_val (v_extract rfl rfl) rfl ?_
  refine w_op rfl ?_
  refine x_alloc (z := .agg #[.int .i64 0, .int .i64 0]) (by intro w; exact Tryd.zeroValue29 w) rfl (fun b8 => ?_)
  refine w_val (v_assign rfl) rfl ?_
  refine w_op rfl ?_
  refine x_storeA 0 rfl rfl rfl Tryd.hi29 Tryd.cz29 rfl (by first | (simp [Value.oneCell', opCells]; done) | assumption | exact one_ints _ | exact one_resCells _ _ | exact one_slotC _) ?_
  refine w_nil ?_
  refine e_seq ?_
  refine e_seq ?_
  by_cases hf : f0 = 0
  · by_cases hg : g0 = 0
    · obtain ⟨e1, hcd⟩ := hk1 hf
      obtain ⟨e2, hce⟩ := hk2 hg
      injection e1 with ha e1
      injection e2 with hb e2
      have hla := printL_len (checked hcd).1 hin1
      have hlb := printL_len (checked hce).1 hin2
      have hjoin := parse_join hdn hen hcd hce hin1 hin2
      rw [← ha, ← hb] at hjoin
      rw [← ha] at hla
      rw [← hb] at hlb
      have happ := deedCells_app d e
      have hlen : (d ++ e).length = d.length + e.length := List.length_append
      have hdf := fun (w1 : World) (v : Value) hv => DeedFault_spec v (d ++ e) w1 hv
      have hps := fun (w1 : World) hL1 => txParse_spec (a ++ 59 :: b) w1 (by simp only [List.length_append, List.length_cons]; omega) hL1
      rw [hjoin] at hps
      refine e_region ?_
      refine w_val (v_fieldAddrB (o := 0) Tryd.underlying29 rfl rfl Tryd.nz3 rfl) rfl ?_
      refine w_val (v_loadB 1 rfl Tryd.underlying3 rfl rfl rfl) rfl ?_
      refine w_val (v_is (v' := .bool false) (v_neq rfl rfl) (by rw [decide_eq_false (fun h => h hf)])) rfl ?_
      refine w_val (v_move rfl) rfl ?_
      refine w_want rfl rfl ?_
      refine w_val (v_fieldAddrB (o := 0) Tryd.underlying29 rfl rfl Tryd.nz3 rfl) rfl ?_
      refine w_want rfl rfl ?_
      refine w_val (v_loadB 0 rfl Tryd.underlying3 rfl rfl rfl) rfl ?_
      refine w_want rfl rfl ?_
      refine w_val (v_is (v' := .bool false) (v_neq rfl rfl) (by rw [decide_eq_false (fun h => h hg)])) rfl ?_
      refine w_val (v_pickF rfl rfl) rfl ?_
      refine w_nil ?_
      refine e_condF rfl ?_
      refine e_skip ?_
      refine e_seq ?_
      refine e_region ?_
      refine w_val (v_assign rfl) rfl ?_
      refine w_nil ?_
      refine e_seq ?_
      refine e_region ?_
      refine w_heap (m' := [Own (.slice none 0 0) 41 5 0 [], .blk b8 29 [.int .i64 g0, .int .i64 g1], .blk b6 29 [.int .i64 f0, .int .i64 f1]]) (fun _ hw => hw.ownNil 41 5) ?_
      have hcat : (a ++ [59]) ++ b = a ++ 59 :: b := by rw [List.append_assoc]; rfl
      generalize hck : checkL (d ++ e) = ck at *
      obtain ⟨c0, c1⟩ := ck
      dsimp only at hps
      by_cases hc0 : c0 = 0
      · rw [if_neg (fun h => h hc0)] at hps
        refine w_val (v_move rfl) rfl ?_
        refine w_val (v_move rfl) rfl ?_
        refine w_op rfl ?_
        refine x_appendI (z := .agg #[.int .i64 0, .int .i64 0, .int .i64 0, .int .i64 0, .int .i64 0]) (n := 0) (xs := []) (size := 5) (bytes := 40) (k := d.length) (news := deedCells d) 0 rfl rfl rfl Tryd.underlying23 (by kernel_rfl) rfl (by decide) (fun w hw => hs1.mono hw.off) (one_deedCells d) (by omega) (by simp only [maxLen]; omega) rfl (fun v53 => ?_); rw [Nat.zero_add d.length, List.nil_append]
        refine w_val (v_move rfl) rfl ?_
        refine w_op rfl ?_
        refine x_appendI (z := .agg #[.int .i64 0, .int .i64 0, .int .i64 0, .int .i64 0, .int .i64 0]) (n := d.length) (xs := deedCells d) (size := 5) (bytes := 40) (k := e.length) (news := deedCells e) 0 rfl rfl rfl Tryd.underlying23 (by kernel_rfl) rfl (by decide) (fun w hw => hs2.mono hw.off) (one_deedCells e) (by omega) (by simp only [maxLen]; omega) rfl (fun v55 => ?_); rw [← happ, ← hlen]
        refine w_val (v_assign rfl) rfl ?_
        refine w_nil ?_
        refine e_seq ?_
        refine e_region ?_
        refine w_val (v_move rfl) rfl ?_
        refine w_val (v_strAdd rfl rfl (by simp only [List.length_append, List.length_cons, List.length_nil]; omega)) rfl ?_
        refine w_val (v_move rfl) rfl ?_
        refine w_val (v_is (v' := strV (a ++ 59 :: b)) (v_strAdd rfl rfl (by simp only [List.length_append, List.length_cons, List.length_nil]; omega)) (by rw [hcat])) rfl ?_
        refine w_op rfl ?_
        refine x_call (dst := some 61) (mc := []) (σ := Value) (fun _ => True) (fun v => .tuple #[v, .agg #[.int .i64 0, .int .i64 0]]) (fun v => [Own v 41 5 (d ++ e).length (deedCells (d ++ e))]) rfl rfl rfl Tryd.call11 (fun w hw => hps w (hL.chg hw.chg)) rfl (fun v _ => ?_)
        refine w_val (v_move rfl) rfl ?_
        refine w_val (v_extract rfl rfl) rfl ?_
        refine w_val (v_extract rfl rfl) rfl ?_
        refine w_op rfl ?_
        refine x_alloc (z := .agg #[.int .i64 0, .int .i64 0]) (by intro w; exact Tryd.zeroValue29 w) rfl (fun b11 => ?_)
        refine w_val (v_assign rfl) rfl ?_
        refine w_op rfl ?_
        refine x_storeA 0 rfl rfl rfl Tryd.hi29 Tryd.cz29 rfl (by first | (simp [Value.oneCell', opCells]; done) | assumption | exact one_ints _ | exact one_resCells _ _ | exact one_slotC _) ?_
        refine w_nil ?_
        refine e_seq ?_
        refine e_seq ?_
        refine e_region ?_
        refine w_val (v_move rfl) rfl ?_
        refine w_op rfl ?_
        refine x_call0 (v := .agg #[.int .i64 c0, .int .i64 c1]) rfl rfl rfl Tryd.call14 rfl (fun w hw => hdf w _ (own_rds (hw.mem (i := 2) rfl))) ?_
        refine w_op rfl ?_
        refine x_alloc (z := .agg #[.int .i64 0, .int .i64 0]) (by intro w; exact Tryd.zeroValue29 w) rfl (fun b12 => ?_)
        refine w_op rfl ?_
        refine x_storeA 0 rfl rfl rfl Tryd.hi29 Tryd.cz29 rfl (by first | (simp [Value.oneCell', opCells]; done) | assumption | exact one_ints _ | exact one_resCells _ _ | exact one_slotC _) ?_
        refine w_nil ?_
        refine e_seq ?_
        refine e_region ?_
        refine w_val (v_fieldAddrB (o := 0) Tryd.underlying29 rfl rfl Tryd.nz3 rfl) rfl ?_
        refine w_val (v_loadB 0 rfl Tryd.underlying3 rfl rfl rfl) rfl ?_
        refine w_val (v_is (v' := .bool false) (v_neq rfl rfl) (by rw [decide_eq_false (fun h => h hc0)])) rfl ?_
        refine w_nil ?_
        refine e_condF rfl ?_
        refine e_skip ?_
        refine e_seq ?_
        refine e_region ?_
        refine w_val (v_fieldAddrB (o := 0) Tryd.underlying29 rfl rfl Tryd.nz3 rfl) rfl ?_
        refine w_val (v_loadB 1 rfl Tryd.underlying3 rfl rfl rfl) rfl ?_
        refine w_val (v_is (v' := .bool true) (v_eql rfl rfl) (by rfl)) rfl ?_
        refine w_val (v_move rfl) rfl ?_
        refine w_want rfl rfl ?_
        refine w_val (v_move rfl) rfl ?_
        refine w_want rfl rfl ?_
        refine w_val (v_move rfl) rfl ?_
        refine w_want rfl rfl ?_
        refine w_op rfl ?_
        refine x_call0 (v := .bool true) rfl rfl rfl Tryd.call13 rfl (fun w hw => by have := sameDeed_spec _ _ (d ++ e) (d ++ e) w (own_rds (hw.mem (i := 2) rfl)) (own_rds (hw.mem (i := 3) rfl)) (by omega); rwa [decide_eq_true rfl] at this) ?_
        refine w_val (v_pickT rfl rfl) rfl ?_
        refine w_val (v_assign rfl) rfl ?_
        refine w_nil ?_
        refine e_retQ (q_ret1 rfl (.tmp rfl) ?_)
        exact fun w' hw' => ⟨rfl, hw'.res.nil⟩
      · rw [if_pos hc0] at hps
        refine w_val (v_move rfl) rfl ?_
        refine w_val (v_move rfl) rfl ?_
        refine w_op rfl ?_
        refine x_appendI (z := .agg #[.int .i64 0, .int .i64 0, .int .i64 0, .int .i64 0, .int .i64 0]) (n := 0) (xs := []) (size := 5) (bytes := 40) (k := d.length) (news := deedCells d) 0 rfl rfl rfl Tryd.underlying23 (by kernel_rfl) rfl (by decide) (fun w hw => hs1.mono hw.off) (one_deedCells d) (by omega) (by simp only [maxLen]; omega) rfl (fun v53 => ?_); rw [Nat.zero_add d.length, List.nil_append]
        refine w_val (v_move rfl) rfl ?_
        refine w_op rfl ?_
        refine x_appendI (z := .agg #[.int .i64 0, .int .i64 0, .int .i64 0, .int .i64 0, .int .i64 0]) (n := d.length) (xs := deedCells d) (size := 5) (bytes := 40) (k := e.length) (news := deedCells e) 0 rfl rfl rfl Tryd.underlying23 (by kernel_rfl) rfl (by decide) (fun w hw => hs2.mono hw.off) (one_deedCells e) (by omega) (by simp only [maxLen]; omega) rfl (fun v55 => ?_); rw [← happ, ← hlen]
        refine w_val (v_assign rfl) rfl ?_
        refine w_nil ?_
        refine e_seq ?_
        refine e_region ?_
        refine w_val (v_move rfl) rfl ?_
        refine w_val (v_strAdd rfl rfl (by simp only [List.length_append, List.length_cons, List.length_nil]; omega)) rfl ?_
        refine w_val (v_move rfl) rfl ?_
        refine w_val (v_is (v' := strV (a ++ 59 :: b)) (v_strAdd rfl rfl (by simp only [List.length_append, List.length_cons, List.length_nil]; omega)) (by rw [hcat])) rfl ?_
        refine w_op rfl ?_
        refine x_call (dst := some 61) (mc := []) (σ := Value) (fun _ => True) (fun v => .tuple #[v, .agg #[.int .i64 c0, .int .i64 c1]]) (fun v => [Own v 41 5 0 []]) rfl rfl rfl Tryd.call11 (fun w hw => hps w (hL.chg hw.chg)) rfl (fun v _ => ?_); refine g_shape 0 rfl (fun Ax kx hvx _ => ?_); subst hvx
        refine w_val (v_move rfl) rfl ?_
        refine w_val (v_extract rfl rfl) rfl ?_
        refine w_val (v_extract rfl rfl) rfl ?_
        refine w_op rfl ?_
        refine x_alloc (z := .agg #[.int .i64 0, .int .i64 0]) (by intro w; exact Tryd.zeroValue29 w) rfl (fun b11 => ?_)
        refine w_val (v_assign rfl) rfl ?_
        refine w_op rfl ?_
        refine x_storeA 0 rfl rfl rfl Tryd.hi29 Tryd.cz29 rfl (by first | (simp [Value.oneCell', opCells]; done) | assumption | exact one_ints _ | exact one_resCells _ _ | exact one_slotC _) ?_
        refine w_nil ?_
        refine e_seq ?_
        refine e_seq ?_
        refine e_region ?_
        refine w_val (v_move rfl) rfl ?_
        refine w_op rfl ?_
        refine x_call0 (v := .agg #[.int .i64 c0, .int .i64 c1]) rfl rfl rfl Tryd.call14 rfl (fun w hw => hdf w _ (own_rds (hw.mem (i := 2) rfl))) ?_
        refine w_op rfl ?_
        refine x_alloc (z := .agg #[.int .i64 0, .int .i64 0]) (by intro w; exact Tryd.zeroValue29 w) rfl (fun b12 => ?_)
        refine w_op rfl ?_
        refine x_storeA 0 rfl rfl rfl Tryd.hi29 Tryd.cz29 rfl (by first | (simp [Value.oneCell', opCells]; done) | assumption | exact one_ints _ | exact one_resCells _ _ | exact one_slotC _) ?_
        refine w_nil ?_
        refine e_seq ?_
        refine e_region ?_
        refine w_val (v_fieldAddrB (o := 0) Tryd.underlying29 rfl rfl Tryd.nz3 rfl) rfl ?_
        refine w_val (v_loadB 0 rfl Tryd.underlying3 rfl rfl rfl) rfl ?_
        refine w_val (v_is (v' := .bool true) (v_neq rfl rfl) (by rw [decide_eq_true hc0])) rfl ?_
        refine w_nil ?_
        refine e_condDT rfl (by omega) ?_
        refine e_seq ?_
        refine e_region ?_
        refine w_val (v_loadBA 1 rfl Tryd.underlying29 rfl Tryd.hi29 Tryd.cz29 rfl) rfl ?_
        refine w_val (v_loadBA 0 rfl Tryd.underlying29 rfl Tryd.hi29 Tryd.cz29 rfl) rfl ?_
        refine w_val (v_is (v' := .bool true) (v_eqlTwo (ti := 3) Tryd.underlying29 (by kernel_rfl) (by kernel_rfl) (by kernel_rfl) rfl rfl Tryd.underlying3 (o := (c0, c1)) (o' := (c0, c1)) rfl rfl) (congrArg Value.bool (decide_eq_true rfl))) rfl ?_
        refine w_val (v_move rfl) rfl ?_
        refine w_want rfl rfl ?_
        refine w_val (v_move rfl) rfl ?_
        refine w_want rfl rfl ?_
        refine w_val (v_lenS Tryd.underlying23 rfl) rfl ?_
        refine w_want rfl rfl ?_
        refine w_val (v_is (v' := .bool true) (v_eql rfl rfl) (by rfl)) rfl ?_
        refine w_val (v_pickT rfl rfl) rfl ?_
        refine w_val (v_assign rfl) rfl ?_
        refine w_nil ?_
        refine e_retQ (q_ret1 rfl (.tmp rfl) ?_)
        exact fun w' hw' => ⟨rfl, hw'.res.nil⟩
    · refine e_region ?_
      refine w_val (v_fieldAddrB (o := 0) Tryd.underlying29 rfl rfl Tryd.nz3 rfl) rfl ?_
      refine w_val (v_loadB 1 rfl Tryd.underlying3 rfl rfl rfl) rfl ?_
      refine w_val (v_is (v' := .bool false) (v_neq rfl rfl) (by rw [decide_eq_false (fun h => h hf)])) rfl ?_
      refine w_val (v_move rfl) rfl ?_
      refine w_want rfl rfl ?_
      refine w_val (v_fieldAddrB (o := 0) Tryd.underlying29 rfl rfl Tryd.nz3 rfl) rfl ?_
      refine w_want rfl rfl ?_
      refine w_val (v_loadB 0 rfl Tryd.underlying3 rfl rfl rfl) rfl ?_
      refine w_want rfl rfl ?_
      refine w_val (v_is (v' := .bool true) (v_neq rfl rfl) (by rw [decide_eq_true hg])) rfl ?_
      refine w_val (v_pickF rfl rfl) rfl ?_
      refine w_nil ?_
      refine e_condT rfl ?_
      refine e_seq ?_
      refine e_region ?_
      refine w_val (v_assign rfl) rfl ?_
      refine w_nil ?_
      refine e_retQ (q_ret1 rfl (.tmp rfl) ?_)
      exact fun w' hw' => ⟨rfl, hw'.res.nil⟩
  · refine e_region ?_
    refine w_val (v_fieldAddrB (o := 0) Tryd.underlying29 rfl rfl Tryd.nz3 rfl) rfl ?_
    refine w_val (v_loadB 1 rfl Tryd.underlying3 rfl rfl rfl) rfl ?_
    refine w_val (v_is (v' := .bool true) (v_neq rfl rfl) (by rw [decide_eq_true hf])) rfl ?_
    refine w_val (v_move rfl) rfl ?_
    refine w_skip rfl rfl rfl rfl ?_
    refine w_skip rfl rfl rfl rfl ?_
    refine w_skip rfl rfl rfl rfl ?_
    refine w_val (v_pickT rfl rfl) rfl ?_
    refine w_nil ?_
    refine e_condT rfl ?_
    refine e_seq ?_
    refine e_region ?_
    refine w_val (v_assign rfl) rfl ?_
    refine w_nil ?_
    refine e_retQ (q_ret1 rfl (.tmp rfl) ?_)
    exact fun w' hw' => ⟨rfl, hw'.res.nil⟩
end Go.SL

