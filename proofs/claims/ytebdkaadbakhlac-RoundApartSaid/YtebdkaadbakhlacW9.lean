/- Ytebdkaadbakhlac: part W9 of this seat's own texts. -/
import Derived.Test.YtebdkaadbakhlacW7
import Derived.Test.YtebdkaadbakhlacP3
set_option linter.unusedVariables false
set_option linter.unusedSimpArgs false

open Go Go.Proofs Go.SL
set_option maxRecDepth 100000
namespace Go.SL
theorem refOwnW_spec (v : Value) (r : RoundL) (w : World) (h : IsRound w.cell? v r) (hr60 : r.length ≤ 60) (hb : ∀ d ∈ r, d.length ≤ 500) : Calls Try.prog 28 #[v] w
    fun e w' => ∃ s : (Option Addr × Nat) × List Value × (Nat → Prop), True ∧ e = .returned (.slice s.1.1 r.length s.1.2) ∧ Res w [] [Own (.slice s.1.1 r.length s.1.2) 25 1 r.length s.2.1, Blob s.2.2 (DeedsB s.2.1 r)] w' := by
  rw [← off_none w] at h
  obtain ⟨A, kp, rfl, hle, hc⟩ := h.form
  refine enter0 (N := 22) Try.func28 rfl rfl rfl ?_
  refine e_seq ?_
  refine e_region ?_
  refine w_val (v_assign rfl) rfl ?_
  refine w_nil ?_
  refine e_seq ?_
  refine e_region ?_
  refine w_val (v_assign rfl) rfl ?_
  refine w_nil ?_
  refine e_seq ?_
  refine e_seq ?_
  refine e_region ?_
  refine w_val (v_assign rfl) rfl ?_
  refine w_nil ?_
  refine g_heap (m' := [Own (.slice none 0 0) 25 1 0 [], Blob (feet []) (DeedsB [] [])]) (fun _ hw => hw.blob0.ownNil 25 1) ?_
  refine e_block ?_
  refine e_loopH (σ := Nat × Value × List Value × (Nat → Prop)) [0] (.cons rfl .nil) (fun x => [(3, x.2.1), (4, .int .i64 x.1)]) (fun x => [Own x.2.1 25 1 x.1 x.2.2.1, Blob x.2.2.2 (DeedsB x.2.2.1 (r.take x.1))]) (fun x => x.1 ≤ r.length) (fun x => r.length - x.1) (0, .slice none 0 0, [], feet []) (by dsimp only; omega) (by repeat (first | exact Sub.nil _ | refine Sub.cons rfl ?_)) (fun _ hw => hw) ?_
  rintro ⟨k, vo, vs, F⟩ hk
  dsimp only at hk ⊢
  refine e_seq ?_
  refine e_seq ?_
  refine e_region ?_
  refine w_val (v_move rfl) rfl ?_
  refine w_val (v_move rfl) rfl ?_
  refine w_val (v_lenS Try.underlying38 rfl) rfl ?_
  refine w_val (v_lss rfl rfl) rfl ?_
  refine w_nil ?_
  refine e_condD rfl (fun hlt => ?_) (fun hlt => ?_)
  · have hlt' : k < r.length := by omega
    obtain ⟨ad, u, rfl, hcell, hd⟩ := hc k hlt'
    have hdb := hb r[k] (List.getElem_mem _)
    have hnext : r.take (k + 1) = r.take k ++ [r[k]] := List.take_succ_eq_append_getElem hlt'
    have hkl : (r.take k).length = k := by simp; omega
    generalize hpost : r.take (k + 1) = post at *
    generalize r.take k = pre at *
    generalize r[k] = d at *
    refine e_skip ?_
    refine e_seq ?_
    refine e_block ?_
    refine e_seq ?_
    refine e_region ?_
    refine w_val (v_assign rfl) rfl ?_
    refine w_nil ?_
    refine e_region ?_
    refine w_val (v_move rfl) rfl ?_
    refine w_val (v_move rfl) rfl ?_
    refine w_val (v_move rfl) rfl ?_
    refine w_val (v_move rfl) rfl ?_
    refine w_val (v_indexS Try.underlying38 Try.hi25 Try.cz25 rfl rfl (by first | omega | decide)) rfl ?_
    refine w_val (v_loadO Try.underlying25 rfl rfl (hcell)) rfl ?_
    refine w_heap (fun _ hw => hw.ownNil 118 5) ?_
    refine w_op rfl ?_
    refine x_appendIS (z := .agg #[.int .i64 0, .int .i64 0, .int .i64 0, .int .i64 0, .int .i64 0]) (n := 0) (xs := []) (size := 5) (bytes := 40) (k := d.length) (news := deedCells d) 0 rfl rfl rfl Try.underlying25 (by kernel_rfl) rfl (by decide) (fun w hw => hd.mono hw.off) (one_deedCells d) (by omega) (by simp only [maxLen]; omega) rfl (fun A1 k1 hk1 => ?_)
    refine w_op rfl ?_
    refine x_buildSlice _ ([.slice A1 (0 + d.length) k1]) rfl (run_buildSlice Try.underlying38 Try.hi25 Try.cz25 Try.zeroValue25 rfl (by kernel_rfl)) rfl (fun b19 => ?_)
    refine w_op rfl ?_
    refine x_appendI (z := .slice none 0 0) (n := k) (xs := vs) (size := 1) (bytes := 24) (k := 1) (news := [.slice A1 (0 + d.length) k1]) 2 rfl rfl rfl Try.underlying38 (by kernel_rfl) rfl (by decide) (fun w hw => blk_rds (hw.hold _ (List.mem_cons_self ..)) rfl) (by intro u hu; simp only [List.mem_singleton] at hu; subst hu; rfl) (by omega) (by simp only [maxLen]; omega) rfl (fun vo' => ?_)
    refine w_val (v_assign rfl) rfl ?_
    refine w_nil ?_
    refine e_blk ?_
    refine e_region ?_
    refine w_val (v_move rfl) rfl ?_
    refine w_val (v_add rfl rfl (by omega)) rfl ?_
    refine w_val (v_assign rfl) rfl ?_
    refine w_nil ?_
    refine e_round ((k + 1, vo', vs ++ [.slice A1 (0 + d.length) k1], feet [Own (.slice A1 (0 + d.length) k1) 118 5 (0 + d.length) (deedCells d), Blob F (DeedsB vs pre)])) (by dsimp only; omega) (by dsimp only; omega) (by repeat (first | exact Sub.nil _ | refine Sub.cons rfl ?_)) (fun _ hw => ?_)
    dsimp only
    rw [hpost, hnext]
    simp only [List.set_cons_zero, List.set_cons_succ, List.nil_append] at hw
    have h5 := (hw.sub (.cons _ (List.Sublist.refl _))).perm (m' := [Own (.slice A1 (0 + d.length) k1) 118 5 (0 + d.length) (deedCells d), Blob F (DeedsB vs pre), Own vo' 25 1 (k + 1) (vs ++ [Value.slice A1 (0 + d.length) k1])]) (.cons _ (.swap _ _ _))
    exact (h5.blobIn (Nat.zero_add _)).perm (.swap _ _ _)
  · obtain rfl : k = r.length := by omega
    refine g_shape 0 rfl fun A2 k2 hv2 hk2 => ?_
    subst hv2
    refine e_exit rfl ?_
    refine e_seq ?_
    refine e_region ?_
    refine w_val (v_move rfl) rfl ?_
    refine w_val (v_assign rfl) rfl ?_
    refine w_nil ?_
    refine e_retQ (q_ret1 rfl (.tmp rfl) ?_)
    refine fun w' hw' => ⟨((A2, k2), vs, F), trivial, rfl, ?_⟩
    rw [List.take_length] at hw'
    exact hw'.res
end Go.SL

