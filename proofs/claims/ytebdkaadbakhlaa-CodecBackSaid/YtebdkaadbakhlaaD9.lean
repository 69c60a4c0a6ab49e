/- Ytebdkaadbakhlaa: part D9 of this seat's own texts. -/
import Derived.Test.YtebdkaadbakhlaaD8
set_option linter.unusedVariables false
set_option linter.unusedSimpArgs false
open Go Go.Proofs Go.SL
set_option maxRecDepth 100000
namespace Go.SL
theorem one_deedCells (d : DeedL) : ∀ u ∈ deedCells d, u.oneCell' = true := by
  intro u hu
  simp only [deedCells, List.mem_flatMap] at hu
  obtain ⟨o, _, hu⟩ := hu
  simp only [opCells, List.mem_cons, List.not_mem_nil, or_false] at hu
  rcases hu with rfl | rfl | rfl | rfl | rfl <;> rfl
theorem refOwn_spec (v : Value) (r : RoundL) (w : World) (h : IsRound w.cell? v r) (hr60 : r.length ≤ 60) (hb : ∀ d ∈ r, d.length ≤ 500) : Calls Try.prog 28 #[v] w
    fun e w' => ∃ s : Value × (Nat → Prop), True ∧ e = .returned s.1 ∧ Res w [] [Keep s.2 (fun c => IsRound c s.1 r)] w' := by
  rw [← off_none w] at h
  obtain ⟨A, kp, rfl, hle, hc⟩ := h.form
  refine enter0 (N := 22) Try.func28 rfl rfl rfl ?_
  refine e_seq ?_
  refine e_region ?_
  refine w_val (v_assign rfl) rfl ?_
  refine w_nil ?_
  refine e_seq ?_
  refine e_region ?_
  refine w_val (v_assign rfl) rfl ?_
  refine w_nil ?_
  refine e_seq ?_
  refine e_seq ?_
  refine e_region ?_
  refine w_val (v_assign rfl) rfl ?_
  refine w_nil ?_
  refine g_heap (m' := [Own (.slice none 0 0) 25 1 0 [], Keep (feet []) (Deeds [] [])]) (fun _ hw => (hw.keep0 (Deeds [] []) Deeds.nil).ownNil 25 1) ?_
  refine e_block ?_
  refine e_loopH (σ := Nat × Value × List Value × (Nat → Prop)) [0] (.cons rfl .nil) (fun x => [(3, x.2.1), (4, .int .i64 x.1)]) (fun x => [Own x.2.1 25 1 x.1 x.2.2.1, Keep x.2.2.2 (Deeds x.2.2.1 (r.take x.1))]) (fun x => x.1 ≤ r.length) (fun x => r.length - x.1) (0, .slice none 0 0, [], feet []) (by dsimp only; omega) (by repeat (first | exact Sub.nil _ | refine Sub.cons rfl ?_)) (fun _ hw => hw) ?_
  rintro ⟨k, vo, vs, F⟩ hk
  dsimp only at hk ⊢
  refine e_seq ?_
  refine e_seq ?_
  refine e_region ?_
  refine w_val (v_move rfl) rfl ?_
  refine w_val (v_move rfl) rfl ?_
  refine w_val (v_lenS Try.underlying40 rfl) rfl ?_
  refine w_val (v_lss rfl rfl) rfl ?_
  refine w_nil ?_
  refine e_condD rfl (fun hlt => ?_) (fun hlt => ?_)
  · have hlt' : k < r.length := by omega
    obtain ⟨ad, u, rfl, hcell, hd⟩ := hc k hlt'
    have hdb := hb r[k] (List.getElem_mem _)
    have hnext : r.take (k + 1) = r.take k ++ [r[k]] := List.take_succ_eq_append_getElem hlt'
    have hkl : (r.take k).length = k := by simp; omega
    generalize hpost : r.take (k + 1) = post at *
    generalize r.take k = pre at *
    generalize r[k] = d at *
    refine e_skip ?_
    refine e_seq ?_
    refine e_block ?_
    refine e_seq ?_
    refine e_region ?_
    refine w_val (v_assign rfl) rfl ?_
    refine w_nil ?_
    refine e_region ?_
    refine w_val (v_move rfl) rfl ?_
    refine w_val (v_move rfl) rfl ?_
    refine w_val (v_move rfl) rfl ?_
    refine w_val (v_move rfl) rfl ?_
    first | refine w_val (v_indexSB Try.underlying40 Try.hi25 Try.cz25 rfl rfl (by first | omega | decide)) rfl ?_ | refine w_val (v_indexS Try.underlying40 Try.hi25 Try.cz25 rfl rfl (by first | omega | decide)) rfl ?_
    first | refine w_val (v_loadO Try.underlying25 rfl rfl (hcell)) rfl ?_ | refine w_val (v_loadB 0 rfl Try.underlying25 rfl rfl rfl) rfl ?_ | refine w_val (v_loadB 1 rfl Try.underlying25 rfl rfl rfl) rfl ?_ | refine w_val (v_loadB 2 rfl Try.underlying25 rfl rfl rfl) rfl ?_ | refine w_val (v_loadB 3 rfl Try.underlying25 rfl rfl rfl) rfl ?_ | refine w_val (v_loadB 4 rfl Try.underlying25 rfl rfl rfl) rfl ?_ | refine w_val (v_loadB 5 rfl Try.underlying25 rfl rfl rfl) rfl ?_ | refine w_val (v_loadB 6 rfl Try.underlying25 rfl rfl rfl) rfl ?_ | refine w_val (v_loadB 7 rfl Try.underlying25 rfl rfl rfl) rfl ?_
    refine w_heap (fun _ hw => hw.ownNil 36 5) ?_
    refine w_op rfl ?_
    refine x_appendI (z := .agg #[.int .i64 0, .int .i64 0, .int .i64 0, .int .i64 0, .int .i64 0]) (n := 0) (xs := []) (size := 5) (bytes := 40) (k := d.length) (news := deedCells d) 0 rfl rfl rfl Try.underlying25 (by kernel_rfl) rfl (by decide) (fun w hw => hd.mono hw.off) (one_deedCells d) (by omega) (by simp only [maxLen]; omega) rfl (fun vd => ?_)
    refine g_shape 0 rfl fun A1 k1 hv1 hk1 => ?_
    subst hv1
    refine w_op rfl ?_
    refine x_buildSlice _ ([.slice A1 (0 + d.length) k1]) rfl (run_buildSlice Try.underlying40 Try.hi25 Try.cz25 Try.zeroValue25 rfl (by kernel_rfl)) rfl (fun b19 => ?_)
    refine w_op rfl ?_
    refine x_appendI (z := .slice none 0 0) (n := k) (xs := vs) (size := 1) (bytes := 24) (k := 1) (news := [.slice A1 (0 + d.length) k1]) 2 rfl rfl rfl Try.underlying40 (by kernel_rfl) rfl (by decide) (fun w hw => blk_rds (hw.hold _ (List.mem_cons_self ..)) rfl) (by intro u hu; simp only [List.mem_singleton] at hu; subst hu; rfl) (by omega) (by simp only [maxLen]; omega) rfl (fun vo' => ?_)
    refine w_val (v_assign rfl) rfl ?_
    refine w_nil ?_
    refine e_blk ?_
    refine e_region ?_
    refine w_val (v_move rfl) rfl ?_
    first | refine w_val (v_add rfl rfl (by omega)) rfl ?_ | refine w_val (v_addw rfl rfl) rfl ?_
    refine w_val (v_assign rfl) rfl ?_
    refine w_nil ?_
    refine e_round ((k + 1, vo', vs ++ [.slice A1 (0 + d.length) k1], feet [Own (.slice A1 (0 + d.length) k1) 36 5 (0 + d.length) (deedCells d), Keep F (Deeds vs pre)])) (by dsimp only; omega) (by dsimp only; omega) (by repeat (first | exact Sub.nil _ | refine Sub.cons rfl ?_)) (fun _ hw => ?_)
    dsimp only
    rw [hpost, hnext]
    simp only [List.set_cons_zero, List.set_cons_succ, List.nil_append] at hw
    have h5 := (hw.sub (.cons _ (List.Sublist.refl _))).perm (m' := [Own (.slice A1 (0 + d.length) k1) 36 5 (0 + d.length) (deedCells d), Keep F (Deeds vs pre), Own vo' 25 1 (k + 1) (vs ++ [.slice A1 (0 + d.length) k1])]) (.cons _ (.swap _ _ _))
    exact (h5.deedIn (Nat.zero_add _)).perm (.swap _ _ _)
  · obtain rfl : k = r.length := by omega
    refine e_exit rfl ?_
    refine e_seq ?_
    refine e_region ?_
    refine w_val (v_move rfl) rfl ?_
    refine w_val (v_assign rfl) rfl ?_
    refine w_nil ?_
    refine e_retQ (q_ret1 rfl (.tmp rfl) ?_)
    refine fun w' hw' => ⟨(vo, feet [Own vo 25 1 r.length vs, Keep F (Deeds vs r)]), trivial, rfl, ?_⟩
    rw [List.take_length] at hw'
    exact (hw'.roundIn rfl).res
theorem u64_div {n : Int} {i : Nat} : IntKind.u64.wrap n / 256 ^ i / 256 = IntKind.u64.wrap n / 256 ^ (i + 1) := by
  rw [Int.ediv_ediv_of_nonneg (Int.pow_nonneg (by decide)), Int.pow_succ]
theorem long_byte' {n : Int} (h1 : -9223372036854775808 ≤ n) (h2 : n ≤ 9223372036854775807) {i : Nat} (hi : i < 8) : IntKind.u64.wrap n / 256 ^ i % 256 = n / 256 ^ i % 256 := by
  have := long_byte h1 h2 hi
  rwa [Int.pow_mul, show (2 : Int) ^ 8 = 256 from rfl] at this
theorem long8_next (n : Int) {i : Nat} (hi : i < 8) : (long8 n).take (i + 1) = (long8 n).take i ++ [ub (n / 256 ^ i % 256)] := by
  have h1 := long8_at n hi
  have h2 : ub (n / 256 ^ i % 256) = ub (n / 256 ^ i) := by unfold ub; congr 2; omega
  rw [List.take_add_one, h1, h2]
  simp
theorem bytesOf_spec (v : Value) (r : RoundL) (w : World) (h : IsRound w.cell? v r) (hok : OkRound r) (hin : ∀ d ∈ r, ∀ o ∈ d, OpIn o) : Calls Try.prog 30 #[v] w
    fun e w' => ∃ sl, True ∧ e = .returned sl ∧ Res w [] [Own sl 5 1 (encL r).length (byteCells (encL r))] w' := by
  have h8 := hok.1
  rw [← off_none w] at h
  obtain ⟨A, kp, rfl, hle, hc⟩ := h.form
  have hcu : ∀ n : Int, IntKind.u8.wrap n = ((ub n).toNat : Int) := fun n => by rw [wrap_u8, ub_toNat]
  refine enter0 (N := 98) Try.func30 rfl rfl rfl ?_
  refine e_seq ?_
  refine e_region ?_
  refine w_val (v_assign rfl) rfl ?_
  refine w_nil ?_
  refine e_seq ?_
  refine e_region ?_
  refine w_val (v_move rfl) rfl ?_
  refine w_val (v_lenS Try.underlying40 rfl) rfl ?_
  refine w_val (v_is (v' := .int .u8 ((ub r.length).toNat : Int)) (v_conv Try.underlying5 (by rw [Try.underlying3]; rfl) rfl) (by rw [hcu])) rfl ?_
  refine w_op rfl ?_
  refine x_buildSlice _ (byteCells [ub r.length]) rfl (run_buildSlice Try.underlying58 Try.hi5 Try.cz5 Try.zeroValue5 rfl (by kernel_rfl)) rfl (fun b12 => ?_)
  refine w_val (v_assign rfl) rfl ?_
  refine w_nil ?_
  refine e_seq ?_
  refine e_seq ?_
  refine e_region ?_
  refine w_val (v_assign rfl) rfl ?_
  refine w_nil ?_
  refine g_own (size := 1) (n := 1) 0 rfl rfl (by decide) ?_
  refine e_block ?_
  refine e_loopH (σ := Nat × Value) [0] (.cons rfl .nil) (fun x => [(3, x.2), (4, .int .i64 x.1)]) (fun x => [Own x.2 5 1 (ub r.length :: encDeeds (r.take x.1)).length (byteCells (ub r.length :: encDeeds (r.take x.1)))]) (fun x => x.1 ≤ r.length) (fun x => r.length - x.1) (0, .slice (some ⟨b12, 0, none⟩) 1 1) (by dsimp only; omega) (by repeat (first | exact Sub.nil _ | refine Sub.cons rfl ?_)) (fun _ hw => hw) ?_
  rintro ⟨k, v3⟩ hk
  dsimp only at hk ⊢
  refine e_seq ?_
  refine e_seq ?_
  refine e_region ?_
  refine w_val (v_move rfl) rfl ?_
  refine w_val (v_move rfl) rfl ?_
  refine w_val (v_lenS Try.underlying40 rfl) rfl ?_
  refine w_val (v_lss rfl rfl) rfl ?_
  refine w_nil ?_
  refine e_condD rfl (fun hlt => ?_) (fun hlt => ?_)
  · have hlt' : k < r.length := by omega
    obtain ⟨ad, u, rfl, hcell, hd⟩ := hc k hlt'
    obtain ⟨A2, kp2, rfl, hle2, hc2⟩ := hd.form
    have hdok := hok.2 r[k] (List.getElem_mem _)
    have hdin := hin r[k] (List.getElem_mem _)
    have hpre := encDeeds_take k hok
    have hnext := encDeeds_at hlt'
    generalize encDeeds (r.take k) = pre at *
    generalize hpost : encDeeds (r.take (k + 1)) = post at *
    generalize r[k] = d at *
    refine e_skip ?_
    refine e_seq ?_
    refine e_block ?_
    refine e_seq ?_
    refine e_region ?_
    refine w_val (v_move rfl) rfl ?_
    refine w_val (v_move rfl) rfl ?_
    refine w_val (v_move rfl) rfl ?_
    first | refine w_val (v_indexSB Try.underlying40 Try.hi25 Try.cz25 rfl rfl (by first | omega | decide)) rfl ?_ | refine w_val (v_indexS Try.underlying40 Try.hi25 Try.cz25 rfl rfl (by first | omega | decide)) rfl ?_
    first | refine w_val (v_loadO Try.underlying25 rfl rfl (hcell)) rfl ?_ | refine w_val (v_loadB 0 rfl Try.underlying25 rfl rfl rfl) rfl ?_ | refine w_val (v_loadB 1 rfl Try.underlying25 rfl rfl rfl) rfl ?_ | refine w_val (v_loadB 2 rfl Try.underlying25 rfl rfl rfl) rfl ?_ | refine w_val (v_loadB 3 rfl Try.underlying25 rfl rfl rfl) rfl ?_ | refine w_val (v_loadB 4 rfl Try.underlying25 rfl rfl rfl) rfl ?_ | refine w_val (v_loadB 5 rfl Try.underlying25 rfl rfl rfl) rfl ?_ | refine w_val (v_loadB 6 rfl Try.underlying25 rfl rfl rfl) rfl ?_ | refine w_val (v_loadB 7 rfl Try.underlying25 rfl rfl rfl) rfl ?_
    refine w_val (v_lenS Try.underlying25 rfl) rfl ?_
    refine w_val (v_is (v' := .int .u8 ((ub d.length).toNat : Int)) (v_conv Try.underlying5 (by rw [Try.underlying3]; rfl) rfl) (by rw [hcu])) rfl ?_
    refine w_op rfl ?_
    refine x_buildSlice _ (byteCells [ub d.length]) rfl (run_buildSlice Try.underlying58 Try.hi5 Try.cz5 Try.zeroValue5 rfl (by kernel_rfl)) rfl (fun b26 => ?_)
    refine w_op rfl ?_
    refine x_appendI (z := .int .u8 0) (n := (ub r.length :: pre).length) (xs := byteCells (ub r.length :: pre)) (size := 1) (bytes := 1) (k := 1) (news := byteCells [ub d.length]) 1 rfl rfl rfl Try.underlying58 (by kernel_rfl) rfl (by decide) (fun w hw => blk_rds (hw.hold _ (List.mem_cons_self ..)) rfl) (one_byteCells _) (by simp; omega) (by simp [maxLen]; omega) rfl (fun v4 => ?_)
    refine w_val (v_assign rfl) rfl ?_
    refine w_nil ?_
    refine e_seq ?_
    refine e_region ?_
    refine w_val (v_assign rfl) rfl ?_
    refine w_nil ?_
    refine g_heap (m' := [Own v4 5 1 (ub r.length :: pre ++ [ub d.length]).length (byteCells (ub r.length :: pre ++ [ub d.length]))]) (fun _ hw => by rw [byteCells_app, List.length_append]; exact hw.sub (.cons _ (List.Sublist.refl _))) ?_
    refine e_block ?_
    refine e_loopH (σ := Nat × Value) [0, 4] (.cons rfl (.cons rfl .nil)) (fun x => [(3, x.2), (5, .int .i64 x.1)]) (fun x => [Own x.2 5 1 (ub r.length :: pre ++ [ub d.length] ++ encOps (d.take x.1)).length (byteCells (ub r.length :: pre ++ [ub d.length] ++ encOps (d.take x.1)))]) (fun x => x.1 ≤ d.length) (fun x => d.length - x.1) (0, v4) (by dsimp only; omega) (by repeat (first | exact Sub.nil _ | refine Sub.cons rfl ?_)) (fun _ hw => by simpa [encOps] using hw) ?_
    rintro ⟨j, v5⟩ hj
    dsimp only at hj ⊢
    refine e_seq ?_
    refine e_seq ?_
    refine e_region ?_
    refine w_val (v_move rfl) rfl ?_
    refine w_val (v_move rfl) rfl ?_
    refine w_val (v_move rfl) rfl ?_
    first | refine w_val (v_indexSB Try.underlying40 Try.hi25 Try.cz25 rfl rfl (by first | omega | decide)) rfl ?_ | refine w_val (v_indexS Try.underlying40 Try.hi25 Try.cz25 rfl rfl (by first | omega | decide)) rfl ?_
    first | refine w_val (v_loadO Try.underlying25 rfl rfl (hcell)) rfl ?_ | refine w_val (v_loadB 0 rfl Try.underlying25 rfl rfl rfl) rfl ?_ | refine w_val (v_loadB 1 rfl Try.underlying25 rfl rfl rfl) rfl ?_ | refine w_val (v_loadB 2 rfl Try.underlying25 rfl rfl rfl) rfl ?_ | refine w_val (v_loadB 3 rfl Try.underlying25 rfl rfl rfl) rfl ?_ | refine w_val (v_loadB 4 rfl Try.underlying25 rfl rfl rfl) rfl ?_ | refine w_val (v_loadB 5 rfl Try.underlying25 rfl rfl rfl) rfl ?_ | refine w_val (v_loadB 6 rfl Try.underlying25 rfl rfl rfl) rfl ?_ | refine w_val (v_loadB 7 rfl Try.underlying25 rfl rfl rfl) rfl ?_
    refine w_val (v_lenS Try.underlying25 rfl) rfl ?_
    refine w_val (v_lss rfl rfl) rfl ?_
    refine w_nil ?_
    refine e_condD rfl (fun hlt2 => ?_) (fun hlt2 => ?_)
    · have hlt2' : j < d.length := by omega
      obtain ⟨ad2, rfl, hop⟩ := IsDeed.cells hc2 hlt2'
      have hoOk := hdok.2 d[j] (List.getElem_mem _)
      have hoin := opIn_n (hdin d[j] (List.getElem_mem _))
      have hpre2 := encOps_take j hdok.1
      have hnext2 := encOps_at hlt2'
      generalize encOps (d.take j) = pre2 at *
      generalize hpost2 : encOps (d.take (j + 1)) = post2 at *
      generalize d[j] = o at *
      generalize hbs : ub r.length :: pre ++ [ub d.length] ++ pre2 = bs
      have hbl : bs.length ≤ 2000 := by rw [← hbs]; simp; omega
      refine e_skip ?_
      refine e_seq ?_
      refine e_block ?_
      refine e_seq ?_
      refine e_region ?_
      refine w_val (v_move rfl) rfl ?_
      refine w_val (v_move rfl) rfl ?_
      first | refine w_val (v_indexSB Try.underlying40 Try.hi25 Try.cz25 rfl rfl (by first | omega | decide)) rfl ?_ | refine w_val (v_indexS Try.underlying40 Try.hi25 Try.cz25 rfl rfl (by first | omega | decide)) rfl ?_
      first | refine w_val (v_loadO Try.underlying25 rfl rfl ((hop) _ _ rfl)) rfl ?_ | refine w_val (v_loadO Try.underlying25 rfl rfl (hcell)) rfl ?_ | refine w_val (v_loadB 0 rfl Try.underlying25 rfl rfl rfl) rfl ?_ | refine w_val (v_loadB 1 rfl Try.underlying25 rfl rfl rfl) rfl ?_ | refine w_val (v_loadB 2 rfl Try.underlying25 rfl rfl rfl) rfl ?_ | refine w_val (v_loadB 3 rfl Try.underlying25 rfl rfl rfl) rfl ?_ | refine w_val (v_loadB 4 rfl Try.underlying25 rfl rfl rfl) rfl ?_ | refine w_val (v_loadB 5 rfl Try.underlying25 rfl rfl rfl) rfl ?_ | refine w_val (v_loadB 6 rfl Try.underlying25 rfl rfl rfl) rfl ?_ | refine w_val (v_loadB 7 rfl Try.underlying25 rfl rfl rfl) rfl ?_
      refine w_val (v_move rfl) rfl ?_
      first | refine w_val (v_indexSB Try.underlying25 Try.hi36 Try.cz36 rfl rfl (by first | omega | decide)) rfl ?_ | refine w_val (v_indexS Try.underlying25 Try.hi36 Try.cz36 rfl rfl (by first | omega | decide)) rfl ?_
      first | refine w_val (v_loadON Try.underlying36 rfl Try.hi36 rfl (hop) Try.cz36) rfl ?_ | refine w_val (v_loadBA 0 rfl Try.underlying36 rfl Try.hi36 Try.cz36 rfl) rfl ?_ | refine w_val (v_loadBA 1 rfl Try.underlying36 rfl Try.hi36 Try.cz36 rfl) rfl ?_ | refine w_val (v_loadBA 2 rfl Try.underlying36 rfl Try.hi36 Try.cz36 rfl) rfl ?_ | refine w_val (v_loadBA 3 rfl Try.underlying36 rfl Try.hi36 Try.cz36 rfl) rfl ?_ | refine w_val (v_loadBA 4 rfl Try.underlying36 rfl Try.hi36 Try.cz36 rfl) rfl ?_ | refine w_val (v_loadBA 5 rfl Try.underlying36 rfl Try.hi36 Try.cz36 rfl) rfl ?_ | refine w_val (v_loadBA 6 rfl Try.underlying36 rfl Try.hi36 Try.cz36 rfl) rfl ?_ | refine w_val (v_loadBA 7 rfl Try.underlying36 rfl Try.hi36 Try.cz36 rfl) rfl ?_ | refine w_val (v_loadBN 0 rfl Try.underlying36 rfl Try.hi36 Try.cz36 rfl rfl rfl) rfl ?_ | refine w_val (v_loadBN 1 rfl Try.underlying36 rfl Try.hi36 Try.cz36 rfl rfl rfl) rfl ?_ | refine w_val (v_loadBN 2 rfl Try.underlying36 rfl Try.hi36 Try.cz36 rfl rfl rfl) rfl ?_ | refine w_val (v_loadBN 3 rfl Try.underlying36 rfl Try.hi36 Try.cz36 rfl rfl rfl) rfl ?_ | refine w_val (v_loadBN 4 rfl Try.underlying36 rfl Try.hi36 Try.cz36 rfl rfl rfl) rfl ?_ | refine w_val (v_loadBN 5 rfl Try.underlying36 rfl Try.hi36 Try.cz36 rfl rfl rfl) rfl ?_ | refine w_val (v_loadBN 6 rfl Try.underlying36 rfl Try.hi36 Try.cz36 rfl rfl rfl) rfl ?_ | refine w_val (v_loadBN 7 rfl Try.underlying36 rfl Try.hi36 Try.cz36 rfl rfl rfl) rfl ?_
      refine w_op rfl ?_
      refine x_alloc (z := .agg #[.int .i64 0, .int .i64 0, .int .i64 0, .int .i64 0, .int .i64 0]) (by intro w; exact Try.zeroValue36 w) rfl (fun b6 => ?_)
      refine w_op rfl ?_
      first | refine x_storeA 0 rfl rfl rfl Try.hi36 Try.cz36 rfl (by first | (simp [Value.oneCell', opCells]; done) | assumption | exact one_ints _ | exact one_resCells _ _) ?_ | refine x_storeA 1 rfl rfl rfl Try.hi36 Try.cz36 rfl (by first | (simp [Value.oneCell', opCells]; done) | assumption | exact one_ints _ | exact one_resCells _ _) ?_ | refine x_storeA 2 rfl rfl rfl Try.hi36 Try.cz36 rfl (by first | (simp [Value.oneCell', opCells]; done) | assumption | exact one_ints _ | exact one_resCells _ _) ?_ | refine x_storeA 3 rfl rfl rfl Try.hi36 Try.cz36 rfl (by first | (simp [Value.oneCell', opCells]; done) | assumption | exact one_ints _ | exact one_resCells _ _) ?_ | refine x_storeA 4 rfl rfl rfl Try.hi36 Try.cz36 rfl (by first | (simp [Value.oneCell', opCells]; done) | assumption | exact one_ints _ | exact one_resCells _ _) ?_ | refine x_storeA 5 rfl rfl rfl Try.hi36 Try.cz36 rfl (by first | (simp [Value.oneCell', opCells]; done) | assumption | exact one_ints _ | exact one_resCells _ _) ?_ | refine x_storeA 6 rfl rfl rfl Try.hi36 Try.cz36 rfl (by first | (simp [Value.oneCell', opCells]; done) | assumption | exact one_ints _ | exact one_resCells _ _) ?_ | refine x_storeA 7 rfl rfl rfl Try.hi36 Try.cz36 rfl (by first | (simp [Value.oneCell', opCells]; done) | assumption | exact one_ints _ | exact one_resCells _ _) ?_
      refine w_nil ?_
      refine e_seq ?_
      refine e_region ?_
      refine w_val (v_move rfl) rfl ?_
      first | refine w_val (v_fieldAddrB (o := 0) Try.underlying36 rfl rfl Try.nz3 rfl) rfl ?_ | refine w_val (v_fieldAddr (o := 0) Try.underlying36 rfl rfl Try.nz3 rfl) rfl ?_
      first | refine w_val (v_loadO Try.underlying3 rfl rfl ((hop) _ _ rfl)) rfl ?_ | refine w_val (v_loadO Try.underlying3 rfl rfl (hcell)) rfl ?_ | refine w_val (v_loadB 0 rfl Try.underlying3 rfl rfl rfl) rfl ?_ | refine w_val (v_loadB 1 rfl Try.underlying3 rfl rfl rfl) rfl ?_ | refine w_val (v_loadB 2 rfl Try.underlying3 rfl rfl rfl) rfl ?_ | refine w_val (v_loadB 3 rfl Try.underlying3 rfl rfl rfl) rfl ?_ | refine w_val (v_loadB 4 rfl Try.underlying3 rfl rfl rfl) rfl ?_ | refine w_val (v_loadB 5 rfl Try.underlying3 rfl rfl rfl) rfl ?_ | refine w_val (v_loadB 6 rfl Try.underlying3 rfl rfl rfl) rfl ?_ | refine w_val (v_loadB 7 rfl Try.underlying3 rfl rfl rfl) rfl ?_
      refine w_val (v_is (v' := .int .u8 ((ub o.kind).toNat : Int)) (v_conv Try.underlying5 (by rw [Try.underlying3]; rfl) rfl) (by rw [hcu])) rfl ?_
      refine w_op rfl ?_
      refine x_buildSlice _ (byteCells [ub o.kind]) rfl (run_buildSlice Try.underlying58 Try.hi5 Try.cz5 Try.zeroValue5 rfl (by kernel_rfl)) rfl (fun b48 => ?_)
      refine w_op rfl ?_
      refine x_appendI (z := .int .u8 0) (n := bs.length) (xs := byteCells bs) (size := 1) (bytes := 1) (k := 1) (news := byteCells [ub o.kind]) 2 rfl rfl rfl Try.underlying58 (by kernel_rfl) rfl (by decide) (fun w hw => blk_rds (hw.hold _ (List.mem_cons_self ..)) rfl) (one_byteCells _) (by omega) (by simp only [maxLen]; omega) rfl (fun v6 => ?_)
      refine w_val (v_assign rfl) rfl ?_
      refine w_nil ?_
      refine e_seq ?_
      refine e_seq ?_
      refine e_region ?_
      first | refine w_val (v_fieldAddrB (o := 0) Try.underlying36 rfl rfl Try.nz3 rfl) rfl ?_ | refine w_val (v_fieldAddr (o := 0) Try.underlying36 rfl rfl Try.nz3 rfl) rfl ?_
      first | refine w_val (v_loadO Try.underlying3 rfl rfl ((hop) _ _ rfl)) rfl ?_ | refine w_val (v_loadO Try.underlying3 rfl rfl (hcell)) rfl ?_ | refine w_val (v_loadB 0 rfl Try.underlying3 rfl rfl rfl) rfl ?_ | refine w_val (v_loadB 1 rfl Try.underlying3 rfl rfl rfl) rfl ?_ | refine w_val (v_loadB 2 rfl Try.underlying3 rfl rfl rfl) rfl ?_ | refine w_val (v_loadB 3 rfl Try.underlying3 rfl rfl rfl) rfl ?_ | refine w_val (v_loadB 4 rfl Try.underlying3 rfl rfl rfl) rfl ?_ | refine w_val (v_loadB 5 rfl Try.underlying3 rfl rfl rfl) rfl ?_ | refine w_val (v_loadB 6 rfl Try.underlying3 rfl rfl rfl) rfl ?_ | refine w_val (v_loadB 7 rfl Try.underlying3 rfl rfl rfl) rfl ?_
      refine w_val (v_neq rfl rfl) rfl ?_
      refine w_nil ?_
      refine e_condD rfl (fun hk1 => ?_) (fun hk1 => ?_)
      · have hob : 0 ≤ o.a ∧ o.a < 16 ∧ 0 ≤ o.b ∧ o.b < 16 := by
          rcases hoOk with h | h
          · exact absurd h.1 hk1
          · omega
        refine e_seq ?_
        refine e_region ?_
        refine w_val (v_move rfl) rfl ?_
        first | refine w_val (v_fieldAddrB (o := 1) Try.underlying36 rfl rfl Try.nz3 rfl) rfl ?_ | refine w_val (v_fieldAddr (o := 1) Try.underlying36 rfl rfl Try.nz3 rfl) rfl ?_
        first | refine w_val (v_loadO Try.underlying3 rfl rfl ((hop) _ _ rfl)) rfl ?_ | refine w_val (v_loadO Try.underlying3 rfl rfl (hcell)) rfl ?_ | refine w_val (v_loadB 0 rfl Try.underlying3 rfl rfl rfl) rfl ?_ | refine w_val (v_loadB 1 rfl Try.underlying3 rfl rfl rfl) rfl ?_ | refine w_val (v_loadB 2 rfl Try.underlying3 rfl rfl rfl) rfl ?_ | refine w_val (v_loadB 3 rfl Try.underlying3 rfl rfl rfl) rfl ?_ | refine w_val (v_loadB 4 rfl Try.underlying3 rfl rfl rfl) rfl ?_ | refine w_val (v_loadB 5 rfl Try.underlying3 rfl rfl rfl) rfl ?_ | refine w_val (v_loadB 6 rfl Try.underlying3 rfl rfl rfl) rfl ?_ | refine w_val (v_loadB 7 rfl Try.underlying3 rfl rfl rfl) rfl ?_
        first | refine w_val (v_fieldAddrB (o := 2) Try.underlying36 rfl rfl Try.nz3 rfl) rfl ?_ | refine w_val (v_fieldAddr (o := 2) Try.underlying36 rfl rfl Try.nz3 rfl) rfl ?_
        first | refine w_val (v_loadO Try.underlying3 rfl rfl ((hop) _ _ rfl)) rfl ?_ | refine w_val (v_loadO Try.underlying3 rfl rfl (hcell)) rfl ?_ | refine w_val (v_loadB 0 rfl Try.underlying3 rfl rfl rfl) rfl ?_ | refine w_val (v_loadB 1 rfl Try.underlying3 rfl rfl rfl) rfl ?_ | refine w_val (v_loadB 2 rfl Try.underlying3 rfl rfl rfl) rfl ?_ | refine w_val (v_loadB 3 rfl Try.underlying3 rfl rfl rfl) rfl ?_ | refine w_val (v_loadB 4 rfl Try.underlying3 rfl rfl rfl) rfl ?_ | refine w_val (v_loadB 5 rfl Try.underlying3 rfl rfl rfl) rfl ?_ | refine w_val (v_loadB 6 rfl Try.underlying3 rfl rfl rfl) rfl ?_ | refine w_val (v_loadB 7 rfl Try.underlying3 rfl rfl rfl) rfl ?_
        first | refine w_val (v_mul rfl rfl (by omega)) rfl ?_ | refine w_val (v_mulw rfl rfl) rfl ?_
        first | refine w_val (v_add rfl rfl (by omega)) rfl ?_ | refine w_val (v_addw rfl rfl) rfl ?_
        refine w_val (v_is (v' := .int .u8 ((ub (o.a + 16 * o.b)).toNat : Int)) (v_conv Try.underlying5 (by rw [Try.underlying3]; rfl) rfl) (by rw [hcu])) rfl ?_
        first | refine w_val (v_fieldAddrB (o := 3) Try.underlying36 rfl rfl Try.nz3 rfl) rfl ?_ | refine w_val (v_fieldAddr (o := 3) Try.underlying36 rfl rfl Try.nz3 rfl) rfl ?_
        first | refine w_val (v_loadO Try.underlying3 rfl rfl ((hop) _ _ rfl)) rfl ?_ | refine w_val (v_loadO Try.underlying3 rfl rfl (hcell)) rfl ?_ | refine w_val (v_loadB 0 rfl Try.underlying3 rfl rfl rfl) rfl ?_ | refine w_val (v_loadB 1 rfl Try.underlying3 rfl rfl rfl) rfl ?_ | refine w_val (v_loadB 2 rfl Try.underlying3 rfl rfl rfl) rfl ?_ | refine w_val (v_loadB 3 rfl Try.underlying3 rfl rfl rfl) rfl ?_ | refine w_val (v_loadB 4 rfl Try.underlying3 rfl rfl rfl) rfl ?_ | refine w_val (v_loadB 5 rfl Try.underlying3 rfl rfl rfl) rfl ?_ | refine w_val (v_loadB 6 rfl Try.underlying3 rfl rfl rfl) rfl ?_ | refine w_val (v_loadB 7 rfl Try.underlying3 rfl rfl rfl) rfl ?_
        refine w_val (v_is (v' := .int .u8 ((ub o.c).toNat : Int)) (v_conv Try.underlying5 (by rw [Try.underlying3]; rfl) rfl) (by rw [hcu])) rfl ?_
        refine w_op rfl ?_
        refine x_buildSlice _ (byteCells [ub (o.a + 16 * o.b), ub o.c]) rfl (run_buildSlice Try.underlying58 Try.hi5 Try.cz5 Try.zeroValue5 rfl (by kernel_rfl)) rfl (fun b64 => ?_)
        refine w_op rfl ?_
        refine x_appendI (z := .int .u8 0) (n := bs.length + 1) (xs := byteCells bs ++ byteCells [ub o.kind]) (size := 1) (bytes := 1) (k := 2) (news := byteCells [ub (o.a + 16 * o.b), ub o.c]) 3 rfl rfl rfl Try.underlying58 (by kernel_rfl) rfl (by decide) (fun w hw => blk_rds (hw.hold _ (List.mem_cons_self ..)) rfl) (one_byteCells _) (by omega) (by simp only [maxLen]; omega) rfl (fun v7 => ?_)
        refine w_val (v_assign rfl) rfl ?_
        refine w_nil ?_
        refine e_exit rfl ?_
        refine e_region ?_
        refine w_val (v_move rfl) rfl ?_
        first | refine w_val (v_add rfl rfl (by omega)) rfl ?_ | refine w_val (v_addw rfl rfl) rfl ?_
        refine w_val (v_assign rfl) rfl ?_
        refine w_nil ?_
        refine e_round ((j + 1, v7)) (by dsimp only; omega) (by dsimp only; omega) (by repeat (first | exact Sub.nil _ | refine Sub.cons rfl ?_)) (fun _ hw => ?_)
        have he : ub r.length :: pre ++ [ub d.length] ++ post2 = bs ++ [ub o.kind] ++ [ub (o.a + 16 * o.b), ub o.c] := by
          rw [← hbs, hnext2, encOp, if_neg hk1]; simp
        dsimp only
        rw [hpost2, he, byteCells_app, byteCells_app, List.length_append, List.length_append]
        simp only [List.set_cons_zero, List.set_cons_succ] at hw
        exact hw.sub (.cons _ (.cons _ (.cons _ (List.Sublist.refl _))))
      · have hk1' : o.kind = 1 := by omega
        refine e_skip ?_
        refine e_seq ?_
        refine e_region ?_
        refine w_val (v_move rfl) rfl ?_
        first | refine w_val (v_fieldAddrB (o := 1) Try.underlying36 rfl rfl Try.nz3 rfl) rfl ?_ | refine w_val (v_fieldAddr (o := 1) Try.underlying36 rfl rfl Try.nz3 rfl) rfl ?_
        first | refine w_val (v_loadO Try.underlying3 rfl rfl ((hop) _ _ rfl)) rfl ?_ | refine w_val (v_loadO Try.underlying3 rfl rfl (hcell)) rfl ?_ | refine w_val (v_loadB 0 rfl Try.underlying3 rfl rfl rfl) rfl ?_ | refine w_val (v_loadB 1 rfl Try.underlying3 rfl rfl rfl) rfl ?_ | refine w_val (v_loadB 2 rfl Try.underlying3 rfl rfl rfl) rfl ?_ | refine w_val (v_loadB 3 rfl Try.underlying3 rfl rfl rfl) rfl ?_ | refine w_val (v_loadB 4 rfl Try.underlying3 rfl rfl rfl) rfl ?_ | refine w_val (v_loadB 5 rfl Try.underlying3 rfl rfl rfl) rfl ?_ | refine w_val (v_loadB 6 rfl Try.underlying3 rfl rfl rfl) rfl ?_ | refine w_val (v_loadB 7 rfl Try.underlying3 rfl rfl rfl) rfl ?_
        refine w_val (v_is (v' := .int .u8 ((ub o.a).toNat : Int)) (v_conv Try.underlying5 (by rw [Try.underlying3]; rfl) rfl) (by rw [hcu])) rfl ?_
        refine w_op rfl ?_
        refine x_buildSlice _ (byteCells [ub o.a]) rfl (run_buildSlice Try.underlying58 Try.hi5 Try.cz5 Try.zeroValue5 rfl (by kernel_rfl)) rfl (fun b70 => ?_)
        refine w_op rfl ?_
        refine x_appendI (z := .int .u8 0) (n := bs.length + 1) (xs := byteCells bs ++ byteCells [ub o.kind]) (size := 1) (bytes := 1) (k := 1) (news := byteCells [ub o.a]) 3 rfl rfl rfl Try.underlying58 (by kernel_rfl) rfl (by decide) (fun w hw => blk_rds (hw.hold _ (List.mem_cons_self ..)) rfl) (one_byteCells _) (by omega) (by simp only [maxLen]; omega) rfl (fun v7 => ?_)
        generalize hbs2 : bs ++ [ub o.kind] ++ [ub o.a] = bs2
        refine w_val (v_assign rfl) rfl ?_
        refine w_nil ?_
        refine e_seq ?_
        refine e_region ?_
        first | refine w_val (v_fieldAddrB (o := 4) Try.underlying36 rfl rfl Try.nz2 rfl) rfl ?_ | refine w_val (v_fieldAddr (o := 4) Try.underlying36 rfl rfl Try.nz2 rfl) rfl ?_
        first | refine w_val (v_loadO Try.underlying2 rfl rfl ((hop) _ _ rfl)) rfl ?_ | refine w_val (v_loadO Try.underlying2 rfl rfl (hcell)) rfl ?_ | refine w_val (v_loadB 0 rfl Try.underlying2 rfl rfl rfl) rfl ?_ | refine w_val (v_loadB 1 rfl Try.underlying2 rfl rfl rfl) rfl ?_ | refine w_val (v_loadB 2 rfl Try.underlying2 rfl rfl rfl) rfl ?_ | refine w_val (v_loadB 3 rfl Try.underlying2 rfl rfl rfl) rfl ?_ | refine w_val (v_loadB 4 rfl Try.underlying2 rfl rfl rfl) rfl ?_ | refine w_val (v_loadB 5 rfl Try.underlying2 rfl rfl rfl) rfl ?_ | refine w_val (v_loadB 6 rfl Try.underlying2 rfl rfl rfl) rfl ?_ | refine w_val (v_loadB 7 rfl Try.underlying2 rfl rfl rfl) rfl ?_
        refine w_val (v_is (v' := .int .u64 (IntKind.u64.wrap o.n / 256 ^ 0)) (v_conv Try.underlying97 (by rw [Try.underlying2]; rfl) rfl) (by simp)) rfl ?_
        refine w_val (v_assign rfl) rfl ?_
        refine w_nil ?_
        refine e_seq ?_
        refine e_region ?_
        refine w_val (v_assign rfl) rfl ?_
        refine w_nil ?_
        refine g_heap (m' := [Own v7 5 1 bs2.length (byteCells bs2)]) (fun _ hw => by
          rw [← hbs2, byteCells_app, byteCells_app, List.length_append, List.length_append]
          simp only [List.set_cons_zero, List.set_cons_succ] at hw
          exact hw.sub (.cons _ (.cons _ (.cons _ (List.Sublist.refl _))))) ?_
        have hbl2 : bs2.length ≤ 2002 := by rw [← hbs2]; simp; omega
        refine e_block ?_
        refine e_loopH (σ := Nat × Value) [0, 4, 5] (.cons rfl (.cons rfl (.cons rfl .nil))) (fun x => [(3, x.2), (7, .int .u64 (IntKind.u64.wrap o.n / 256 ^ x.1)), (8, .int .i64 x.1)]) (fun x => [Own x.2 5 1 (bs2 ++ (long8 o.n).take x.1).length (byteCells (bs2 ++ (long8 o.n).take x.1))]) (fun x => x.1 ≤ 8) (fun x => 8 - x.1) (0, v7) (by dsimp only; omega) (by repeat (first | exact Sub.nil _ | refine Sub.cons rfl ?_)) (fun _ hw => by simpa using hw) ?_
        rintro ⟨i, v8⟩ hi
        dsimp only at hi ⊢
        refine e_seq ?_
        refine e_seq ?_
        refine e_region ?_
        refine w_val (v_move rfl) rfl ?_
        refine w_val (v_lss rfl rfl) rfl ?_
        refine w_nil ?_
        refine e_condD rfl (fun hlt3 => ?_) (fun hlt3 => ?_)
        · have hlt3' : i < 8 := by omega
          have hbyte := long_byte' hoin.1 hoin.2 hlt3'
          have hnn : 0 ≤ IntKind.u64.wrap o.n / 256 ^ i := Int.ediv_nonneg (u64_nonneg _) (Int.pow_nonneg (by decide))
          have hnl : IntKind.u64.wrap o.n / 256 ^ i ≤ IntKind.u64.wrap o.n := Int.ediv_le_self _ (u64_nonneg _)
          have hnu : IntKind.u64.wrap o.n < 18446744073709551616 := by simp [IntKind.wrap, IntKind.bits, IntKind.signed]; omega
          have hn3 := long8_next o.n hlt3'
          have htl : (bs2 ++ (long8 o.n).take i).length ≤ 2010 := by simp; omega
          generalize hpost3 : (long8 o.n).take (i + 1) = post3 at *
          have hdiv := u64_div (n := o.n) (i := i)
          generalize hbs3 : bs2 ++ (long8 o.n).take i = bs3 at *
          refine e_skip ?_
          refine e_seq ?_
          refine e_block ?_
          refine e_seq ?_
          refine e_region ?_
          refine w_val (v_move rfl) rfl ?_
          refine w_val (v_move rfl) rfl ?_
          refine w_val (v_is (v' := .int .u64 (o.n / 256 ^ i % 256)) (v_rem rfl rfl (by decide)) (by rw [Int.tmod_eq_emod_of_nonneg hnn, hbyte])) rfl ?_
          refine w_val (v_is (v' := .int .u8 ((ub (o.n / 256 ^ i % 256)).toNat : Int)) (v_conv Try.underlying5 (by rw [Try.underlying97]; rfl) rfl) (by rw [hcu])) rfl ?_
          refine w_op rfl ?_
          refine x_buildSlice _ (byteCells [ub (o.n / 256 ^ i % 256)]) rfl (run_buildSlice Try.underlying58 Try.hi5 Try.cz5 Try.zeroValue5 rfl (by kernel_rfl)) rfl (fun b83 => ?_)
          refine w_op rfl ?_
          refine x_appendI (z := .int .u8 0) (n := bs3.length) (xs := byteCells bs3) (size := 1) (bytes := 1) (k := 1) (news := byteCells [ub (o.n / 256 ^ i % 256)]) 1 rfl rfl rfl Try.underlying58 (by kernel_rfl) rfl (by decide) (fun w hw => blk_rds (hw.hold _ (List.mem_cons_self ..)) rfl) (one_byteCells _) (by omega) (by simp only [maxLen]; omega) rfl (fun v9 => ?_)
          refine w_val (v_assign rfl) rfl ?_
          refine w_nil ?_
          refine e_region ?_
          refine w_val (v_move rfl) rfl ?_
          refine w_val (v_is (v' := .int .u64 (IntKind.u64.wrap o.n / 256 ^ (i + 1))) (v_quo rfl rfl (by decide)) (by rw [Int.tdiv_eq_ediv_of_nonneg hnn, hdiv, wrap_u64 (by omega) (by omega)])) rfl ?_
          refine w_val (v_assign rfl) rfl ?_
          refine w_nil ?_
          refine e_blk ?_
          refine e_region ?_
          refine w_val (v_move rfl) rfl ?_
          first | refine w_val (v_add rfl rfl (by omega)) rfl ?_ | refine w_val (v_addw rfl rfl) rfl ?_
          refine w_val (v_assign rfl) rfl ?_
          refine w_nil ?_
          refine e_round ((i + 1, v9)) (by dsimp only; omega) (by dsimp only; omega) (by repeat (first | exact Sub.nil _ | refine Sub.cons rfl ?_)) (fun _ hw => ?_)
          have he : bs2 ++ post3 = bs3 ++ [ub (o.n / 256 ^ i % 256)] := by rw [hn3, ← hbs3]; simp
          dsimp only
          rw [hpost3, he, byteCells_app, List.length_append]
          simp only [List.set_cons_zero, List.set_cons_succ] at hw
          exact hw.sub (.cons _ (List.Sublist.refl _))
        · obtain rfl : i = 8 := by omega
          have he : bs2 ++ (long8 o.n).take 8 = ub r.length :: pre ++ [ub d.length] ++ post2 := by
            rw [show (long8 o.n).take 8 = long8 o.n from rfl, ← hbs2, ← hbs, hnext2, encOp, if_pos hk1']; simp
          rw [he]
          refine e_exit rfl ?_
          refine e_blk ?_
          refine e_region ?_
          refine w_val (v_move rfl) rfl ?_
          first | refine w_val (v_add rfl rfl (by omega)) rfl ?_ | refine w_val (v_addw rfl rfl) rfl ?_
          refine w_val (v_assign rfl) rfl ?_
          refine w_nil ?_
          refine e_round ((j + 1, v8)) (by dsimp only; omega) (by dsimp only; omega) (by repeat (first | exact Sub.nil _ | refine Sub.cons rfl ?_)) (fun _ hw => ?_)
          dsimp only
          rw [hpost2]
          exact hw
    · obtain rfl : j = d.length := by omega
      have he : ub r.length :: pre ++ [ub d.length] ++ encOps (d.take d.length) = ub r.length :: post := by
        rw [hnext, List.take_length, encDeed]; simp
      rw [he]
      refine e_exit rfl ?_
      refine e_blk ?_
      refine e_region ?_
      refine w_val (v_move rfl) rfl ?_
      first | refine w_val (v_add rfl rfl (by omega)) rfl ?_ | refine w_val (v_addw rfl rfl) rfl ?_
      refine w_val (v_assign rfl) rfl ?_
      refine w_nil ?_
      refine e_round ((k + 1, v5)) (by dsimp only; omega) (by dsimp only; omega) (by repeat (first | exact Sub.nil _ | refine Sub.cons rfl ?_)) (fun _ hw => ?_)
      dsimp only
      rw [hpost]
      exact hw
  · obtain rfl : k = r.length := by omega
    have he : ub r.length :: encDeeds (r.take r.length) = encBody r := by rw [List.take_length, encBody]
    rw [he]
    have hbl := encBody_len hok
    refine g_shape 0 rfl fun A1 k1 hv1 hk1 => ?_
    subst hv1
    refine e_exit rfl ?_
    refine e_seq ?_
    refine e_region ?_
    refine w_val (v_move rfl) rfl ?_
    refine w_val (v_lenS Try.underlying58 rfl) rfl ?_
    refine w_val (v_is (v' := .int .i64 (((encBody r).length : Int) % 256)) (v_rem rfl rfl (by decide)) (by rw [Int.tmod_eq_emod_of_nonneg (by omega)])) rfl ?_
    refine w_val (v_is (v' := .int .u8 ((ub (encBody r).length).toNat : Int)) (v_conv Try.underlying5 (by rw [Try.underlying3]; rfl) rfl) (by rw [wrap_u8, ub_toNat]; congr 1; omega)) rfl ?_
    refine w_val (v_move rfl) rfl ?_
    refine w_val (v_lenS Try.underlying58 rfl) rfl ?_
    refine w_val (v_is (v' := .int .i64 (((encBody r).length : Int) / 256)) (v_quo rfl rfl (by decide)) (by rw [Int.tdiv_eq_ediv_of_nonneg (by omega), wrap_i64 (by omega) (by omega)])) rfl ?_
    refine w_val (v_is (v' := .int .u8 ((ub (((encBody r).length : Int) / 256)).toNat : Int)) (v_conv Try.underlying5 (by rw [Try.underlying3]; rfl) rfl) (by rw [wrap_u8, ub_toNat])) rfl ?_
    refine w_op rfl ?_
    refine x_buildSlice _ (byteCells [ub (encBody r).length, ub (((encBody r).length : Int) / 256)]) rfl (run_buildSlice Try.underlying58 Try.hi5 Try.cz5 Try.zeroValue5 rfl (by kernel_rfl)) rfl (fun b95 => ?_)
    refine w_val (v_move rfl) rfl ?_
    refine g_own (size := 1) (n := 2) 0 rfl rfl (by decide) ?_
    refine w_op rfl ?_
    refine x_appendI (z := .int .u8 0) (n := 2) (xs := byteCells [ub (encBody r).length, ub (((encBody r).length : Int) / 256)]) (size := 1) (bytes := 1) (k := (encBody r).length) (news := byteCells (encBody r)) 0 rfl rfl rfl Try.underlying58 (by kernel_rfl) rfl (by decide) (fun w hw => own_rds (hw.mem (i := 1) rfl)) (one_byteCells _) (by omega) (by simp only [maxLen]; omega) rfl (fun v' => ?_)
    refine w_val (v_assign rfl) rfl ?_
    refine w_nil ?_
    refine e_retQ (q_ret1 rfl (.tmp rfl) ?_)
    refine fun w' hw' => ⟨v', trivial, rfl, ?_⟩
    have e1 : (encL r).length = 2 + (encBody r).length := by rw [encL_len]; omega
    have e2 : byteCells (encL r) = byteCells [ub (encBody r).length, ub (((encBody r).length : Int) / 256)] ++ byteCells (encBody r) := by rw [← byteCells_app]; rfl
    rw [e1, e2]
    exact (hw'.sub (.cons_cons _ (List.nil_sublist _))).res
end Go.SL
