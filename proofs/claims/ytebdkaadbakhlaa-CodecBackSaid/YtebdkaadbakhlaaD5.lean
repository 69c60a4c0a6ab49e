/- Ytebdkaadbakhlaa: part D5 of this seat's own texts. -/
import Derived.Test.YtebdkaadbakhlaaD4
import Derived.Test.YtebdkaadbakhlaaMo4
set_option linter.unusedVariables false
set_option linter.unusedSimpArgs false
open Go Go.Proofs Go.SL
set_option maxRecDepth 100000
namespace Go.SL
theorem readerRound_spec (b : Nat) (v : Value) (bs : List UInt8) (w : World) (hb : (rdB b v).holds w) (h : IsBytes (ofb w b) v bs) :
    Calls Try.prog 65 #[.pointer (some ⟨b, 0, none⟩)] w fun e w' =>
      (∃ s : Value × Value × RoundL × List UInt8 × (Nat → Prop), (getRound bs = some (s.2.2.1, s.2.2.2.1) ∧ Tail v bs s.1 s.2.2.2.1) ∧ e = .returned s.2.1 ∧ Res w [rdB b v] [rdB b s.1, Keep s.2.2.2.2 (fun c => IsRound c s.2.1 s.2.2.1)] w') ∨
      (∃ _u : Unit, getRound bs = none ∧ e = .panicked [{ v := gone3, recovered := false }] ∧ Res w [rdB b v] [] w') := by
  rw [ofb_eq w b 112 [v]] at h
  refine enter (mc := [rdB b v]) (N := 25) Try.func65 rfl rfl rfl ?_ ?_ ?_
  · intro c hc; simp only [List.mem_singleton] at hc; subst hc; exact hb
  · simp
  refine e_seq ?_
  refine e_region ?_
  refine w_val (v_assign rfl) rfl ?_
  refine w_nil ?_
  refine e_seq ?_
  refine e_region ?_
  refine w_val (v_assign rfl) rfl ?_
  refine w_nil ?_
  refine e_seq ?_
  refine e_seq ?_
  refine e_region ?_
  refine w_val (v_move rfl) rfl ?_
  refine w_op rfl ?_
  refine x_callP (dst := some 6) (mc := [rdB b v]) (mr := []) (σ := Value × UInt8 × List UInt8) (τ := Unit) (fun s => bs = s.2.1 :: s.2.2 ∧ Tail v bs s.1 s.2.2) (fun s => .int .i64 (s.2.1.toNat : Int)) (fun s => [rdB b s.1]) (fun _ => bs = []) (fun _ => gone3) (fun _ => []) rfl rfl rfl Try.call68 (fun w hw => readerByte_spec b v bs w (hw.mem (i := 0) rfl) (h.mono (hw.ofb 0 rfl))) rfl (fun _ hn => g_panic (q_panic fun w' hw' => .inr ⟨(), by rw [hn]; rfl, rfl, hw'.res.nil⟩)) ?_
  rintro ⟨v1, nb, b1⟩ ⟨rfl, ht1⟩
  dsimp only at ht1 ⊢
  have hn8 := nb.toNat_lt
  have h1 := ht1 _ h
  generalize hN : nb.toNat = N at *
  have hgr : getRound (nb :: b1) = getDeeds N b1 := by simp only [getRound, hN]
  rw [hgr]
  refine w_val (v_move rfl) rfl ?_
  refine w_nil ?_
  refine g_heap (m' := [rdB b v1, Own (.slice none 0 0) 25 1 0 [], Keep (feet []) (Deeds [] [])]) (fun _ hw => ((hw.keep0 (Deeds [] []) Deeds.nil).ownNil 25 1).perm ?_) ?_
  · exact (List.perm_append_comm (l₁ := [_, _]) (l₂ := [_]))
  refine e_block ?_
  refine e_loopH (σ := Nat × Value × Value × List Value × RoundL × List UInt8 × (Nat → Prop)) [0, 6] (.cons rfl (.cons rfl .nil)) (fun x => [(3, x.2.2.1), (7, .int .i64 x.1)]) (fun x => [rdB b x.2.1, Own x.2.2.1 25 1 x.1 x.2.2.2.1, Keep x.2.2.2.2.2.2 (Deeds x.2.2.2.1 x.2.2.2.2.1)]) (fun x => x.1 ≤ N ∧ x.2.2.2.2.1.length = x.1 ∧ Tail v1 b1 x.2.1 x.2.2.2.2.2.1 ∧ getDeeds N b1 = (getDeeds (N - x.1) x.2.2.2.2.2.1).map (fun p => (x.2.2.2.2.1 ++ p.1, p.2))) (fun x => N - x.1) (0, v1, .slice none 0 0, [], [], b1, feet []) ⟨by dsimp only; omega, rfl, Tail.refl _ _, by dsimp only; cases getDeeds N b1 <;> simp⟩ (by repeat (first | exact Sub.nil _ | refine Sub.cons rfl ?_)) (fun _ hw => hw) ?_
  rintro ⟨k, v2, vo, vs, r, rest, F⟩ ⟨hk, hrl, ht2, hrel⟩
  dsimp only at hk hrl ht2 hrel ⊢
  have h2 := ht2 _ h1
  refine e_seq ?_
  refine e_region ?_
  refine w_val (v_lss rfl rfl) rfl ?_
  refine w_nil ?_
  refine e_seq ?_
  refine e_condD rfl (fun hlt => ?_) (fun hlt => ?_)
  · have hlt' : k < N := by omega
    refine e_skip ?_
    refine e_seq ?_
    refine e_block ?_
    refine e_seq ?_
    refine e_region ?_
    refine w_val (v_assign rfl) rfl ?_
    refine w_nil ?_
    refine e_seq ?_
    refine e_seq ?_
    refine e_region ?_
    refine w_val (v_move rfl) rfl ?_
    refine w_op rfl ?_
    refine x_callP (dst := some 10) (mc := [rdB b v2]) (mr := [_, _]) (σ := Value × UInt8 × List UInt8) (τ := Unit) (fun s => rest = s.2.1 :: s.2.2 ∧ Tail v2 rest s.1 s.2.2) (fun s => .int .i64 (s.2.1.toNat : Int)) (fun s => [rdB b s.1]) (fun _ => rest = []) (fun _ => gone3) (fun _ => []) rfl rfl rfl Try.call68 (fun w hw => readerByte_spec b v2 rest w (hw.mem (i := 0) rfl) (h2.mono (hw.ofb 0 rfl))) rfl (fun _ hn => g_panic (q_panic fun w' hw' => .inr ⟨(), by rw [hrel, hn, getDeeds_none hlt' rfl]; rfl, rfl, hw'.res.nil⟩)) ?_
    rintro ⟨v3, mb, b3⟩ ⟨rfl, ht3⟩
    dsimp only at ht3 ⊢
    have hm8 := mb.toNat_lt
    have h3 := ht3 _ h2
    generalize hM : mb.toNat = M at *
    have hgd : getDeed (mb :: b3) = getOps M b3 := by simp only [getDeed, hM]
    refine w_val (v_move rfl) rfl ?_
    refine w_nil ?_
    refine g_heap (m' := [rdB b v3, Own (.slice none 0 0) 36 5 0 [], Own vo 25 1 k vs, Keep F (Deeds vs r)]) (fun _ hw => (hw.ownNil 36 5).perm (.swap _ _ _)) ?_
    refine e_block ?_
    refine e_loopH (σ := Nat × Value × Value × DeedL × List UInt8) [0, 3, 6, 7, 10] (.cons rfl (.cons rfl (.cons rfl (.cons rfl (.cons rfl .nil))))) (fun x => [(4, x.2.2.1), (11, .int .i64 x.1)]) (fun x => [rdB b x.2.1, Own x.2.2.1 36 5 x.1 (deedCells x.2.2.2.1), Own vo 25 1 k vs, Keep F (Deeds vs r)]) (fun x => x.1 ≤ M ∧ x.2.2.2.1.length = x.1 ∧ Tail v3 b3 x.2.1 x.2.2.2.2 ∧ getOps M b3 = (getOps (M - x.1) x.2.2.2.2).map (fun p => (x.2.2.2.1 ++ p.1, p.2))) (fun x => M - x.1) (0, v3, .slice none 0 0, [], b3) ⟨by dsimp only; omega, rfl, Tail.refl _ _, by dsimp only; cases getOps M b3 <;> simp⟩ (by repeat (first | exact Sub.nil _ | refine Sub.cons rfl ?_)) (fun _ hw => hw) ?_
    rintro ⟨j, v4, vd, d, rest2⟩ ⟨hj, hdl, ht4, hrel2⟩
    dsimp only at hj hdl ht4 hrel2 ⊢
    have h4 := ht4 _ h3
    refine e_seq ?_
    refine e_region ?_
    refine w_val (v_lss rfl rfl) rfl ?_
    refine w_nil ?_
    refine e_seq ?_
    refine e_condD rfl (fun hlt2 => ?_) (fun hlt2 => ?_)
    · have hlt2' : j < M := by omega
      refine e_skip ?_
      refine e_seq ?_
      refine e_block ?_
      refine e_region ?_
      refine w_val (v_move rfl) rfl ?_
      refine w_val (v_move rfl) rfl ?_
      refine w_op rfl ?_
      refine x_callP (dst := some 15) (mc := [rdB b v4]) (mr := [_, _, _]) (σ := Value × OpL × List UInt8) (τ := Unit) (fun s => getOp rest2 = some (s.2.1, s.2.2) ∧ Tail v4 rest2 s.1 s.2.2) (fun s => opV s.2.1) (fun s => [rdB b s.1]) (fun _ => getOp rest2 = none) (fun _ => gone3) (fun _ => []) rfl rfl rfl Try.call69 (fun w hw => readerOp_spec b v4 rest2 w (hw.mem (i := 0) rfl) (h4.mono (hw.ofb 0 rfl))) rfl (fun _ hn => g_panic (q_panic fun w' hw' => .inr ⟨(), by rw [hrel, getDeeds_none hlt' (by rw [hgd, hrel2, getOps_none hlt2' hn]; rfl)]; rfl, rfl, hw'.res.nil⟩)) ?_
      rintro ⟨v5, o, b5⟩ ⟨hgo, ht5⟩
      dsimp only at hgo ht5 ⊢
      refine w_op rfl ?_
      refine x_buildSlice _ (opCells o) rfl (run_buildSlice Try.underlying25 Try.hi36 Try.cz36 Try.zeroValue36 rfl (by kernel_rfl)) rfl (fun b16 => ?_)
      refine w_op rfl ?_
      refine x_appendI (z := .agg #[.int .i64 0, .int .i64 0, .int .i64 0, .int .i64 0, .int .i64 0]) (n := j) (xs := deedCells d) (size := 5) (bytes := 40) (k := 1) (news := opCells o) 2 rfl rfl rfl Try.underlying25 (by kernel_rfl) rfl (by decide) (fun w hw => blk_rds (hw.hold _ (List.mem_cons_self ..)) rfl) (by intro u hu; simp only [opCells, List.mem_cons, List.not_mem_nil, or_false] at hu; rcases hu with rfl | rfl | rfl | rfl | rfl <;> rfl) (by omega) (by simp only [maxLen]; omega) rfl (fun vd' => ?_)
      refine w_val (v_assign rfl) rfl ?_
      refine w_nil ?_
      refine e_blk ?_
      refine e_region ?_
      first | refine w_val (v_add rfl rfl (by omega)) rfl ?_ | refine w_val (v_addw rfl rfl) rfl ?_
      refine w_val (v_move rfl) rfl ?_
      refine w_nil ?_
      refine e_round ((j + 1, v5, vd', d ++ [o], b5)) (⟨by dsimp only; omega, by simp [hdl], ht4.trans ht5, by rw [hrel2]; exact getOps_step hlt2' hgo d⟩) (by dsimp only; omega) (by repeat (first | exact Sub.nil _ | refine Sub.cons rfl ?_)) (fun _ hw => ?_)
      dsimp only
      rw [deedCells_snoc]
      exact hw.sub (.cons _ (List.Sublist.refl _))
    · obtain rfl : j = M := by omega
      have hgd2 : getDeed (mb :: b3) = some (d, rest2) := by rw [hgd, hrel2, Nat.sub_self]; simp [getOps]
      refine g_shape 1 rfl fun A1 k1 hv1 hk1 => ?_
      subst hv1
      refine e_exit rfl ?_
      refine e_region ?_
      refine w_val (v_move rfl) rfl ?_
      refine w_val (v_move rfl) rfl ?_
      refine w_op rfl ?_
      refine x_buildSlice _ ([.slice A1 j k1]) rfl (run_buildSlice Try.underlying40 Try.hi25 Try.cz25 Try.zeroValue25 rfl (by kernel_rfl)) rfl (fun b21 => ?_)
      refine w_op rfl ?_
      refine x_appendI (z := .slice none 0 0) (n := k) (xs := vs) (size := 1) (bytes := 24) (k := 1) (news := [.slice A1 j k1]) 3 rfl rfl rfl Try.underlying40 (by kernel_rfl) rfl (by decide) (fun w hw => blk_rds (hw.hold _ (List.mem_cons_self ..)) rfl) (by intro u hu; simp only [List.mem_singleton] at hu; subst hu; rfl) (by omega) (by simp only [maxLen]; omega) rfl (fun vo' => ?_)
      refine w_val (v_assign rfl) rfl ?_
      refine w_nil ?_
      refine e_blk ?_
      refine e_region ?_
      first | refine w_val (v_add rfl rfl (by omega)) rfl ?_ | refine w_val (v_addw rfl rfl) rfl ?_
      refine w_val (v_move rfl) rfl ?_
      refine w_nil ?_
      refine e_round ((k + 1, v4, vo', vs ++ [.slice A1 j k1], r ++ [d], rest2, feet [Own (.slice A1 j k1) 36 5 j (deedCells d), Keep F (Deeds vs r)])) (⟨by dsimp only; omega, by simp [hrl], ht2.trans (ht3.trans ht4), by rw [hrel]; exact getDeeds_step hlt' hgd2 r⟩) (by dsimp only; omega) (by repeat (first | exact Sub.nil _ | refine Sub.cons rfl ?_)) (fun _ hw => ?_)
      dsimp only
      have h5 : St w (feet [rdB b v]) (Own (.slice A1 j k1) 36 5 j (deedCells d) :: Keep F (Deeds vs r) :: [rdB b v4, Own vo' 25 1 (k + 1) (vs ++ [.slice A1 j k1])]) _ := (hw.sub (.cons _ (List.Sublist.refl _))).perm (m' := [Own (.slice A1 j k1) 36 5 j (deedCells d), Keep F (Deeds vs r), rdB b v4, Own vo' 25 1 (k + 1) (vs ++ [.slice A1 j k1])]) (by
        refine (List.Perm.swap _ _ _).trans (.cons _ ?_)
        exact List.perm_append_comm (l₁ := [_, _]) (l₂ := [_]))
      exact (h5.deedIn hdl.symm).perm (List.perm_append_comm (l₁ := [_]) (l₂ := [_, _]))
  · obtain rfl : k = N := by omega
    have hfin : getDeeds k b1 = some (r, rest) := by rw [hrel, Nat.sub_self]; simp [getDeeds]
    refine e_exit rfl ?_
    refine e_seq ?_
    refine e_region ?_
    refine w_val (v_move rfl) rfl ?_
    refine w_val (v_assign rfl) rfl ?_
    refine w_nil ?_
    refine e_retQ (q_ret1 rfl (.tmp rfl) ?_)
    refine fun w' hw' => .inl ⟨(v2, vo, r, rest, feet [Own vo 25 1 k vs, Keep F (Deeds vs r)]), ⟨hfin, ht1.trans ht2⟩, rfl, ?_⟩
    have h5 := (hw'.perm (m' := [Own vo 25 1 k vs, Keep F (Deeds vs r), rdB b v2]) (List.perm_append_comm (l₁ := [_]) (l₂ := [_, _]))).roundIn hrl.symm
    exact (h5.perm (.swap _ _ _)).res
end Go.SL
