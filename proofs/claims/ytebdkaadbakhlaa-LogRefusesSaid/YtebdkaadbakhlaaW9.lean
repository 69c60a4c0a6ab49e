/- Ytebdkaadbakhlaa: part W9 of this seat's own texts. -/
import Derived.Test.YtebdkaadbakhlaaW7
import Derived.Test.YtebdkaadbakhlaaP3
set_option linter.unusedVariables false
set_option linter.unusedSimpArgs false
section
open Go Go.Proofs Go.SL
set_option maxRecDepth 100000
namespace Go.SL
theorem refOwnW_spec (v : Value) (r : RoundL) (w : World) (h : IsRound w.cell? v r) (hr60 : r.length ≤ 60) (hb : ∀ d ∈ r, d.length ≤ 500) : Calls Try.prog 28 #[v] w
    fun e w' => ∃ s : (Option Addr × Nat) × List Value × (Nat → Prop), True ∧ e = .returned (.slice s.1.1 r.length s.1.2) ∧ Res w [] [Own (.slice s.1.1 r.length s.1.2) 25 1 r.length s.2.1, Blob s.2.2 (DeedsB s.2.1 r)] w' := by
  rw [← off_none w] at h
  obtain ⟨A, kp, rfl, hle, hc⟩ := h.form
  refine enter0 (N := 22) Try.func28 rfl rfl rfl ?_
  refine e_seq ?_
  refine e_region ?_
  refine w_val (v_assign rfl) rfl ?_
  refine w_nil ?_
  refine e_seq ?_
  refine e_region ?_
  refine w_val (v_assign rfl) rfl ?_
  refine w_nil ?_
  refine e_seq ?_
  refine e_seq ?_
  refine e_region ?_
  refine w_val (v_assign rfl) rfl ?_
  refine w_nil ?_
  refine g_heap (m' := [Own (.slice none 0 0) 25 1 0 [], Blob (feet []) (DeedsB [] [])]) (fun _ hw => hw.blob0.ownNil 25 1) ?_
  refine e_block ?_
  refine e_loopH (σ := Nat × Value × List Value × (Nat → Prop)) [0] (.cons rfl .nil) (fun x => [(3, x.2.1), (4, .int .i64 x.1)]) (fun x => [Own x.2.1 25 1 x.1 x.2.2.1, Blob x.2.2.2 (DeedsB x.2.2.1 (r.take x.1))]) (fun x => x.1 ≤ r.length) (fun x => r.length - x.1) (0, .slice none 0 0, [], feet []) (by dsimp only; omega) (by repeat (first | exact Sub.nil _ | refine Sub.cons rfl ?_)) (fun _ hw => hw) ?_
  rintro ⟨k, vo, vs, F⟩ hk
  dsimp only at hk ⊢
  refine e_seq ?_
  refine e_seq ?_
  refine e_region ?_
  refine w_val (v_move rfl) rfl ?_
  refine w_val (v_move rfl) rfl ?_
  refine w_val (v_lenS Try.underlying40 rfl) rfl ?_
  refine w_val (v_lss rfl rfl) rfl ?_
  refine w_nil ?_
  refine e_condD rfl (fun hlt => ?_) (fun hlt => ?_)
  · have hlt' : k < r.length := by omega
    obtain ⟨ad, u, rfl, hcell, hd⟩ := hc k hlt'
    have hdb := hb r[k] (List.getElem_mem _)
    have hnext : r.take (k + 1) = r.take k ++ [r[k]] := List.take_succ_eq_append_getElem hlt'
    have hkl : (r.take k).length = k := by simp; omega
    generalize hpost : r.take (k + 1) = post at *
    generalize r.take k = pre at *
    generalize r[k] = d at *
    refine e_skip ?_
    refine e_seq ?_
    refine e_block ?_
    refine e_seq ?_
    refine e_region ?_
    refine w_val (v_assign rfl) rfl ?_
    refine w_nil ?_
    refine e_region ?_
    refine w_val (v_move rfl) rfl ?_
    refine w_val (v_move rfl) rfl ?_
    refine w_val (v_move rfl) rfl ?_
    refine w_val (v_move rfl) rfl ?_
    first | refine w_val (v_indexSB Try.underlying40 Try.hi25 Try.cz25 rfl rfl (by first | omega | decide)) rfl ?_ | refine w_val (v_indexS Try.underlying40 Try.hi25 Try.cz25 rfl rfl (by first | omega | decide)) rfl ?_
    first | refine w_val (v_loadO Try.underlying25 rfl rfl (hcell)) rfl ?_ | refine w_val (v_loadB 0 rfl Try.underlying25 rfl rfl rfl) rfl ?_ | refine w_val (v_loadB 1 rfl Try.underlying25 rfl rfl rfl) rfl ?_ | refine w_val (v_loadB 2 rfl Try.underlying25 rfl rfl rfl) rfl ?_ | refine w_val (v_loadB 3 rfl Try.underlying25 rfl rfl rfl) rfl ?_ | refine w_val (v_loadB 4 rfl Try.underlying25 rfl rfl rfl) rfl ?_ | refine w_val (v_loadB 5 rfl Try.underlying25 rfl rfl rfl) rfl ?_ | refine w_val (v_loadB 6 rfl Try.underlying25 rfl rfl rfl) rfl ?_ | refine w_val (v_loadB 7 rfl Try.underlying25 rfl rfl rfl) rfl ?_
    refine w_heap (fun _ hw => hw.ownNil 36 5) ?_
    refine w_op rfl ?_
    refine x_appendIS (z := .agg #[.int .i64 0, .int .i64 0, .int .i64 0, .int .i64 0, .int .i64 0]) (n := 0) (xs := []) (size := 5) (bytes := 40) (k := d.length) (news := deedCells d) 0 rfl rfl rfl Try.underlying25 (by kernel_rfl) rfl (by decide) (fun w hw => hd.mono hw.off) (one_deedCells d) (by omega) (by simp only [maxLen]; omega) rfl (fun A1 k1 hk1 => ?_)
    refine w_op rfl ?_
    refine x_buildSlice _ ([.slice A1 (0 + d.length) k1]) rfl (run_buildSlice Try.underlying40 Try.hi25 Try.cz25 Try.zeroValue25 rfl (by kernel_rfl)) rfl (fun b19 => ?_)
    refine w_op rfl ?_
    refine x_appendI (z := .slice none 0 0) (n := k) (xs := vs) (size := 1) (bytes := 24) (k := 1) (news := [.slice A1 (0 + d.length) k1]) 2 rfl rfl rfl Try.underlying40 (by kernel_rfl) rfl (by decide) (fun w hw => blk_rds (hw.hold _ (List.mem_cons_self ..)) rfl) (by intro u hu; simp only [List.mem_singleton] at hu; subst hu; rfl) (by omega) (by simp only [maxLen]; omega) rfl (fun vo' => ?_)
    refine w_val (v_assign rfl) rfl ?_
    refine w_nil ?_
    refine e_blk ?_
    refine e_region ?_
    refine w_val (v_move rfl) rfl ?_
    first | refine w_val (v_add rfl rfl (by omega)) rfl ?_ | refine w_val (v_addw rfl rfl) rfl ?_
    refine w_val (v_assign rfl) rfl ?_
    refine w_nil ?_
    refine e_round ((k + 1, vo', vs ++ [.slice A1 (0 + d.length) k1], feet [Own (.slice A1 (0 + d.length) k1) 36 5 (0 + d.length) (deedCells d), Blob F (DeedsB vs pre)])) (by dsimp only; omega) (by dsimp only; omega) (by repeat (first | exact Sub.nil _ | refine Sub.cons rfl ?_)) (fun _ hw => ?_)
    dsimp only
    rw [hpost, hnext]
    simp only [List.set_cons_zero, List.set_cons_succ, List.nil_append] at hw
    have h5 := (hw.sub (.cons _ (List.Sublist.refl _))).perm (m' := [Own (.slice A1 (0 + d.length) k1) 36 5 (0 + d.length) (deedCells d), Blob F (DeedsB vs pre), Own vo' 25 1 (k + 1) (vs ++ [Value.slice A1 (0 + d.length) k1])]) (.cons _ (.swap _ _ _))
    exact (h5.blobIn (Nat.zero_add _)).perm (.swap _ _ _)
  · obtain rfl : k = r.length := by omega
    refine g_shape 0 rfl fun A2 k2 hv2 hk2 => ?_
    subst hv2
    refine e_exit rfl ?_
    refine e_seq ?_
    refine e_region ?_
    refine w_val (v_move rfl) rfl ?_
    refine w_val (v_assign rfl) rfl ?_
    refine w_nil ?_
    refine e_retQ (q_ret1 rfl (.tmp rfl) ?_)
    refine fun w' hw' => ⟨((A2, k2), vs, F), trivial, rfl, ?_⟩
    rw [List.take_length] at hw'
    exact hw'.res
end Go.SL
end
section
open Go Go.Proofs Go.SL
set_option maxRecDepth 100000
namespace Go.SL
theorem putL_code (L : List RoundL) (r : RoundL) : ((putL L r).2.2 ≠ 0 ∧ (putL L r).1 = L ∧ (putL L r).2.1 = 0) ∨ (putL L r = (L ++ [r], (L.length : Int), 0) ∧ roundFaultL r = 0) := by
  by_cases hf : roundFaultL r ≠ 0
  · rw [putL_bad hf]; exact .inl ⟨hf, rfl, rfl⟩
  · by_cases h2 : L.length = 25 ∨ 4000 < (bytesOf L).length + (encL r).length
    · rw [putL_full hf h2]; exact .inl ⟨(by decide : (8 : Int) ≠ 0), rfl, rfl⟩
    · rw [putL_ok hf h2]; exact .inr ⟨rfl, by omega⟩
theorem LogRefuses_spec (v vr : Value) (l : List StepL) (r : RoundL) (w : World) (h : IsSteps w.cell? v l) (hin : ∀ x ∈ l, ∀ d ∈ x.round, ∀ o ∈ d, OpIn o) (hl : ∀ x ∈ l, ∀ d ∈ x.round, d.length ≤ 4398046511104) (hmax : l.length ≤ maxLen)
    (hr0 : IsRound w.cell? vr r) (hrin : ∀ d ∈ r, ∀ o ∈ d, OpIn o) (hrl : ∀ d ∈ r, d.length ≤ 4398046511104) :
    Calls Try.prog 13 #[v, vr] w fun e w' => e = .returned (.bool true) ∧ Res w [] [] w' := by
  have hs := h
  rw [← off_none w] at h hs hr0
  obtain ⟨A, kp, rfl, hle, hc⟩ := h
  obtain ⟨Ar, kr, rfl, hler, _⟩ := hr0.form
  simp only [maxLen] at hmax
  refine enter0 (N := 148) Try.func13 rfl rfl rfl ?_
  refine e_seq ?_
  refine e_region ?_
  refine w_val (v_assign rfl) rfl ?_
  refine w_nil ?_
  refine e_seq ?_
  refine e_seq ?_
  refine e_region ?_
  refine w_op rfl ?_
  refine x_call0 (v := .bool true) rfl rfl rfl Try.call35 rfl (fun w hw => logBegun_spec w) ?_
  refine w_val (v_not rfl) rfl ?_
  refine w_nil ?_
  refine e_condF rfl ?_
  refine e_skip ?_
  refine e_seq ?_
  refine e_seq ?_
  refine e_region ?_
  refine w_val (v_move rfl) rfl ?_
  refine w_op rfl ?_
  refine x_call (dst := some 22) (mc := []) (mr := []) (σ := Bool) (fun _ => True) (fun b => .bool b) (fun _ => []) rfl rfl rfl Try.call36 (fun w hw => greatLog_spec _ l w (hs.mono hw.off) hl) rfl (fun b _ => ?_)
  cases b with
  | true =>
    refine w_val (v_move rfl) rfl ?_
    refine w_skip rfl rfl rfl rfl ?_
    refine w_skip rfl rfl rfl rfl ?_
    first | refine w_val (v_pickT rfl rfl) rfl ?_ | refine w_val (v_pickF rfl rfl) rfl ?_
    refine w_nil ?_
    first | refine e_condDT rfl (by omega) ?_ | refine e_condT rfl ?_
    refine e_seq ?_
    refine e_region ?_
    refine w_val (v_assign rfl) rfl ?_
    refine w_nil ?_
    refine e_retQ (q_ret1 rfl (.tmp rfl) ?_)
    exact fun w' hw' => ⟨rfl, hw'.res.nil⟩
  | false =>
    refine w_val (v_move rfl) rfl ?_
    refine w_want rfl rfl ?_
    refine w_val (v_move rfl) rfl ?_
    refine w_want rfl rfl ?_
    refine w_op rfl ?_
    refine x_call0 (v := .bool (greatL r)) rfl rfl rfl Try.call18 rfl (fun w hw => great_spec _ r w (hr0.mono hw.off) hrl) ?_
    first | refine w_val (v_pickT rfl rfl) rfl ?_ | refine w_val (v_pickF rfl rfl) rfl ?_
    refine w_nil ?_
    refine e_cond rfl (fun hg => ?_) (fun hg => ?_)
    · refine e_seq ?_
      refine e_region ?_
      refine w_val (v_assign rfl) rfl ?_
      refine w_nil ?_
      refine e_retQ (q_ret1 rfl (.tmp rfl) ?_)
      exact fun w' hw' => ⟨rfl, hw'.res.nil⟩
    · obtain ⟨h60, h500⟩ := great_not hg
      refine e_skip ?_
      refine e_seq ?_
      refine e_region ?_
      refine w_op rfl ?_
      refine x_call (dst := some 27) (mc := []) (mr := []) (σ := Nat) (fun _ => True) (fun p => .pointer (some ⟨p, 0, none⟩)) (fun p => lgH p (.slice none 0 0) (.slice none 0 0) [] 0) rfl rfl rfl Try.call37 (fun w hw => logNew_spec w) rfl (fun p _ => ?_)
      refine w_val (v_build _ rfl (by intro _; simp [Instr.build, Instr.fill, Try.zeroValue77, go_sem]; rfl)) rfl ?_
      refine w_op rfl ?_
      refine x_box rfl rfl (fun b29 => ?_)
      refine w_val (v_assign rfl) rfl ?_
      refine w_val (v_assign rfl) rfl ?_
      refine w_nil ?_
      refine e_seq ?_
      refine e_seq ?_
      refine e_region ?_
      refine w_val (v_assign rfl) rfl ?_
      refine w_nil ?_
      refine g_heap (m' := lsH p b29 ⟨.slice none 0 0, .slice none 0 0, .slice none 0 0, [], feet []⟩ [] 0) (fun _ hw => St.newLog hw) ?_
      refine e_block ?_
      refine e_loopH (σ := Nat × LS × List RoundL × Nat) [0, 1, 5, 6] (.cons rfl (.cons rfl (.cons rfl (.cons rfl .nil)))) (fun x => [(7, .int .i64 (x.1 : Int))]) (fun x => lsH p b29 x.2.1 x.2.2.1 x.2.2.2) (fun x => x.1 ≤ l.length ∧ LogOk x.2.2.1 x.2.2.2) (fun x => l.length - x.1) (0, ⟨.slice none 0 0, .slice none 0 0, .slice none 0 0, [], feet []⟩, [], 0) ⟨by dsimp only; omega, lbOk0⟩ (by repeat (first | exact Sub.nil _ | refine Sub.cons rfl ?_)) (fun _ hw => hw) ?_
      rintro ⟨i, S, L, k⟩ ⟨hi, hok⟩
      dsimp only at hi hok ⊢
      refine e_seq ?_
      refine e_seq ?_
      refine e_region ?_
      refine w_val (v_move rfl) rfl ?_
      refine w_val (v_move rfl) rfl ?_
      refine w_val (v_lenS Try.underlying70 rfl) rfl ?_
      refine w_val (v_lss rfl rfl) rfl ?_
      refine w_nil ?_
      refine e_condD rfl (fun hlt => ?_) (fun hlt => ?_)
      · have hlt' : i < l.length := by omega
        obtain ⟨ad, u, rfl, hcs, hr⟩ := hc i hlt'
        have hxin := hin l[i] (List.getElem_mem _)
        generalize l[i] = x at *
        have hcs' : Cells (off w (feet [])) (ad.add (((i : Int)).toNat * 3)) [.int .i64 x.do_, .int .i64 x.keep, u] := hcs
        refine e_skip ?_
        refine e_seq ?_
        refine e_block ?_
        refine e_region ?_
        refine w_val (v_move rfl) rfl ?_
        refine w_val (v_move rfl) rfl ?_
        refine w_val (v_move rfl) rfl ?_
        refine w_val (v_move rfl) rfl ?_
        first | refine w_val (v_indexSB Try.underlying70 Try.hi80 Try.cz80 rfl rfl (by first | omega | decide)) rfl ?_ | refine w_val (v_indexS Try.underlying70 Try.hi80 Try.cz80 rfl rfl (by first | omega | decide)) rfl ?_
        first | refine w_val (v_loadON Try.underlying80 rfl Try.hi80 rfl (hcs') Try.cz80) rfl ?_ | refine w_val (v_loadBA 0 rfl Try.underlying80 rfl Try.hi80 Try.cz80 rfl) rfl ?_ | refine w_val (v_loadBA 1 rfl Try.underlying80 rfl Try.hi80 Try.cz80 rfl) rfl ?_ | refine w_val (v_loadBA 2 rfl Try.underlying80 rfl Try.hi80 Try.cz80 rfl) rfl ?_ | refine w_val (v_loadBA 3 rfl Try.underlying80 rfl Try.hi80 Try.cz80 rfl) rfl ?_ | refine w_val (v_loadBA 4 rfl Try.underlying80 rfl Try.hi80 Try.cz80 rfl) rfl ?_ | refine w_val (v_loadBA 5 rfl Try.underlying80 rfl Try.hi80 Try.cz80 rfl) rfl ?_ | refine w_val (v_loadBA 6 rfl Try.underlying80 rfl Try.hi80 Try.cz80 rfl) rfl ?_ | refine w_val (v_loadBA 7 rfl Try.underlying80 rfl Try.hi80 Try.cz80 rfl) rfl ?_ | refine w_val (v_loadBA 8 rfl Try.underlying80 rfl Try.hi80 Try.cz80 rfl) rfl ?_ | refine w_val (v_loadBA 9 rfl Try.underlying80 rfl Try.hi80 Try.cz80 rfl) rfl ?_ | refine w_val (v_loadBA 10 rfl Try.underlying80 rfl Try.hi80 Try.cz80 rfl) rfl ?_ | refine w_val (v_loadBA 11 rfl Try.underlying80 rfl Try.hi80 Try.cz80 rfl) rfl ?_ | refine w_val (v_loadBN 0 rfl Try.underlying80 rfl Try.hi80 Try.cz80 rfl rfl rfl) rfl ?_ | refine w_val (v_loadBN 1 rfl Try.underlying80 rfl Try.hi80 Try.cz80 rfl rfl rfl) rfl ?_ | refine w_val (v_loadBN 2 rfl Try.underlying80 rfl Try.hi80 Try.cz80 rfl rfl rfl) rfl ?_ | refine w_val (v_loadBN 3 rfl Try.underlying80 rfl Try.hi80 Try.cz80 rfl rfl rfl) rfl ?_ | refine w_val (v_loadBN 4 rfl Try.underlying80 rfl Try.hi80 Try.cz80 rfl rfl rfl) rfl ?_ | refine w_val (v_loadBN 5 rfl Try.underlying80 rfl Try.hi80 Try.cz80 rfl rfl rfl) rfl ?_ | refine w_val (v_loadBN 6 rfl Try.underlying80 rfl Try.hi80 Try.cz80 rfl rfl rfl) rfl ?_ | refine w_val (v_loadBN 7 rfl Try.underlying80 rfl Try.hi80 Try.cz80 rfl rfl rfl) rfl ?_ | refine w_val (v_loadBN 8 rfl Try.underlying80 rfl Try.hi80 Try.cz80 rfl rfl rfl) rfl ?_ | refine w_val (v_loadBN 9 rfl Try.underlying80 rfl Try.hi80 Try.cz80 rfl rfl rfl) rfl ?_ | refine w_val (v_loadBN 10 rfl Try.underlying80 rfl Try.hi80 Try.cz80 rfl rfl rfl) rfl ?_ | refine w_val (v_loadBN 11 rfl Try.underlying80 rfl Try.hi80 Try.cz80 rfl rfl rfl) rfl ?_
        refine w_op rfl ?_
        refine x_call (dst := some 42) (mc := lsH p b29 S L k) (mr := []) (σ := LS) (fun _ => True) (fun _ => .bool true) (fun S' => lsH p b29 S' (stepLog L k x).1 (stepLog L k x).2) rfl rfl rfl Try.call38 (fun w hw => logStep_spec p b29 S L k x u w hw.part.1 hw.part.2 hok (hr.mono (hw.offm (fun c hc => List.mem_append_left _ hc))) hxin) rfl (fun S' _ => ?_)
        refine w_nil ?_
        refine e_blk ?_
        refine e_region ?_
        refine w_val (v_move rfl) rfl ?_
        first | refine w_val (v_add rfl rfl (by omega)) rfl ?_ | refine w_val (v_addw rfl rfl) rfl ?_
        refine w_val (v_assign rfl) rfl ?_
        refine w_nil ?_
        exact e_round ((i + 1, S', (stepLog L k x).1, (stepLog L k x).2)) (⟨by dsimp only; omega, stepLog_ok hok hxin⟩) (by dsimp only; omega) (by repeat (first | exact Sub.nil _ | refine Sub.cons rfl ?_)) (fun _ hw => hw)
      · obtain ⟨bv, ev, lv, vs, G0⟩ := S
        have hB := hok.bytes
        have h25 := hok.len
        refine g_shapeR2 4 rfl fun Al kl hlv hkl _ => ?_
        dsimp only at hlv
        subst hlv
        refine e_exit rfl ?_
        refine e_seq ?_
        refine e_region ?_
        refine w_val (v_move rfl) rfl ?_
        refine w_op rfl ?_
        refine x_call (dst := some 45) (mc := []) (σ := Value) (fun _ => True) (fun s => .tuple #[s, .int .i64 (endAt L k : Int)]) (fun s => [Own s 5 1 (bytesOf L).length (byteCells (bytesOf L))]) rfl rfl rfl Try.call39 (fun w hw => logBytes_spec p bv ev L k w (LgV.at hw 0 rfl rfl rfl) hB) rfl (fun v1 _ => ?_)
        refine g_shape 0 rfl fun A1 k1 hv1 hk1 => ?_
        subst hv1
        refine w_val (v_move rfl) rfl ?_
        refine w_val (v_extract rfl rfl) rfl ?_
        refine w_val (v_extract rfl rfl) rfl ?_
        refine w_val (v_assign rfl) rfl ?_
        refine w_val (v_assign rfl) rfl ?_
        refine w_nil ?_
        refine e_seq ?_
        refine e_region ?_
        refine w_val (v_move rfl) rfl ?_
        refine w_op rfl ?_
        refine x_call (dst := some 49) (mc := []) (σ := (Option Addr × Nat) × List Value × (Nat → Prop)) (fun _ => True) (fun s => .slice s.1.1 r.length s.1.2) (fun s => [Own (.slice s.1.1 r.length s.1.2) 25 1 r.length s.2.1, Blob s.2.2 (DeedsB s.2.1 r)]) rfl rfl rfl Try.call28 (fun w hw => refOwnW_spec _ r w (hr0.mono hw.off) h60 h500) rfl (fun so _ => ?_)
        obtain ⟨⟨Ao, ko⟩, us, Gb⟩ := so
        dsimp only
        refine g_heap (m' := lgH p bv ev L k ++ [Own (.slice Ao r.length ko) 25 1 r.length us, Blob Gb (DeedsB us r), Own (.slice A1 (bytesOf L).length k1) 5 1 (bytesOf L).length (byteCells (bytesOf L)), scB b29 (.slice Al L.length kl) k]) (fun _ hw => by
          have h1 := hw.sub (m' := [Own (.slice Ao r.length ko) 25 1 r.length us, Blob Gb (DeedsB us r), Own (.slice A1 (bytesOf L).length k1) 5 1 (bytesOf L).length (byteCells (bytesOf L))] ++ lgH p bv ev L k ++ [scB b29 (.slice Al L.length kl) k]) (.cons_cons _ (.cons_cons _ (.cons_cons _ (.cons_cons _ (.cons_cons _ (.cons_cons _ (.cons_cons _ (List.nil_sublist _))))))))
          exact h1.perm (List.Perm.append_right _ (List.perm_append_comm (l₁ := [_, _, _])))) ?_
        refine w_val (v_assign rfl) rfl ?_
        refine w_nil ?_
        refine e_seq ?_
        refine e_region ?_
        refine w_val (v_move rfl) rfl ?_
        refine w_val (v_move rfl) rfl ?_
        refine w_op rfl ?_
        refine x_call (dst := some 53) (mc := lgH p bv ev L k) (mr := [_, _, _, _]) (σ := Value × Value) (fun _ => True) (fun _ => .tuple #[.int .i64 (putL L r).2.1, .int .i64 (putL L r).2.2]) (fun y => lgH p y.1 y.2 (putL L r).1 k) rfl rfl rfl Try.call43 (fun w hw => logPut_spec p bv ev L k _ r w hw.part.1 hw.part.2 hok (IsRound.mono hw.apart ((blob_all (DeedsB.up us r) (hw.partR (Blob Gb (DeedsB us r)) (by simp))).1.round (own_rds (hw.partR (Own (.slice Ao r.length ko) 25 1 r.length us) (by simp))))) hrin) rfl (fun y _ => ?_)
        rcases putL_code L r with ⟨hc0, hL', hn0⟩ | ⟨hput, hf0⟩
        · rw [hL', hn0]
          generalize (putL L r).2.2 = c at *
          refine w_val (v_move rfl) rfl ?_
          refine w_val (v_extract rfl rfl) rfl ?_
          refine w_val (v_extract rfl rfl) rfl ?_
          refine w_val (v_assign rfl) rfl ?_
          refine w_val (v_assign rfl) rfl ?_
          refine w_nil ?_
          refine e_seq ?_
          refine e_region ?_
          refine w_val (v_move rfl) rfl ?_
          refine w_op rfl ?_
          refine x_call (dst := some 58) (mc := []) (σ := Value) (fun _ => True) (fun s => .tuple #[s, .int .i64 (endAt L k : Int)]) (fun s => [Own s 5 1 (bytesOf L).length (byteCells (bytesOf L))]) rfl rfl rfl Try.call39 (fun w hw => logBytes_spec p y.1 y.2 L k w (LgV.at hw 0 rfl rfl rfl) hB) rfl (fun v2 _ => ?_)
          refine w_val (v_move rfl) rfl ?_
          refine w_val (v_extract rfl rfl) rfl ?_
          refine w_val (v_extract rfl rfl) rfl ?_
          refine w_val (v_assign rfl) rfl ?_
          refine w_val (v_assign rfl) rfl ?_
          refine w_nil ?_
          refine e_seq ?_
          refine e_seq ?_
          refine e_region ?_
          refine w_val (v_move rfl) rfl ?_
          refine w_val (v_neq rfl rfl) rfl ?_
          refine w_nil ?_
          first | refine e_condDT rfl (by omega) ?_ | refine e_condT rfl ?_
          refine e_seq ?_
          refine e_draw ([scB b29 (.slice Al L.length kl) k]) Try.mixed ?_
          refine a_take 0 pan_cx (by kernel_rfl) (fun _ hw => hw.sub (by repeat (first | exact List.Sublist.slnil | exact List.Sublist.refl _ | apply List.Sublist.cons_cons | apply List.Sublist.cons))) rfl (by kernel_rfl) (by kernel_rfl) (v_move rfl) rfl ?_
          refine a_take 1 pan_cx (by kernel_rfl) (fun _ hw => hw.sub (by repeat (first | exact List.Sublist.slnil | exact List.Sublist.refl _ | apply List.Sublist.cons_cons | apply List.Sublist.cons))) rfl (by kernel_rfl) (by kernel_rfl) (v_is (v' := .bool true) (v_eql rfl rfl) (by rfl)) rfl ?_
          refine a_take 2 pan_cx (by kernel_rfl) (fun _ hw => hw.sub (by repeat (first | exact List.Sublist.slnil | exact List.Sublist.refl _ | apply List.Sublist.cons_cons | apply List.Sublist.cons))) rfl (by kernel_rfl) (by kernel_rfl) (v_move rfl) rfl ?_
          refine a_want 3 pan_cx (by kernel_rfl) (fun _ hw => hw.sub (by repeat (first | exact List.Sublist.slnil | exact List.Sublist.refl _ | apply List.Sublist.cons_cons | apply List.Sublist.cons))) rfl (by kernel_rfl) (by kernel_rfl) rfl rfl (v_move rfl) rfl ?_
          refine a_want 4 pan_cx (by kernel_rfl) (fun _ hw => hw.sub (by repeat (first | exact List.Sublist.slnil | exact List.Sublist.refl _ | apply List.Sublist.cons_cons | apply List.Sublist.cons))) rfl (by kernel_rfl) (by kernel_rfl) rfl rfl (v_move rfl) rfl ?_
          refine a_oneW 5 (by kernel_rfl) rfl rfl rfl ?_
          refine x_call0 (v := .bool true) rfl rfl rfl Try.call33 rfl (fun w hw => Calls.boolT rfl (sameBytes_spec _ _ (bytesOf L) (bytesOf L) w (own_rds (hw.mem (i := 6) rfl)) (own_rds (hw.mem (i := 0) rfl)))) ?_
          refine a_and (fun _ hw => hw.sub (by repeat (first | exact List.Sublist.slnil | exact List.Sublist.refl _ | apply List.Sublist.cons_cons | apply List.Sublist.cons))) ?_
          first | refine a_take 6 pan_cx (by kernel_rfl) (fun _ hw => hw.sub (by repeat (first | exact List.Sublist.slnil | exact List.Sublist.refl _ | apply List.Sublist.cons_cons | apply List.Sublist.cons))) rfl (by kernel_rfl) (by kernel_rfl) (v_pickT rfl rfl) rfl ?_ | refine a_take 6 pan_cx (by kernel_rfl) (fun _ hw => hw.sub (by repeat (first | exact List.Sublist.slnil | exact List.Sublist.refl _ | apply List.Sublist.cons_cons | apply List.Sublist.cons))) rfl (by kernel_rfl) (by kernel_rfl) (v_pickF rfl rfl) rfl ?_
          refine a_take 7 pan_cx (by kernel_rfl) (fun _ hw => hw.sub (by repeat (first | exact List.Sublist.slnil | exact List.Sublist.refl _ | apply List.Sublist.cons_cons | apply List.Sublist.cons))) rfl (by kernel_rfl) (by kernel_rfl) (v_move rfl) rfl ?_
          refine a_want 8 pan_cx (by kernel_rfl) (fun _ hw => hw.sub (by repeat (first | exact List.Sublist.slnil | exact List.Sublist.refl _ | apply List.Sublist.cons_cons | apply List.Sublist.cons))) rfl (by kernel_rfl) (by kernel_rfl) rfl rfl (v_move rfl) rfl ?_
          refine a_want 9 pan_cx (by kernel_rfl) (fun _ hw => hw.sub (by repeat (first | exact List.Sublist.slnil | exact List.Sublist.refl _ | apply List.Sublist.cons_cons | apply List.Sublist.cons))) rfl (by kernel_rfl) (by kernel_rfl) rfl rfl (v_move rfl) rfl ?_
          refine a_want 10 pan_cx (by kernel_rfl) (fun _ hw => hw.sub (by repeat (first | exact List.Sublist.slnil | exact List.Sublist.refl _ | apply List.Sublist.cons_cons | apply List.Sublist.cons))) rfl (by kernel_rfl) (by kernel_rfl) rfl rfl (v_is (v' := .bool true) (v_eql rfl rfl) (by rw [decide_eq_true rfl])) rfl ?_
          first | refine a_take 11 pan_cx (by kernel_rfl) (fun _ hw => hw.sub (by repeat (first | exact List.Sublist.slnil | exact List.Sublist.refl _ | apply List.Sublist.cons_cons | apply List.Sublist.cons))) rfl (by kernel_rfl) (by kernel_rfl) (v_pickT rfl rfl) rfl ?_ | refine a_take 11 pan_cx (by kernel_rfl) (fun _ hw => hw.sub (by repeat (first | exact List.Sublist.slnil | exact List.Sublist.refl _ | apply List.Sublist.cons_cons | apply List.Sublist.cons))) rfl (by kernel_rfl) (by kernel_rfl) (v_pickF rfl rfl) rfl ?_
          refine a_take 12 pan_cx (by kernel_rfl) (fun _ hw => hw.sub (by repeat (first | exact List.Sublist.slnil | exact List.Sublist.refl _ | apply List.Sublist.cons_cons | apply List.Sublist.cons))) rfl (by kernel_rfl) (by kernel_rfl) (v_move rfl) rfl ?_
          refine a_want 13 pan_cx (by kernel_rfl) (fun _ hw => hw.sub (by repeat (first | exact List.Sublist.slnil | exact List.Sublist.refl _ | apply List.Sublist.cons_cons | apply List.Sublist.cons))) rfl (by kernel_rfl) (by kernel_rfl) rfl rfl (v_move rfl) rfl ?_
          refine a_want 15 pan_cx (by kernel_rfl) (fun _ hw => hw.sub (by repeat (first | exact List.Sublist.slnil | exact List.Sublist.refl _ | apply List.Sublist.cons_cons | apply List.Sublist.cons))) rfl (by kernel_rfl) (by kernel_rfl) rfl rfl (v_move rfl) rfl ?_
          refine a_want 16 pan_cx (by kernel_rfl) (fun _ hw => hw.sub (by repeat (first | exact List.Sublist.slnil | exact List.Sublist.refl _ | apply List.Sublist.cons_cons | apply List.Sublist.cons))) rfl (by kernel_rfl) (by kernel_rfl) rfl rfl (v_nilCheck rfl) rfl ?_
          first | refine a_want 17 pan_cx (by kernel_rfl) (fun _ hw => hw.sub (by repeat (first | exact List.Sublist.slnil | exact List.Sublist.refl _ | apply List.Sublist.cons_cons | apply List.Sublist.cons))) rfl (by kernel_rfl) (by kernel_rfl) rfl rfl (v_fieldAddrB (o := 0) Try.underlying77 rfl rfl Try.nz75 rfl) rfl ?_ | refine a_want 17 pan_cx (by kernel_rfl) (fun _ hw => hw.sub (by repeat (first | exact List.Sublist.slnil | exact List.Sublist.refl _ | apply List.Sublist.cons_cons | apply List.Sublist.cons))) rfl (by kernel_rfl) (by kernel_rfl) rfl rfl (v_fieldAddr (o := 0) Try.underlying77 rfl rfl Try.nz75 rfl) rfl ?_
          first | refine a_want 18 pan_cx (by kernel_rfl) (fun _ hw => hw.sub (by repeat (first | exact List.Sublist.slnil | exact List.Sublist.refl _ | apply List.Sublist.cons_cons | apply List.Sublist.cons))) rfl (by kernel_rfl) (by kernel_rfl) rfl rfl (v_loadO Try.underlying75 rfl rfl ((hcs') _ _ rfl)) rfl ?_ | refine a_want 18 pan_cx (by kernel_rfl) (fun _ hw => hw.sub (by repeat (first | exact List.Sublist.slnil | exact List.Sublist.refl _ | apply List.Sublist.cons_cons | apply List.Sublist.cons))) rfl (by kernel_rfl) (by kernel_rfl) rfl rfl (v_loadB 0 rfl Try.underlying75 rfl rfl rfl) rfl ?_ | refine a_want 18 pan_cx (by kernel_rfl) (fun _ hw => hw.sub (by repeat (first | exact List.Sublist.slnil | exact List.Sublist.refl _ | apply List.Sublist.cons_cons | apply List.Sublist.cons))) rfl (by kernel_rfl) (by kernel_rfl) rfl rfl (v_loadB 1 rfl Try.underlying75 rfl rfl rfl) rfl ?_ | refine a_want 18 pan_cx (by kernel_rfl) (fun _ hw => hw.sub (by repeat (first | exact List.Sublist.slnil | exact List.Sublist.refl _ | apply List.Sublist.cons_cons | apply List.Sublist.cons))) rfl (by kernel_rfl) (by kernel_rfl) rfl rfl (v_loadB 2 rfl Try.underlying75 rfl rfl rfl) rfl ?_ | refine a_want 18 pan_cx (by kernel_rfl) (fun _ hw => hw.sub (by repeat (first | exact List.Sublist.slnil | exact List.Sublist.refl _ | apply List.Sublist.cons_cons | apply List.Sublist.cons))) rfl (by kernel_rfl) (by kernel_rfl) rfl rfl (v_loadB 3 rfl Try.underlying75 rfl rfl rfl) rfl ?_ | refine a_want 18 pan_cx (by kernel_rfl) (fun _ hw => hw.sub (by repeat (first | exact List.Sublist.slnil | exact List.Sublist.refl _ | apply List.Sublist.cons_cons | apply List.Sublist.cons))) rfl (by kernel_rfl) (by kernel_rfl) rfl rfl (v_loadB 4 rfl Try.underlying75 rfl rfl rfl) rfl ?_ | refine a_want 18 pan_cx (by kernel_rfl) (fun _ hw => hw.sub (by repeat (first | exact List.Sublist.slnil | exact List.Sublist.refl _ | apply List.Sublist.cons_cons | apply List.Sublist.cons))) rfl (by kernel_rfl) (by kernel_rfl) rfl rfl (v_loadB 5 rfl Try.underlying75 rfl rfl rfl) rfl ?_ | refine a_want 18 pan_cx (by kernel_rfl) (fun _ hw => hw.sub (by repeat (first | exact List.Sublist.slnil | exact List.Sublist.refl _ | apply List.Sublist.cons_cons | apply List.Sublist.cons))) rfl (by kernel_rfl) (by kernel_rfl) rfl rfl (v_loadB 6 rfl Try.underlying75 rfl rfl rfl) rfl ?_ | refine a_want 18 pan_cx (by kernel_rfl) (fun _ hw => hw.sub (by repeat (first | exact List.Sublist.slnil | exact List.Sublist.refl _ | apply List.Sublist.cons_cons | apply List.Sublist.cons))) rfl (by kernel_rfl) (by kernel_rfl) rfl rfl (v_loadB 7 rfl Try.underlying75 rfl rfl rfl) rfl ?_ | refine a_want 18 pan_cx (by kernel_rfl) (fun _ hw => hw.sub (by repeat (first | exact List.Sublist.slnil | exact List.Sublist.refl _ | apply List.Sublist.cons_cons | apply List.Sublist.cons))) rfl (by kernel_rfl) (by kernel_rfl) rfl rfl (v_loadB 8 rfl Try.underlying75 rfl rfl rfl) rfl ?_ | refine a_want 18 pan_cx (by kernel_rfl) (fun _ hw => hw.sub (by repeat (first | exact List.Sublist.slnil | exact List.Sublist.refl _ | apply List.Sublist.cons_cons | apply List.Sublist.cons))) rfl (by kernel_rfl) (by kernel_rfl) rfl rfl (v_loadB 9 rfl Try.underlying75 rfl rfl rfl) rfl ?_ | refine a_want 18 pan_cx (by kernel_rfl) (fun _ hw => hw.sub (by repeat (first | exact List.Sublist.slnil | exact List.Sublist.refl _ | apply List.Sublist.cons_cons | apply List.Sublist.cons))) rfl (by kernel_rfl) (by kernel_rfl) rfl rfl (v_loadB 10 rfl Try.underlying75 rfl rfl rfl) rfl ?_ | refine a_want 18 pan_cx (by kernel_rfl) (fun _ hw => hw.sub (by repeat (first | exact List.Sublist.slnil | exact List.Sublist.refl _ | apply List.Sublist.cons_cons | apply List.Sublist.cons))) rfl (by kernel_rfl) (by kernel_rfl) rfl rfl (v_loadB 11 rfl Try.underlying75 rfl rfl rfl) rfl ?_
          refine a_want 19 pan_cx (by kernel_rfl) (fun _ hw => hw.sub (by repeat (first | exact List.Sublist.slnil | exact List.Sublist.refl _ | apply List.Sublist.cons_cons | apply List.Sublist.cons))) rfl (by kernel_rfl) (by kernel_rfl) rfl rfl (v_lenS Try.underlying75 rfl) rfl ?_
          refine a_oneW 14 (by kernel_rfl) rfl rfl rfl ?_
          refine x_call0 (v := .int .i64 (L.length : Int)) rfl rfl rfl Try.call42 rfl (fun w hw => logLen_spec p y.1 y.2 L k w (LgV.at hw 1 rfl rfl rfl)) ?_
          refine a_and (fun _ hw => hw.sub (by repeat (first | exact List.Sublist.slnil | exact List.Sublist.refl _ | apply List.Sublist.cons_cons | apply List.Sublist.cons))) ?_
          refine a_want 20 pan_cx (by kernel_rfl) (fun _ hw => hw.sub (by repeat (first | exact List.Sublist.slnil | exact List.Sublist.refl _ | apply List.Sublist.cons_cons | apply List.Sublist.cons))) rfl (by kernel_rfl) (by kernel_rfl) rfl rfl (v_is (v' := .bool true) (v_eql rfl rfl) (by rw [decide_eq_true rfl])) rfl ?_
          first | refine a_take 21 pan_cx (by kernel_rfl) (fun _ hw => hw.sub (by repeat (first | exact List.Sublist.slnil | exact List.Sublist.refl _ | apply List.Sublist.cons_cons | apply List.Sublist.cons))) rfl (by kernel_rfl) (by kernel_rfl) (v_pickT rfl rfl) rfl ?_ | refine a_take 21 pan_cx (by kernel_rfl) (fun _ hw => hw.sub (by repeat (first | exact List.Sublist.slnil | exact List.Sublist.refl _ | apply List.Sublist.cons_cons | apply List.Sublist.cons))) rfl (by kernel_rfl) (by kernel_rfl) (v_pickF rfl rfl) rfl ?_
          refine a_take 22 pan_cx (by kernel_rfl) (fun _ hw => hw.sub (by repeat (first | exact List.Sublist.slnil | exact List.Sublist.refl _ | apply List.Sublist.cons_cons | apply List.Sublist.cons))) rfl (by kernel_rfl) (by kernel_rfl) (v_assign rfl) rfl ?_
          refine a_done (by kernel_rfl) ?_
          refine e_retQ (q_ret1 rfl (.tmp rfl) ?_)
          exact fun w' hw' => ⟨rfl, hw'.res.nil⟩
        · have hok' := putL_logOk hok hrin
          rw [hput] at hok'
          rw [hput]
          dsimp only at hok' ⊢
          have e1 : bytesOf (L ++ [r]) = bytesOf L ++ encL r := by rw [bytesOf_app, bytesOf_one]
          have e2 : (bytesOf (L ++ [r])).length = (bytesOf L).length + (encL r).length := by rw [e1, List.length_append]
          have e5 : endAt (L ++ [r]) k = endAt L k := endAt_app hok.sure
          have e6 : (bytesOf (L ++ [r])).take (bytesOf L).length = bytesOf L := by rw [e1, List.take_left']; rfl
          have hpos := encL_pos r
          have hB' := hok'.bytes
          refine w_val (v_move rfl) rfl ?_
          refine w_val (v_extract rfl rfl) rfl ?_
          refine w_val (v_extract rfl rfl) rfl ?_
          refine w_val (v_assign rfl) rfl ?_
          refine w_val (v_assign rfl) rfl ?_
          refine w_nil ?_
          refine e_seq ?_
          refine e_region ?_
          refine w_val (v_move rfl) rfl ?_
          refine w_op rfl ?_
          refine x_call (dst := some 58) (mc := []) (σ := Value) (fun _ => True) (fun s => .tuple #[s, .int .i64 (endAt (L ++ [r]) k : Int)]) (fun s => [Own s 5 1 (bytesOf (L ++ [r])).length (byteCells (bytesOf (L ++ [r])))]) rfl rfl rfl Try.call39 (fun w hw => logBytes_spec p y.1 y.2 (L ++ [r]) k w (LgV.at hw 0 rfl rfl rfl) hB') rfl (fun v2 _ => ?_)
          refine g_shape 0 rfl fun A2 k2 hv2 hk2 => ?_
          subst hv2
          refine g_blobW (q' := DeedsW us r) 5 rfl (fun c hc => hc.2) ?_
          refine g_imp (c' := Rw (.slice Ao r.length ko) 25 1 r.length us) 4 rfl (fun _ hb => hb) (fun _ hw => own_row hw) ?_
          refine g_deedsW 5 rfl fun hul hus => ?_
          refine g_shapeR2 4 rfl fun Ao' ko' heq hko hAo => ?_
          injection heq with heq1 _ heq2
          subst heq1; subst heq2
          refine w_val (v_move rfl) rfl ?_
          refine w_val (v_extract rfl rfl) rfl ?_
          refine w_val (v_extract rfl rfl) rfl ?_
          refine w_val (v_assign rfl) rfl ?_
          refine w_val (v_assign rfl) rfl ?_
          refine w_nil ?_
          refine e_seq ?_
          refine e_seq ?_
          refine e_region ?_
          refine w_val (v_move rfl) rfl ?_
          refine w_val (v_neq rfl rfl) rfl ?_
          refine w_nil ?_
          first | refine e_condDF rfl (by omega) ?_ | refine e_condF rfl ?_
          refine e_skip ?_
          refine e_seq ?_
          refine e_seq ?_
          refine e_region ?_
          refine w_val (v_assign rfl) rfl ?_
          refine w_nil ?_
          refine e_block ?_
          refine e_loopK (σ := Nat) [1, 5, 6, 8, 9, 10, 11, 13, 14] (.cons rfl (.cons rfl (.cons rfl (.cons rfl (.cons rfl (.cons rfl (.cons rfl (.cons rfl (.cons rfl .nil))))))))) (fun i => [(15, .int .i64 (i : Int))]) (fun i => i ≤ r.length) (fun i => r.length - i) 0 (by omega) (by repeat (first | exact Sub.nil _ | refine Sub.cons rfl ?_)) ?_
          rintro i hi
          refine e_seq ?_
          refine e_seq ?_
          refine e_region ?_
          refine w_val (v_move rfl) rfl ?_
          refine w_val (v_move rfl) rfl ?_
          refine w_val (v_lenS Try.underlying40 rfl) rfl ?_
          refine w_val (v_lss rfl rfl) rfl ?_
          refine w_nil ?_
          refine e_condD rfl (fun hlt3 => ?_) (fun hlt3 => ?_)
          · have hlt3' : i < r.length := by omega
            obtain ⟨ado, rfl⟩ := hAo (by omega)
            obtain ⟨Ai, ki, hvi, hgi⟩ := hus i hlt3'
            have hlen5 := h500 r[i] (List.getElem_mem _)
            have hvi' : us[((i : Int)).toNat * 1]? = some (.slice Ai r[i].length ki) := by rw [Int.toNat_natCast, Nat.mul_one]; exact hvi
            refine e_skip ?_
            refine e_seq ?_
            refine e_block ?_
            refine e_seq ?_
            refine e_region ?_
            refine w_val (v_assign rfl) rfl ?_
            refine w_nil ?_
            refine e_block ?_
            refine e_loopK (σ := Nat) [1, 5, 6, 8, 9, 10, 11, 13, 14, 15] (.cons rfl (.cons rfl (.cons rfl (.cons rfl (.cons rfl (.cons rfl (.cons rfl (.cons rfl (.cons rfl (.cons rfl .nil)))))))))) (fun j => [(16, .int .i64 (j : Int))]) (fun j => j ≤ r[i].length) (fun j => r[i].length - j) 0 (by omega) (by repeat (first | exact Sub.nil _ | refine Sub.cons rfl ?_)) ?_
            rintro j hj
            refine e_seq ?_
            refine e_seq ?_
            refine e_region ?_
            refine w_val (v_move rfl) rfl ?_
            refine w_val (v_move rfl) rfl ?_
            refine w_val (v_move rfl) rfl ?_
            first | refine w_val (v_indexSB Try.underlying40 Try.hi25 Try.cz25 rfl rfl (by first | omega | decide)) rfl ?_ | refine w_val (v_indexS Try.underlying40 Try.hi25 Try.cz25 rfl rfl (by first | omega | decide)) rfl ?_
            refine w_val (v_loadR 4 rfl (by omega) hvi' Try.underlying25 rfl rfl) rfl ?_
            refine w_val (v_lenS Try.underlying25 rfl) rfl ?_
            refine w_val (v_lss rfl rfl) rfl ?_
            refine w_nil ?_
            refine e_condD rfl (fun hlt4 => ?_) (fun hlt4 => ?_)
            · have hlt4' : j < r[i].length := by omega
              obtain ⟨g, rfl⟩ := hgi (by omega)
              refine e_skip ?_
              refine e_seq ?_
              refine e_block ?_
              refine e_region ?_
              refine w_val (v_move rfl) rfl ?_
              refine w_val (v_move rfl) rfl ?_
              first | refine w_val (v_indexSB Try.underlying40 Try.hi25 Try.cz25 rfl rfl (by first | omega | decide)) rfl ?_ | refine w_val (v_indexS Try.underlying40 Try.hi25 Try.cz25 rfl rfl (by first | omega | decide)) rfl ?_
              refine w_val (v_loadR 4 rfl (by omega) hvi' Try.underlying25 rfl rfl) rfl ?_
              refine w_val (v_move rfl) rfl ?_
              first | refine w_val (v_indexSB Try.underlying25 Try.hi36 Try.cz36 rfl rfl (by first | omega | decide)) rfl ?_ | refine w_val (v_indexS Try.underlying25 Try.hi36 Try.cz36 rfl rfl (by first | omega | decide)) rfl ?_
              first | refine w_val (v_fieldAddrB (o := 4) Try.underlying36 rfl rfl Try.nz2 rfl) rfl ?_ | refine w_val (v_fieldAddr (o := 4) Try.underlying36 rfl rfl Try.nz2 rfl) rfl ?_
              refine w_op rfl ?_
              refine x_storeBlob (q' := DeedsW us r) 5 rfl rfl rfl Try.hi2 Try.cz2 rfl rfl (fun c hc => hc.cell hlt3' hvi (by omega)) (fun c c' hc a1 a2 a3 => hc.set a1 a2 a3) ?_
              refine w_nil ?_
              refine e_blk ?_
              refine e_region ?_
              refine w_val (v_move rfl) rfl ?_
              first | refine w_val (v_add rfl rfl (by omega)) rfl ?_ | refine w_val (v_addw rfl rfl) rfl ?_
              refine w_val (v_assign rfl) rfl ?_
              refine w_nil ?_
              exact e_round (j + 1) (by omega) (by omega) (by repeat (first | exact Sub.nil _ | refine Sub.cons rfl ?_)) (fun _ hw => hw)
            · refine e_exit rfl ?_
              refine e_blk ?_
              refine e_region ?_
              refine w_val (v_move rfl) rfl ?_
              first | refine w_val (v_add rfl rfl (by omega)) rfl ?_ | refine w_val (v_addw rfl rfl) rfl ?_
              refine w_val (v_assign rfl) rfl ?_
              refine w_nil ?_
              exact e_round (i + 1) (by omega) (by omega) (by repeat (first | exact Sub.nil _ | refine Sub.cons rfl ?_)) (fun _ hw => hw)
          · refine e_exit rfl ?_
            refine e_seq ?_
            refine e_region ?_
            refine w_val (v_move rfl) rfl ?_
            refine w_val (v_move rfl) rfl ?_
            refine w_op rfl ?_
            refine x_call (dst := some 110) (mc := []) (σ := Value × (Nat → Prop)) (fun _ => True) (fun s => .tuple #[s.1, .bool true]) (fun s => [Keep s.2 (fun c => IsRound c s.1 (L ++ [r])[L.length])]) rfl rfl rfl Try.call44 (fun w hw => logRound_spec p y.1 y.2 (L ++ [r]) k L.length w (LgV.at hw 1 rfl rfl rfl) hok' (by simp)) rfl (fun sx _ => ?_)
            obtain ⟨slx, Gx⟩ := sx
            dsimp only
            have hget : (L ++ [r])[L.length]'(by simp) = r := by simp
            rw [hget]
            have hsm := small_of hf0
            refine w_val (v_move rfl) rfl ?_
            refine w_val (v_extract rfl rfl) rfl ?_
            refine w_val (v_extract rfl rfl) rfl ?_
            refine w_val (v_assign rfl) rfl ?_
            refine w_val (v_assign rfl) rfl ?_
            refine w_nil ?_
            refine e_seq ?_
            refine e_region ?_
            refine w_val (v_move rfl) rfl ?_
            refine w_val (v_move rfl) rfl ?_
            refine w_want rfl rfl ?_
            refine w_val (v_move rfl) rfl ?_
            refine w_want rfl rfl ?_
            refine w_val (v_move rfl) rfl ?_
            refine w_want rfl rfl ?_
            refine w_val (v_nilCheck rfl) rfl ?_
            refine w_want rfl rfl ?_
            first | refine w_val (v_fieldAddrB (o := 0) Try.underlying77 rfl rfl Try.nz75 rfl) rfl ?_ | refine w_val (v_fieldAddr (o := 0) Try.underlying77 rfl rfl Try.nz75 rfl) rfl ?_
            refine w_want rfl rfl ?_
            first | refine w_val (v_loadO Try.underlying75 rfl rfl ((hcs') _ _ rfl)) rfl ?_ | refine w_val (v_loadB 0 rfl Try.underlying75 rfl rfl rfl) rfl ?_ | refine w_val (v_loadB 1 rfl Try.underlying75 rfl rfl rfl) rfl ?_ | refine w_val (v_loadB 2 rfl Try.underlying75 rfl rfl rfl) rfl ?_ | refine w_val (v_loadB 3 rfl Try.underlying75 rfl rfl rfl) rfl ?_ | refine w_val (v_loadB 4 rfl Try.underlying75 rfl rfl rfl) rfl ?_ | refine w_val (v_loadB 5 rfl Try.underlying75 rfl rfl rfl) rfl ?_ | refine w_val (v_loadB 6 rfl Try.underlying75 rfl rfl rfl) rfl ?_ | refine w_val (v_loadB 7 rfl Try.underlying75 rfl rfl rfl) rfl ?_ | refine w_val (v_loadB 8 rfl Try.underlying75 rfl rfl rfl) rfl ?_ | refine w_val (v_loadB 9 rfl Try.underlying75 rfl rfl rfl) rfl ?_ | refine w_val (v_loadB 10 rfl Try.underlying75 rfl rfl rfl) rfl ?_ | refine w_val (v_loadB 11 rfl Try.underlying75 rfl rfl rfl) rfl ?_
            refine w_want rfl rfl ?_
            refine w_val (v_lenS Try.underlying75 rfl) rfl ?_
            refine w_want rfl rfl ?_
            refine w_val (v_is (v' := .bool true) (v_eql rfl rfl) (by rw [decide_eq_true rfl])) rfl ?_
            first | refine w_val (v_pickT rfl rfl) rfl ?_ | refine w_val (v_pickF rfl rfl) rfl ?_
            refine w_val (v_move rfl) rfl ?_
            refine w_want rfl rfl ?_
            refine w_val (v_move rfl) rfl ?_
            refine w_want rfl rfl ?_
            refine w_val (v_move rfl) rfl ?_
            refine w_want rfl rfl ?_
            refine w_op rfl ?_
            refine x_call0 (v := .bool true) rfl rfl rfl Try.call34 rfl (fun w hw => Calls.boolT rfl (sameRound_spec _ _ r r w (keep_all (IsRound.up _ _) (hw.mem (i := 0) rfl)) (hr0.mono hw.off) (by omega) hrl)) ?_
            first | refine w_val (v_pickT rfl rfl) rfl ?_ | refine w_val (v_pickF rfl rfl) rfl ?_
            refine w_val (v_move rfl) rfl ?_
            refine w_want rfl rfl ?_
            refine w_val (v_move rfl) rfl ?_
            refine w_want rfl rfl ?_
            refine w_val (v_lenS Try.underlying58 rfl) rfl ?_
            refine w_want rfl rfl ?_
            refine w_val (v_move rfl) rfl ?_
            refine w_want rfl rfl ?_
            refine w_val (v_lenS Try.underlying58 rfl) rfl ?_
            refine w_want rfl rfl ?_
            refine w_val (v_is (v' := .bool true) (v_gtr rfl rfl) (by rw [decide_eq_true (by omega)])) rfl ?_
            first | refine w_val (v_pickT rfl rfl) rfl ?_ | refine w_val (v_pickF rfl rfl) rfl ?_
            refine w_val (v_move rfl) rfl ?_
            refine w_want rfl rfl ?_
            refine w_val (v_move rfl) rfl ?_
            refine w_want rfl rfl ?_
            refine w_val (v_move rfl) rfl ?_
            refine w_want rfl rfl ?_
            refine w_val (v_lenS Try.underlying58 rfl) rfl ?_
            refine w_want rfl rfl ?_
            refine w_val (v_sliceH Try.underlying58 Try.hi5 Try.cz5 rfl rfl (by omega)) rfl ?_
            refine w_want rfl rfl ?_
            refine w_val (v_move rfl) rfl ?_
            refine w_want rfl rfl ?_
            refine w_op rfl ?_
            refine x_call0 (v := .bool true) rfl rfl rfl Try.call33 rfl (fun w hw => Calls.boolT e6 (sameBytes_spec _ _ ((bytesOf (L ++ [r])).take (bytesOf L).length) (bytesOf L) w (by have := IsBytes.slice (lo := 0) (hi := (bytesOf L).length) (own_rds (hw.mem (i := 1) rfl)) (by omega) (by omega); simpa using this) (own_rds (hw.mem (i := 7) rfl)))) ?_
            first | refine w_val (v_pickT rfl rfl) rfl ?_ | refine w_val (v_pickF rfl rfl) rfl ?_
            refine w_val (v_move rfl) rfl ?_
            refine w_want rfl rfl ?_
            refine w_val (v_move rfl) rfl ?_
            refine w_want rfl rfl ?_
            refine w_val (v_move rfl) rfl ?_
            refine w_want rfl rfl ?_
            refine w_val (v_is (v' := .bool true) (v_eql rfl rfl) (by rw [decide_eq_true (by rw [e5])])) rfl ?_
            first | refine w_val (v_pickT rfl rfl) rfl ?_ | refine w_val (v_pickF rfl rfl) rfl ?_
            refine w_val (v_assign rfl) rfl ?_
            refine w_nil ?_
            refine e_retQ (q_ret1 rfl (.tmp rfl) ?_)
            exact fun w' hw' => ⟨rfl, hw'.res.nil⟩
end Go.SL
end
