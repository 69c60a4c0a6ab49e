/- Ytebdkaadbakhlac: part J2 of this seat's own texts. -/
import Derived.Test.YtebdkaadbakhlacX3
set_option linter.unusedVariables false
set_option linter.unusedSimpArgs false

open Go Go.Proofs Go.SL
set_option maxRecDepth 100000
set_option maxHeartbeats 4000000
namespace Go.SL
theorem mostR_le {r : RoundL} (hr : roundFaultL r = 0) : ∀ n, mostR r n ≤ 15 * n
  | 0 => Nat.le_refl _
  | n + 1 => by
    have := mostR_le hr n
    have h := (checked (checked_at hr n)).1
    simp only [mostR]
    omega
theorem RoundGoes_spec (s : List Int) (v vp : Value) (r : RoundL) (p : List Int) (w : World) (h : IsRound w.cell? v r) (hb : ∀ d ∈ r, d.length ≤ 4398046511104) (hs10 : s.length = 10) (hp : IsInts w.cell? vp p) :
    Calls Try.prog 8 #[intsV s, v, vp] w fun e w' => e = .returned (.bool true) ∧ Res w [] [] w' := by
  have hsr := h
  rw [← off_none w] at hsr hp
  obtain ⟨A, ka, rfl, hle, hvc⟩ := hsr.form
  obtain ⟨Ap, kp, rfl, hlep, hpc⟩ := hp.form
  have hlz : (intCells s).length = 10 := by rw [intCells, List.length_map]; exact hs10
  refine enter0 (N := 92) Try.func8 rfl rfl rfl ?_
  refine e_seq ?_
  refine e_region ?_
  refine w_op rfl ?_
  refine x_box rfl rfl (fun b3 => ?_)
  refine w_val (v_assign rfl) rfl ?_
  refine w_nil ?_
  refine e_seq ?_
  refine e_seq ?_
  refine e_region ?_
  refine w_op rfl ?_
  refine x_call0 (v := .bool true) rfl rfl rfl Try.call23 rfl (fun w hw => roundBegun_spec w) ?_
  refine w_val (v_not rfl) rfl ?_
  refine w_nil ?_
  refine e_condF rfl ?_
  by_cases hg : greatL r = true
  · refine e_skip ?_
    refine e_seq ?_
    refine e_seq ?_
    refine e_region ?_
    refine w_val (v_move rfl) rfl ?_
    refine w_op rfl ?_
    refine x_call0 (v := .bool true) rfl rfl rfl Try.call24 rfl (fun w hw => by have := great_spec _ r w (hsr.mono hw.off) hb; rwa [hg] at this) ?_
    refine w_val (v_move rfl) rfl ?_
    refine w_skip rfl rfl rfl rfl ?_
    refine w_skip rfl rfl rfl rfl ?_
    refine w_skip rfl rfl rfl rfl ?_
    refine w_val (v_pickT rfl rfl) rfl ?_
    refine w_nil ?_
    refine e_condT rfl ?_
    refine e_seq ?_
    refine e_region ?_
    refine w_val (v_assign rfl) rfl ?_
    refine w_nil ?_
    refine e_retQ (q_ret1 rfl (.tmp rfl) ?_)
    exact fun w' hw' => ⟨rfl, hw'.res.nil⟩
  · have hg : greatL r = false := by cases h : greatL r with | true => exact absurd h hg | false => rfl
    by_cases h500 : 500 < p.length
    · refine e_skip ?_
      refine e_seq ?_
      refine e_seq ?_
      refine e_region ?_
      refine w_val (v_move rfl) rfl ?_
      refine w_op rfl ?_
      refine x_call0 (v := .bool false) rfl rfl rfl Try.call24 rfl (fun w hw => by have := great_spec _ r w (hsr.mono hw.off) hb; rwa [hg] at this) ?_
      refine w_val (v_move rfl) rfl ?_
      refine w_want rfl rfl ?_
      refine w_val (v_move rfl) rfl ?_
      refine w_want rfl rfl ?_
      refine w_val (v_lenS Try.underlying51 rfl) rfl ?_
      refine w_want rfl rfl ?_
      refine w_val (v_is (v' := .bool true) (v_gtr rfl rfl) (by rw [decide_eq_true (by omega)])) rfl ?_
      refine w_val (v_pickF rfl rfl) rfl ?_
      refine w_nil ?_
      refine e_condT rfl ?_
      refine e_seq ?_
      refine e_region ?_
      refine w_val (v_assign rfl) rfl ?_
      refine w_nil ?_
      refine e_retQ (q_ret1 rfl (.tmp rfl) ?_)
      exact fun w' hw' => ⟨rfl, hw'.res.nil⟩
    · by_cases hf : roundFaultL r = 0
      · obtain ⟨h8, hck⟩ := roundFault_ok hf
        refine e_skip ?_
        refine e_seq ?_
        refine e_seq ?_
        refine e_region ?_
        refine w_val (v_move rfl) rfl ?_
        refine w_op rfl ?_
        refine x_call0 (v := .bool false) rfl rfl rfl Try.call24 rfl (fun w hw => by have := great_spec _ r w (hsr.mono hw.off) hb; rwa [hg] at this) ?_
        refine w_val (v_move rfl) rfl ?_
        refine w_want rfl rfl ?_
        refine w_val (v_move rfl) rfl ?_
        refine w_want rfl rfl ?_
        refine w_val (v_lenS Try.underlying51 rfl) rfl ?_
        refine w_want rfl rfl ?_
        refine w_val (v_is (v' := .bool false) (v_gtr rfl rfl) (by rw [decide_eq_false (by omega)])) rfl ?_
        refine w_val (v_pickF rfl rfl) rfl ?_
        refine w_nil ?_
        refine e_condF rfl ?_
        refine e_skip ?_
        refine e_seq ?_
        refine e_region ?_
        refine w_val (v_loadBA 0 rfl Try.underlying23 rfl Try.hi23 (Try.cz23.trans hlz.symm) rfl) rfl ?_
        refine w_val (v_move rfl) rfl ?_
        refine w_op rfl ?_
        refine x_call (dst := some 28) (mc := []) (σ := RdP) (fun _ => True) (fun y => .tuple #[.pointer (some ⟨y.pr, 0, none⟩), .int .i64 0]) (fun y => rnH y r.length (newP s r)) rfl rfl rfl Try.call31 (fun w hw => rdNew_ok s _ r w (hsr.mono hw.off) hs10 hf) rfl (fun y _ => ?_); obtain ⟨pr, pt, ht, pw, dvw, wv⟩ := y; dsimp only
        refine w_val (v_move rfl) rfl ?_
        refine w_val (v_extract rfl rfl) rfl ?_
        refine w_val (v_extract rfl rfl) rfl ?_
        refine w_val (v_assign rfl) rfl ?_
        refine w_val (v_assign rfl) rfl ?_
        refine w_nil ?_
        refine e_seq ?_
        refine e_seq ?_
        refine e_region ?_
        refine w_val (v_move rfl) rfl ?_
        refine w_val (v_is (v' := .bool false) (v_neq rfl rfl) (by rfl)) rfl ?_
        refine w_val (v_move rfl) rfl ?_
        refine w_want rfl rfl ?_
        refine w_val (v_move rfl) rfl ?_
        refine w_want rfl rfl ?_
        refine w_val (v_is (v' := .bool false) (v_eqlPtr Try.underlying62 rfl rfl) (by rfl)) rfl ?_
        refine w_val (v_pickF rfl rfl) rfl ?_
        refine w_nil ?_
        refine e_condF rfl ?_
        refine e_skip ?_
        refine e_seq ?_
        refine e_seq ?_
        refine e_region ?_
        refine w_val (v_assign rfl) rfl ?_
        refine w_nil ?_
        refine e_block ?_
        refine e_loopH (σ := Nat × RunS) [1, 2, 7] (.cons rfl (.cons rfl (.cons rfl .nil))) (fun x => [(9, .int .i64 (x.1 : Int))]) (fun x => rnH ⟨pr, pt, ht, pw, dvw, wv⟩ r.length x.2) (fun x => x.1 ≤ p.length ∧ InvR s r x.2.1 x.2.2) (fun x => p.length - x.1) (0, newP s r) ⟨Nat.zero_le _, inv_new hs10 hf⟩ (by repeat (first | exact Sub.nil _ | refine Sub.cons rfl ?_)) (fun _ hw => hw.pick [0, 1, 2, 3, 4] (by decide)) ?_
        rintro ⟨i, P⟩ ⟨hi, hinv⟩
        dsimp only at hi hinv ⊢
        refine e_seq ?_
        refine e_seq ?_
        refine e_region ?_
        refine w_val (v_move rfl) rfl ?_
        refine w_val (v_move rfl) rfl ?_
        refine w_val (v_lenS Try.underlying51 rfl) rfl ?_
        refine w_val (v_lss rfl rfl) rfl ?_
        refine w_nil ?_
        refine e_condD rfl (fun hlt => ?_) (fun hlt => ?_)
        · have hi' : i < p.length := by omega
          obtain ⟨ad, rfl, hcell⟩ := hpc i hi'
          have hinv' := hinv.pick p[i]
          generalize p[i] = pi at *
          refine e_skip ?_
          refine e_seq ?_
          refine e_block ?_
          refine e_region ?_
          refine w_val (v_move rfl) rfl ?_
          refine w_val (v_move rfl) rfl ?_
          refine w_val (v_move rfl) rfl ?_
          refine w_val (v_indexS Try.underlying51 Try.hi3 Try.cz3 rfl rfl (by first | omega | decide)) rfl ?_
          refine w_val (v_loadO Try.underlying3 rfl rfl (hcell)) rfl ?_
          refine w_op rfl ?_
          refine x_call (dst := some 48) (mc := rnH ⟨pr, pt, ht, pw, dvw, wv⟩ r.length P) (mr := []) (σ := Unit) (fun _ => True) (fun _ => .tuple #[.int .i64 (pickR r.length P pi).1.1, .int .i64 (pickR r.length P pi).1.2]) (fun _ => rnH ⟨pr, pt, ht, pw, dvw, wv⟩ r.length (pickR r.length P pi).2) rfl rfl rfl Try.call32 (fun w hw => rdPick_spec s r ⟨pr, pt, ht, pw, dvw, wv⟩ P pi w (res_part hw).1 (res_part hw).2 hinv) rfl (fun _ _ => ?_)
          refine w_nil ?_
          refine e_blk ?_
          refine e_region ?_
          refine w_val (v_move rfl) rfl ?_
          refine w_val (v_add rfl rfl (by omega)) rfl ?_
          refine w_val (v_assign rfl) rfl ?_
          refine w_nil ?_
          exact e_round ((i + 1, (pickR r.length P pi).2)) (⟨by dsimp only; omega, hinv'⟩) (by dsimp only; omega) (by repeat (first | exact Sub.nil _ | refine Sub.cons rfl ?_)) (fun _ hw => hw)
        · refine e_exit rfl ?_
          refine e_seq ?_
          refine e_region ?_
          refine w_val (v_assign rfl) rfl ?_
          refine w_nil ?_
          refine e_seq ?_
          refine e_seq ?_
          refine e_region ?_
          refine w_val (v_assign rfl) rfl ?_
          refine w_nil ?_
          refine e_block ?_
          refine e_loopH (σ := Nat) [1, 7] (.cons rfl (.cons rfl .nil)) (fun i => [(10, .int .i64 ((mostR r i : Nat) : Int)), (11, .int .i64 (i : Int))]) (fun _ => rnH ⟨pr, pt, ht, pw, dvw, wv⟩ r.length P) (fun i => i ≤ r.length) (fun i => r.length - i) 0 (Nat.zero_le _) (by repeat (first | exact Sub.nil _ | refine Sub.cons rfl ?_)) (fun _ hw => hw) ?_
          rintro j hj
          dsimp only at hj ⊢
          refine e_seq ?_
          refine e_seq ?_
          refine e_region ?_
          refine w_val (v_move rfl) rfl ?_
          refine w_val (v_move rfl) rfl ?_
          refine w_val (v_lenS Try.underlying38 rfl) rfl ?_
          refine w_val (v_lss rfl rfl) rfl ?_
          refine w_nil ?_
          refine e_condD rfl (fun hlt2 => ?_) (fun hlt2 => ?_)
          · have hj' : j < r.length := by omega
            obtain ⟨ad, u, rfl, hcell, hud⟩ := hvc j hj'
            obtain ⟨Au, ku, rfl, _⟩ := hud.form
            have hm := mostR_le hf j
            have hgd : r.getD j [] = r[j] := by simp [List.getD, hj']
            have hms : mostR r (j + 1) = mostR r j + (r[j].length + 1) := by simp only [mostR, hgd]
            have h14 := (checked (hck _ (List.getElem_mem hj'))).1
            generalize r[j] = d at *
            refine e_skip ?_
            refine e_seq ?_
            refine e_block ?_
            refine e_region ?_
            refine w_val (v_move rfl) rfl ?_
            refine w_val (v_move rfl) rfl ?_
            refine w_val (v_move rfl) rfl ?_
            refine w_val (v_indexS Try.underlying38 Try.hi25 Try.cz25 rfl rfl (by first | omega | decide)) rfl ?_
            refine w_val (v_loadO Try.underlying25 rfl rfl (hcell)) rfl ?_
            refine w_val (v_lenS Try.underlying25 rfl) rfl ?_
            refine w_val (v_add rfl rfl (by omega)) rfl ?_
            refine w_val (v_is (v' := .int .i64 ((mostR r (j + 1) : Nat) : Int)) (v_add rfl rfl (by omega)) (by rw [hms]; first | rfl | (congr 1; omega))) rfl ?_
            refine w_val (v_assign rfl) rfl ?_
            refine w_nil ?_
            refine e_blk ?_
            refine e_region ?_
            refine w_val (v_move rfl) rfl ?_
            refine w_val (v_add rfl rfl (by omega)) rfl ?_
            refine w_val (v_assign rfl) rfl ?_
            refine w_nil ?_
            exact e_round (j + 1) (by omega) (by omega) (by repeat (first | exact Sub.nil _ | refine Sub.cons rfl ?_)) (fun _ hw => hw)
          · have e : j = r.length := by omega
            subst e
            have hmost := mostR_le hf r.length
            refine e_exit rfl ?_
            refine e_seq ?_
            refine e_seq ?_
            refine e_region ?_
            refine w_val (v_assign rfl) rfl ?_
            refine w_nil ?_
            refine e_block ?_
            refine e_loopH (σ := Nat × RunS) [1, 7, 10] (.cons rfl (.cons rfl (.cons rfl .nil))) (fun x => [(12, .int .i64 (x.1 : Int))]) (fun x => rnH ⟨pr, pt, ht, pw, dvw, wv⟩ r.length x.2) (fun x => InvR s r x.2.1 x.2.2 ∧ muA x.2.1 r.length + x.1 ≤ mostR r r.length) (fun x => mostR r r.length - x.1) (0, P) ⟨hinv, hinv.most r.length⟩ (by repeat (first | exact Sub.nil _ | refine Sub.cons rfl ?_)) (fun _ hw => hw) ?_
            rintro ⟨n, P1⟩ ⟨hinv1, hmu⟩
            dsimp only at hinv1 hmu ⊢
            refine e_seq ?_
            refine e_seq ?_
            refine e_region ?_
            refine w_val (v_move rfl) rfl ?_
            refine w_val (v_move rfl) rfl ?_
            refine w_val (v_leq rfl rfl) rfl ?_
            refine w_nil ?_
            refine e_condD rfl (fun hlt3 => ?_) (fun hlt3 => ?_)
            · refine e_skip ?_
              refine e_seq ?_
              refine e_block ?_
              refine e_seq ?_
              refine e_region ?_
              refine w_val (v_move rfl) rfl ?_
              refine w_op rfl ?_
              refine x_call (dst := some 69) (mc := []) (σ := Value) (fun _ => True) (fun sl => sl) (fun sl => [Own sl 3 1 (leftX r.length P1.1).length (intsC (leftX r.length P1.1))]) rfl rfl rfl Try.call43 (fun w hw => rdLeft_spec pr r.length P1.1 w (rnH_v (y := ⟨pr, pt, ht, pw, dvw, wv⟩) hinv1 hw (by simp) (by simp) (by simp)) (by omega)) rfl (fun sl _ => ?_)
              have hll := left_len (n := r.length) (X := P1.1)
              cases hl : leftX r.length P1.1 with
              | nil =>
                have ho := left_none.1 hl
                obtain ⟨_, hov⟩ := hinv1.state ho
                have hn := hinv1.short
                rw [hl] at *
                refine g_shape2 0 rfl fun A1 k1 hv1 hk1 hA1 => ?_
                subst hv1
                refine w_val (v_assign rfl) rfl ?_
                refine w_nil ?_
                refine e_seq ?_
                refine e_seq ?_
                refine e_region ?_
                refine w_val (v_move rfl) rfl ?_
                refine w_val (v_lenS Try.underlying51 rfl) rfl ?_
                refine w_val (v_is (v' := .bool true) (v_eql rfl rfl) (by rfl)) rfl ?_
                refine w_nil ?_
                refine e_condT rfl ?_
                refine e_seq ?_
                refine e_region ?_
                refine w_val (v_move rfl) rfl ?_
                refine w_val (v_nilCheck rfl) rfl ?_
                refine w_val (v_fieldAddrB (o := 0) Try.underlying70 rfl rfl Try.nz40 rfl) rfl ?_
                refine w_val (v_loadB 4 rfl Try.underlying40 rfl rfl rfl) rfl ?_
                refine w_op rfl ?_
                refine x_call0 (v := .bool true) rfl rfl rfl Try.call22 rfl (fun w hw => by have := tabOver_spec pt ht P1.2 w (hw.tbV 2 rfl rfl) hn; rwa [hov] at this) ?_
                refine w_val (v_assign rfl) rfl ?_
                refine w_nil ?_
                refine e_retQ (q_ret1 rfl (.tmp rfl) ?_)
                exact fun w' hw' => ⟨rfl, hw'.res.nil⟩
              | cons q l =>
                obtain ⟨k, hq, hk, ho, hlo⟩ := left_first hl
                subst hq
                have hg := hinv1.goes hk hlo ho
                have hinv2 := hinv1.run hk
                have hn := pick_nat (P := P1) hk
                have hmu2 : muA (runP P1 k).1 r.length < muA P1.1 r.length := (muA_upd (X := P1.1) hg.2 r.length).2 hk
                rw [hl] at *
                refine g_shape2 0 rfl fun A1 k1 hv1 hk1 hA1 => ?_
                subst hv1
                obtain ⟨ad1, rfl⟩ := hA1 (by simp)
                have hpos : 0 < ((k : Int) :: l).length := by simp
                refine w_val (v_assign rfl) rfl ?_
                refine w_nil ?_
                refine e_seq ?_
                refine e_seq ?_
                refine e_region ?_
                refine w_val (v_move rfl) rfl ?_
                refine w_val (v_lenS Try.underlying51 rfl) rfl ?_
                refine w_val (v_is (v' := .bool false) (v_eql rfl rfl) (by rw [decide_eq_false (by rw [List.length_cons]; omega)])) rfl ?_
                refine w_nil ?_
                refine e_condF rfl ?_
                refine e_skip ?_
                refine e_seq ?_
                refine e_region ?_
                refine w_val (v_move rfl) rfl ?_
                refine w_val (v_move rfl) rfl ?_
                refine w_val (v_indexS Try.underlying51 Try.hi3 Try.cz3 rfl rfl (by first | omega | decide)) rfl ?_
                refine w_val (v_loadW 0 rfl (by simp) (j := 0) rfl Try.underlying3 rfl rfl) rfl ?_
                refine g_heap (m' := rnH ⟨pr, pt, ht, pw, dvw, wv⟩ r.length P1) (fun _ hw => hw.sub (List.sublist_cons_self _ _)) ?_
                refine w_op rfl ?_
                rcases hg.1 with ⟨hg1, _⟩ | ⟨hg1, _⟩
                · rw [hg1] at hn
                  refine x_call (dst := some 83) (mc := rnH ⟨pr, pt, ht, pw, dvw, wv⟩ r.length P1) (mr := []) (σ := Unit) (fun _ => True) (fun _ => .tuple #[.int .i64 1, .int .i64 (-1)]) (fun _ => rnH ⟨pr, pt, ht, pw, dvw, wv⟩ r.length (runP P1 k)) rfl rfl rfl Try.call32 (fun w hw => by have := rdPick_spec s r ⟨pr, pt, ht, pw, dvw, wv⟩ P1 k w (res_part hw).1 (res_part hw).2 hinv1; rwa [hn] at this) rfl (fun _ _ => ?_)
                  refine w_val (v_move rfl) rfl ?_
                  refine w_val (v_extract rfl rfl) rfl ?_
                  refine w_val (v_extract rfl rfl) rfl ?_
                  refine w_val (v_assign rfl) rfl ?_
                  refine w_val (v_assign rfl) rfl ?_
                  refine w_nil ?_
                  refine e_seq ?_
                  refine e_region ?_
                  refine w_val (v_move rfl) rfl ?_
                  refine w_val (v_is (v' := .bool false) (v_neq rfl rfl) (by rfl)) rfl ?_
                  refine w_val (v_move rfl) rfl ?_
                  refine w_skip rfl rfl rfl rfl ?_
                  refine w_skip rfl rfl rfl rfl ?_
                  refine w_val (v_pickF rfl rfl) rfl ?_
                  refine w_nil ?_
                  refine e_condF rfl ?_
                  refine e_skip ?_
                  refine e_blk ?_
                  refine e_region ?_
                  refine w_val (v_move rfl) rfl ?_
                  refine w_val (v_add rfl rfl (by omega)) rfl ?_
                  refine w_val (v_assign rfl) rfl ?_
                  refine w_nil ?_
                  exact e_round ((n + 1, runP P1 k)) (⟨hinv2, by dsimp only; omega⟩) (by dsimp only; omega) (by repeat (first | exact Sub.nil _ | refine Sub.cons rfl ?_)) (fun _ hw => hw)
                · rw [hg1] at hn
                  refine x_call (dst := some 83) (mc := rnH ⟨pr, pt, ht, pw, dvw, wv⟩ r.length P1) (mr := []) (σ := Unit) (fun _ => True) (fun _ => .tuple #[.int .i64 3, .int .i64 (-1)]) (fun _ => rnH ⟨pr, pt, ht, pw, dvw, wv⟩ r.length (runP P1 k)) rfl rfl rfl Try.call32 (fun w hw => by have := rdPick_spec s r ⟨pr, pt, ht, pw, dvw, wv⟩ P1 k w (res_part hw).1 (res_part hw).2 hinv1; rwa [hn] at this) rfl (fun _ _ => ?_)
                  refine w_val (v_move rfl) rfl ?_
                  refine w_val (v_extract rfl rfl) rfl ?_
                  refine w_val (v_extract rfl rfl) rfl ?_
                  refine w_val (v_assign rfl) rfl ?_
                  refine w_val (v_assign rfl) rfl ?_
                  refine w_nil ?_
                  refine e_seq ?_
                  refine e_region ?_
                  refine w_val (v_move rfl) rfl ?_
                  refine w_val (v_is (v' := .bool true) (v_neq rfl rfl) (by rfl)) rfl ?_
                  refine w_val (v_move rfl) rfl ?_
                  refine w_want rfl rfl ?_
                  refine w_val (v_move rfl) rfl ?_
                  refine w_want rfl rfl ?_
                  refine w_val (v_is (v' := .bool false) (v_neq rfl rfl) (by rfl)) rfl ?_
                  refine w_val (v_pickT rfl rfl) rfl ?_
                  refine w_nil ?_
                  refine e_condF rfl ?_
                  refine e_skip ?_
                  refine e_blk ?_
                  refine e_region ?_
                  refine w_val (v_move rfl) rfl ?_
                  refine w_val (v_add rfl rfl (by omega)) rfl ?_
                  refine w_val (v_assign rfl) rfl ?_
                  refine w_nil ?_
                  exact e_round ((n + 1, runP P1 k)) (⟨hinv2, by dsimp only; omega⟩) (by dsimp only; omega) (by repeat (first | exact Sub.nil _ | refine Sub.cons rfl ?_)) (fun _ hw => hw)
            · exact absurd (show (n : Int) ≤ (mostR r r.length : Int) by omega) hlt3
      · refine e_skip ?_
        refine e_seq ?_
        refine e_seq ?_
        refine e_region ?_
        refine w_val (v_move rfl) rfl ?_
        refine w_op rfl ?_
        refine x_call0 (v := .bool false) rfl rfl rfl Try.call24 rfl (fun w hw => by have := great_spec _ r w (hsr.mono hw.off) hb; rwa [hg] at this) ?_
        refine w_val (v_move rfl) rfl ?_
        refine w_want rfl rfl ?_
        refine w_val (v_move rfl) rfl ?_
        refine w_want rfl rfl ?_
        refine w_val (v_lenS Try.underlying51 rfl) rfl ?_
        refine w_want rfl rfl ?_
        refine w_val (v_is (v' := .bool false) (v_gtr rfl rfl) (by rw [decide_eq_false (by omega)])) rfl ?_
        refine w_val (v_pickF rfl rfl) rfl ?_
        refine w_nil ?_
        refine e_condF rfl ?_
        refine e_skip ?_
        refine e_seq ?_
        refine e_region ?_
        refine w_val (v_loadBA 0 rfl Try.underlying23 rfl Try.hi23 (Try.cz23.trans hlz.symm) rfl) rfl ?_
        refine w_val (v_move rfl) rfl ?_
        refine w_op rfl ?_
        refine x_call0 (v := .tuple #[.pointer none, .int .i64 (roundFaultL r)]) rfl rfl rfl Try.call31 rfl (fun w hw => rdNew_bad s _ r w (hsr.mono hw.off) hs10 hf) ?_
        refine w_val (v_move rfl) rfl ?_
        refine w_val (v_extract rfl rfl) rfl ?_
        refine w_val (v_extract rfl rfl) rfl ?_
        refine w_val (v_assign rfl) rfl ?_
        refine w_val (v_assign rfl) rfl ?_
        refine w_nil ?_
        refine e_seq ?_
        refine e_seq ?_
        refine e_region ?_
        refine w_val (v_move rfl) rfl ?_
        refine w_val (v_is (v' := .bool true) (v_neq rfl rfl) (by rw [decide_eq_true hf])) rfl ?_
        refine w_val (v_move rfl) rfl ?_
        refine w_skip rfl rfl rfl rfl ?_
        refine w_skip rfl rfl rfl rfl ?_
        refine w_val (v_pickT rfl rfl) rfl ?_
        refine w_nil ?_
        refine e_condT rfl ?_
        refine e_seq ?_
        refine e_region ?_
        refine w_val (v_assign rfl) rfl ?_
        refine w_nil ?_
        refine e_retQ (q_ret1 rfl (.tmp rfl) ?_)
        exact fun w' hw' => ⟨rfl, hw'.res.nil⟩
end Go.SL

