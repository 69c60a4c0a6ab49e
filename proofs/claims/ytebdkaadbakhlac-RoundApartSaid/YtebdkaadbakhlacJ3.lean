/- Ytebdkaadbakhlac: part J3 of this seat's own texts. -/
import Derived.Test.YtebdkaadbakhlacX3
set_option linter.unusedVariables false
set_option linter.unusedSimpArgs false

open Go Go.Proofs Go.SL
set_option maxRecDepth 100000
set_option maxHeartbeats 4000000
namespace Go.SL
theorem bools_at {n i : Nat} {f : Nat → Bool} (h : i < n) : (boolCells (tab n f))[((i : Nat) : Int).toNat * 1]? = some (.bool (f i)) := by simp [boolCells, tab_get h]
theorem own_res {w : World} {ad : Addr} {n k e : Nat} {a : ResL} (h : (Own (.slice (some ad) n k) e 5 n (resL a)).holds w) (ha : ∀ x ∈ a, x.2.length = 4) (hl : a.length = n) {i : Nat} (hi : i < n) {x : Int × List Int} (hx : a[i]? = some x) : Cells w.cell? (ad.add (((i : Nat) : Int).toNat * 5)) (resCells x.1 x.2) := by
  obtain ⟨A, k', he, _, _, hc⟩ := own_rds h
  injection he with e1
  subst e1
  obtain ⟨ad', h1, h2⟩ := hc (by omega)
  injection h1 with h1
  subst h1
  have hi' : i < a.length := by omega
  have := resL_cells ha h2 hi'
  rw [List.getElem?_eq_getElem hi'] at hx
  injection hx with hx
  rw [hx] at this
  rw [Int.toNat_natCast]
  exact this
theorem resX_get {n i : Nat} {X : Nat → WkL} (h : i < n) : (resX n X)[i]? = some ((X i).rc, (X i).rg) := tab_get h
theorem boolCells_grow {n : Nat} {f : Nat → Bool} : boolCells (tab n f) ++ [Value.bool (f n)] = boolCells (tab (n + 1) f) := by
  rw [tab_succ]; simp [boolCells]
theorem RoundOver_spec (s : List Int) (v vp vq : Value) (r : RoundL) (p q : List Int) (w : World) (h : IsRound w.cell? v r) (hb : ∀ d ∈ r, d.length ≤ 4398046511104) (hs10 : s.length = 10) (hp : IsInts w.cell? vp p) (hq : IsInts w.cell? vq q) :
    Calls Try.prog 5 #[intsV s, v, vp, vq] w fun e w' => e = .returned (.bool true) ∧ Res w [] [] w' := by
  have hsr := h
  rw [← off_none w] at hsr hp hq
  obtain ⟨A, ka, rfl, hle, hvc⟩ := hsr.form
  obtain ⟨Ap, kp, rfl, hlep, hpc⟩ := hp.form
  obtain ⟨Aq, kq, rfl, hleq, hqc⟩ := hq.form
  have hlz : (intCells s).length = 10 := by rw [intCells, List.length_map]; exact hs10
  refine enter0 (N := 153) Try.func5 rfl rfl rfl ?_
  refine e_seq ?_
  refine e_region ?_
  refine w_op rfl ?_
  refine x_box rfl rfl (fun b4 => ?_)
  refine w_val (v_assign rfl) rfl ?_
  refine w_nil ?_
  refine e_seq ?_
  refine e_seq ?_
  refine e_region ?_
  refine w_op rfl ?_
  refine x_call0 (v := .bool true) rfl rfl rfl Try.call23 rfl (fun w hw => roundBegun_spec w) ?_
  refine w_val (v_not rfl) rfl ?_
  refine w_nil ?_
  refine e_condF rfl ?_
  by_cases hg : greatL r = true
  · refine e_skip ?_
    refine e_seq ?_
    refine e_seq ?_
    refine e_region ?_
    refine w_val (v_move rfl) rfl ?_
    refine w_op rfl ?_
    refine x_call0 (v := .bool true) rfl rfl rfl Try.call24 rfl (fun w hw => by have := great_spec _ r w (hsr.mono hw.off) hb; rwa [hg] at this) ?_
    refine w_val (v_move rfl) rfl ?_
    refine w_skip rfl rfl rfl rfl ?_
    refine w_skip rfl rfl rfl rfl ?_
    refine w_skip rfl rfl rfl rfl ?_
    refine w_val (v_pickT rfl rfl) rfl ?_
    refine w_val (v_move rfl) rfl ?_
    refine w_skip rfl rfl rfl rfl ?_
    refine w_skip rfl rfl rfl rfl ?_
    refine w_skip rfl rfl rfl rfl ?_
    refine w_val (v_pickT rfl rfl) rfl ?_
    refine w_nil ?_
    refine e_condT rfl ?_
    refine e_seq ?_
    refine e_region ?_
    refine w_val (v_assign rfl) rfl ?_
    refine w_nil ?_
    refine e_retQ (q_ret1 rfl (.tmp rfl) ?_)
    exact fun w' hw' => ⟨rfl, hw'.res.nil⟩
  · have hg : greatL r = false := by cases h : greatL r with | true => exact absurd h hg | false => rfl
    by_cases h500 : 500 < p.length
    · refine e_skip ?_
      refine e_seq ?_
      refine e_seq ?_
      refine e_region ?_
      refine w_val (v_move rfl) rfl ?_
      refine w_op rfl ?_
      refine x_call0 (v := .bool false) rfl rfl rfl Try.call24 rfl (fun w hw => by have := great_spec _ r w (hsr.mono hw.off) hb; rwa [hg] at this) ?_
      refine w_val (v_move rfl) rfl ?_
      refine w_want rfl rfl ?_
      refine w_val (v_move rfl) rfl ?_
      refine w_want rfl rfl ?_
      refine w_val (v_lenS Try.underlying51 rfl) rfl ?_
      refine w_want rfl rfl ?_
      refine w_val (v_is (v' := .bool true) (v_gtr rfl rfl) (by rw [decide_eq_true (by omega)])) rfl ?_
      refine w_val (v_pickF rfl rfl) rfl ?_
      refine w_val (v_move rfl) rfl ?_
      refine w_skip rfl rfl rfl rfl ?_
      refine w_skip rfl rfl rfl rfl ?_
      refine w_skip rfl rfl rfl rfl ?_
      refine w_val (v_pickT rfl rfl) rfl ?_
      refine w_nil ?_
      refine e_condT rfl ?_
      refine e_seq ?_
      refine e_region ?_
      refine w_val (v_assign rfl) rfl ?_
      refine w_nil ?_
      refine e_retQ (q_ret1 rfl (.tmp rfl) ?_)
      exact fun w' hw' => ⟨rfl, hw'.res.nil⟩
    · by_cases h501 : 500 < q.length
      · refine e_skip ?_
        refine e_seq ?_
        refine e_seq ?_
        refine e_region ?_
        refine w_val (v_move rfl) rfl ?_
        refine w_op rfl ?_
        refine x_call0 (v := .bool false) rfl rfl rfl Try.call24 rfl (fun w hw => by have := great_spec _ r w (hsr.mono hw.off) hb; rwa [hg] at this) ?_
        refine w_val (v_move rfl) rfl ?_
        refine w_want rfl rfl ?_
        refine w_val (v_move rfl) rfl ?_
        refine w_want rfl rfl ?_
        refine w_val (v_lenS Try.underlying51 rfl) rfl ?_
        refine w_want rfl rfl ?_
        refine w_val (v_is (v' := .bool false) (v_gtr rfl rfl) (by rw [decide_eq_false (by omega)])) rfl ?_
        refine w_val (v_pickF rfl rfl) rfl ?_
        refine w_val (v_move rfl) rfl ?_
        refine w_want rfl rfl ?_
        refine w_val (v_move rfl) rfl ?_
        refine w_want rfl rfl ?_
        refine w_val (v_lenS Try.underlying51 rfl) rfl ?_
        refine w_want rfl rfl ?_
        refine w_val (v_is (v' := .bool true) (v_gtr rfl rfl) (by rw [decide_eq_true (by omega)])) rfl ?_
        refine w_val (v_pickF rfl rfl) rfl ?_
        refine w_nil ?_
        refine e_condT rfl ?_
        refine e_seq ?_
        refine e_region ?_
        refine w_val (v_assign rfl) rfl ?_
        refine w_nil ?_
        refine e_retQ (q_ret1 rfl (.tmp rfl) ?_)
        exact fun w' hw' => ⟨rfl, hw'.res.nil⟩
      · by_cases hf : roundFaultL r = 0
        · obtain ⟨h8, hck⟩ := roundFault_ok hf
          refine e_skip ?_
          refine e_seq ?_
          refine e_seq ?_
          refine e_region ?_
          refine w_val (v_move rfl) rfl ?_
          refine w_op rfl ?_
          refine x_call0 (v := .bool false) rfl rfl rfl Try.call24 rfl (fun w hw => by have := great_spec _ r w (hsr.mono hw.off) hb; rwa [hg] at this) ?_
          refine w_val (v_move rfl) rfl ?_
          refine w_want rfl rfl ?_
          refine w_val (v_move rfl) rfl ?_
          refine w_want rfl rfl ?_
          refine w_val (v_lenS Try.underlying51 rfl) rfl ?_
          refine w_want rfl rfl ?_
          refine w_val (v_is (v' := .bool false) (v_gtr rfl rfl) (by rw [decide_eq_false (by omega)])) rfl ?_
          refine w_val (v_pickF rfl rfl) rfl ?_
          refine w_val (v_move rfl) rfl ?_
          refine w_want rfl rfl ?_
          refine w_val (v_move rfl) rfl ?_
          refine w_want rfl rfl ?_
          refine w_val (v_lenS Try.underlying51 rfl) rfl ?_
          refine w_want rfl rfl ?_
          refine w_val (v_is (v' := .bool false) (v_gtr rfl rfl) (by rw [decide_eq_false (by omega)])) rfl ?_
          refine w_val (v_pickF rfl rfl) rfl ?_
          refine w_nil ?_
          refine e_condF rfl ?_
          refine e_skip ?_
          refine e_seq ?_
          refine e_region ?_
          refine w_val (v_loadBA 0 rfl Try.underlying23 rfl Try.hi23 (Try.cz23.trans hlz.symm) rfl) rfl ?_
          refine w_val (v_move rfl) rfl ?_
          refine w_op rfl ?_
          refine x_call (dst := some 36) (mc := []) (σ := RdP) (fun _ => True) (fun y => .tuple #[.pointer (some ⟨y.pr, 0, none⟩), .int .i64 0]) (fun y => rnH y r.length (newP s r)) rfl rfl rfl Try.call31 (fun w hw => rdNew_ok s _ r w (hsr.mono hw.off) hs10 hf) rfl (fun y _ => ?_); obtain ⟨pr, pt, ht, pw, dvw, wv⟩ := y; dsimp only
          refine w_val (v_move rfl) rfl ?_
          refine w_val (v_extract rfl rfl) rfl ?_
          refine w_val (v_extract rfl rfl) rfl ?_
          refine w_val (v_assign rfl) rfl ?_
          refine w_val (v_assign rfl) rfl ?_
          refine w_nil ?_
          refine e_seq ?_
          refine e_seq ?_
          refine e_region ?_
          refine w_val (v_move rfl) rfl ?_
          refine w_val (v_is (v' := .bool false) (v_neq rfl rfl) (by rfl)) rfl ?_
          refine w_val (v_move rfl) rfl ?_
          refine w_want rfl rfl ?_
          refine w_val (v_move rfl) rfl ?_
          refine w_want rfl rfl ?_
          refine w_val (v_is (v' := .bool false) (v_eqlPtr Try.underlying62 rfl rfl) (by rfl)) rfl ?_
          refine w_val (v_pickF rfl rfl) rfl ?_
          refine w_nil ?_
          refine e_condF rfl ?_
          refine e_skip ?_
          refine e_seq ?_
          refine e_seq ?_
          refine e_region ?_
          refine w_val (v_assign rfl) rfl ?_
          refine w_nil ?_
          refine e_block ?_
          refine e_loopH (σ := Nat × RunS) [1, 2, 3, 9] (.cons rfl (.cons rfl (.cons rfl (.cons rfl .nil)))) (fun x => [(11, .int .i64 (x.1 : Int))]) (fun x => rnH ⟨pr, pt, ht, pw, dvw, wv⟩ r.length x.2) (fun x => x.1 ≤ p.length ∧ InvR s r x.2.1 x.2.2) (fun x => p.length - x.1) (0, newP s r) ⟨Nat.zero_le _, inv_new hs10 hf⟩ (by repeat (first | exact Sub.nil _ | refine Sub.cons rfl ?_)) (fun _ hw => hw.pick [0, 1, 2, 3, 4] (by decide)) ?_
          rintro ⟨i, P⟩ ⟨hi, hinv⟩
          dsimp only at hi hinv ⊢
          refine e_seq ?_
          refine e_seq ?_
          refine e_region ?_
          refine w_val (v_move rfl) rfl ?_
          refine w_val (v_move rfl) rfl ?_
          refine w_val (v_lenS Try.underlying51 rfl) rfl ?_
          refine w_val (v_lss rfl rfl) rfl ?_
          refine w_nil ?_
          refine e_condD rfl (fun hlt => ?_) (fun hlt => ?_)
          · have hi' : i < p.length := by omega
            obtain ⟨ad, rfl, hcell⟩ := hpc i hi'
            have hinv' := hinv.pick p[i]
            generalize p[i] = pi at *
            refine e_skip ?_
            refine e_seq ?_
            refine e_block ?_
            refine e_region ?_
            refine w_val (v_move rfl) rfl ?_
            refine w_val (v_move rfl) rfl ?_
            refine w_val (v_move rfl) rfl ?_
            refine w_val (v_indexS Try.underlying51 Try.hi3 Try.cz3 rfl rfl (by first | omega | decide)) rfl ?_
            refine w_val (v_loadO Try.underlying3 rfl rfl (hcell)) rfl ?_
            refine w_op rfl ?_
            refine x_call (dst := some 56) (mc := rnH ⟨pr, pt, ht, pw, dvw, wv⟩ r.length P) (mr := []) (σ := Unit) (fun _ => True) (fun _ => .tuple #[.int .i64 (pickR r.length P pi).1.1, .int .i64 (pickR r.length P pi).1.2]) (fun _ => rnH ⟨pr, pt, ht, pw, dvw, wv⟩ r.length (pickR r.length P pi).2) rfl rfl rfl Try.call32 (fun w hw => rdPick_spec s r ⟨pr, pt, ht, pw, dvw, wv⟩ P pi w (res_part hw).1 (res_part hw).2 hinv) rfl (fun _ _ => ?_)
            refine w_nil ?_
            refine e_blk ?_
            refine e_region ?_
            refine w_val (v_move rfl) rfl ?_
            refine w_val (v_add rfl rfl (by omega)) rfl ?_
            refine w_val (v_assign rfl) rfl ?_
            refine w_nil ?_
            exact e_round ((i + 1, (pickR r.length P pi).2)) (⟨by dsimp only; omega, hinv'⟩) (by dsimp only; omega) (by repeat (first | exact Sub.nil _ | refine Sub.cons rfl ?_)) (fun _ hw => hw)
          · refine e_exit rfl ?_
            refine e_seq ?_
            refine e_region ?_
            refine w_val (v_move rfl) rfl ?_
            refine w_op rfl ?_
            refine x_call (dst := some 58) (mc := []) (σ := Option Addr × Nat) (fun x => r.length ≤ x.2) (fun x => .slice x.1 r.length r.length) (fun x => [Own (.slice x.1 r.length x.2) 30 5 r.length (resL (resX r.length P.1))]) rfl rfl rfl Try.call33 (fun w hw => rdResults_spec pr r.length P.1 w (rnH_v (y := ⟨pr, pt, ht, pw, dvw, wv⟩) hinv hw (by simp) (by simp) (by simp)) (by omega)) rfl (fun x hx => ?_); obtain ⟨Ae, ke⟩ := x; dsimp only at hx; dsimp only
            refine w_val (v_assign rfl) rfl ?_
            refine w_nil ?_
            refine e_seq ?_
            refine e_region ?_
            refine w_val (v_assign rfl) rfl ?_
            refine w_nil ?_
            refine e_seq ?_
            refine e_seq ?_
            refine e_region ?_
            refine w_val (v_assign rfl) rfl ?_
            refine w_nil ?_
            refine e_block ?_
            refine e_loopH (σ := Nat × Value) [1, 3, 9, 12] (.cons rfl (.cons rfl (.cons rfl (.cons rfl .nil)))) (fun x => [(13, x.2), (14, .int .i64 (x.1 : Int))]) (fun x => rnH ⟨pr, pt, ht, pw, dvw, wv⟩ r.length P ++ [Own (.slice Ae r.length ke) 30 5 r.length (resL (resX r.length P.1)), Own x.2 4 1 x.1 (boolCells (tab x.1 fun j => (P.1 j).ov))]) (fun x => x.1 ≤ r.length) (fun x => r.length - x.1) (0, .slice none 0 0) (Nat.zero_le _) (by repeat (first | exact Sub.nil _ | refine Sub.cons rfl ?_)) (fun _ hw => (hw.ownNil 4 1).pick [2, 3, 4, 5, 6, 1, 0] (by decide)) ?_
            rintro ⟨j, vd⟩ hj
            dsimp only at hj ⊢
            refine e_seq ?_
            refine e_seq ?_
            refine e_region ?_
            refine w_val (v_move rfl) rfl ?_
            refine w_val (v_move rfl) rfl ?_
            refine w_val (v_lenS Try.underlying38 rfl) rfl ?_
            refine w_val (v_lss rfl rfl) rfl ?_
            refine w_nil ?_
            refine e_condD rfl (fun hlt2 => ?_) (fun hlt2 => ?_)
            · have hj' : j < r.length := by omega
              refine e_skip ?_
              refine e_seq ?_
              refine e_block ?_
              refine e_region ?_
              refine w_val (v_move rfl) rfl ?_
              refine w_val (v_move rfl) rfl ?_
              refine w_val (v_move rfl) rfl ?_
              refine w_op rfl ?_
              refine x_call0 (v := .bool (P.1 j).ov) rfl rfl rfl Try.call34 rfl (fun w hw => by have := rdDone_spec pr r.length P.1 j w (rnH_v (y := ⟨pr, pt, ht, pw, dvw, wv⟩) hinv hw (by simp) (by simp) (by simp)) (by omega); rwa [doneX_at hj'] at this) ?_
              refine w_op rfl ?_
              refine x_buildSlice _ ([Value.bool (P.1 j).ov]) rfl (run_buildSlice Try.underlying67 Try.hi4 Try.cz4 Try.zeroValue4 rfl (by kernel_rfl)) rfl (fun b69 => ?_)
              refine w_op rfl ?_
              refine x_appendIS (z := .bool false) (n := j) (xs := boolCells (tab j fun j => (P.1 j).ov)) (size := 1) (bytes := 1) (k := 1) (news := [Value.bool (P.1 j).ov]) 7 rfl rfl rfl Try.underlying67 (by kernel_rfl) rfl (by decide) (fun w hw => blk_rds (hw.hold _ (List.mem_cons_self ..)) rfl) (by intro u hu; rw [List.mem_singleton.1 hu]; rfl) (by omega) (by simp only [maxLen]; omega) rfl (fun A4 cap4 _ => ?_)
              refine w_val (v_assign rfl) rfl ?_
              refine w_nil ?_
              refine e_blk ?_
              refine e_region ?_
              refine w_val (v_move rfl) rfl ?_
              refine w_val (v_add rfl rfl (by omega)) rfl ?_
              refine w_val (v_assign rfl) rfl ?_
              refine w_nil ?_
              exact e_round ((j + 1, .slice A4 (j + 1) cap4)) (by dsimp only; omega) (by dsimp only; omega) (by repeat (first | exact Sub.nil _ | refine Sub.cons rfl ?_)) (fun _ hw => by dsimp only; rw [← boolCells_grow]; exact hw.sub (List.sublist_cons_self _ _))
            · have e : j = r.length := by omega
              subst e
              refine e_exit rfl ?_
              refine e_seq ?_
              refine e_region ?_
              refine w_val (v_move rfl) rfl ?_
              refine w_op rfl ?_
              refine x_call (dst := some 72) (mc := rnH ⟨pr, pt, ht, pw, dvw, wv⟩ r.length P) (mr := [Own (.slice Ae r.length ke) 30 5 r.length (resL (resX r.length P.1)), Own vd 4 1 r.length (boolCells (tab r.length fun j => (P.1 j).ov))]) (σ := RunS) (fun P' => InvR s r P'.1 P'.2 ∧ AllO r.length P'.1) (fun _ => .tuple #[]) (fun P' => rnH ⟨pr, pt, ht, pw, dvw, wv⟩ r.length P') rfl rfl rfl Try.call35 (fun w hw => rdFinish_spec s r ⟨pr, pt, ht, pw, dvw, wv⟩ P w (res_part hw).1 (res_part hw).2 hinv) rfl (fun P' hP' => ?_)
              refine w_nil ?_
              obtain ⟨hinv', ho⟩ := hP'
              refine g_shape2 6 rfl fun Ad kd hvd hkd hAd => ?_
              subst hvd
              refine g_shape2 5 rfl fun Ae' ke' hve hke hAe => ?_
              injection hve with e1 _ e2
              subst e1
              subst e2
              have hst := (hinv'.state ho).1
              have hrx := hinv'.resX ho
              have hzl := stAt_len (r := r) hs10 r.length
              have hn := hinv'.short
              have hrar := resAll_regs hs10 r
              have hral := resAll_len s r
              generalize hz : stAt s r r.length = z at *
              obtain ⟨z0, z1, z2, z3, z4, z5, z6, z7, z8, z9, rfl⟩ := list10 hzl
              refine e_seq ?_
              refine e_cutH (σ := Nat × Option Addr × Nat) [1, 3, 9, 12, 13] (.cons rfl (.cons rfl (.cons rfl (.cons rfl (.cons rfl .nil))))) (fun y => [(15, .slice y.2.1 r.length r.length), (16, .pointer (some ⟨y.1, 0, none⟩))]) (fun y => rnH ⟨pr, pt, ht, pw, dvw, wv⟩ r.length P' ++ [Own (.slice Ae r.length ke) 30 5 r.length (resL (resX r.length P.1)), Own (.slice Ad r.length kd) 4 1 r.length (boolCells (tab r.length fun j => (P.1 j).ov)), .blk y.1 23 (intCells [z0, z1, z2, z3, z4, z5, z6, z7, z8, z9]), Own (.slice y.2.1 r.length y.2.2) 30 5 r.length (resL (resAll s r))]) (fun _ => True) ?_ ?_
              · refine e_draw ([rnB ⟨pr, pt, ht, pw, dvw, wv⟩]) Try.mixed ?_
                refine a_take 0 pan_cx (by kernel_rfl) (fun _ hw => hw.sub (by repeat (first | exact List.Sublist.slnil | exact List.Sublist.refl _ | apply List.Sublist.cons_cons | apply List.Sublist.cons))) rfl (by kernel_rfl) (by kernel_rfl) (v_move rfl) rfl ?_
                refine a_take 2 pan_cx (by kernel_rfl) (fun _ hw => hw.sub (by repeat (first | exact List.Sublist.slnil | exact List.Sublist.refl _ | apply List.Sublist.cons_cons | apply List.Sublist.cons))) rfl (by kernel_rfl) (by kernel_rfl) (v_move rfl) rfl ?_
                refine a_take 3 pan_cx (by kernel_rfl) (fun _ hw => hw.sub (by repeat (first | exact List.Sublist.slnil | exact List.Sublist.refl _ | apply List.Sublist.cons_cons | apply List.Sublist.cons))) rfl (by kernel_rfl) (by kernel_rfl) (v_nilCheck rfl) rfl ?_
                refine a_take 4 pan_cx (by kernel_rfl) (fun _ hw => hw.sub (by repeat (first | exact List.Sublist.slnil | exact List.Sublist.refl _ | apply List.Sublist.cons_cons | apply List.Sublist.cons))) rfl (by kernel_rfl) (by kernel_rfl) (v_fieldAddrB (o := 0) Try.underlying70 rfl rfl Try.nz40 rfl) rfl ?_
                refine a_take 5 pan_cx (by kernel_rfl) (fun _ hw => hw.sub (by repeat (first | exact List.Sublist.slnil | exact List.Sublist.refl _ | apply List.Sublist.cons_cons | apply List.Sublist.cons))) rfl (by kernel_rfl) (by kernel_rfl) (v_loadB 0 rfl Try.underlying40 rfl rfl rfl) rfl ?_
                refine a_all [1, 7] (by kernel_rfl) rfl ?_
                intro i hi
                simp only [List.mem_cons, List.not_mem_nil, or_false] at hi
                rcases hi with rfl | rfl
                · refine a_op rfl rfl ?_
                  refine x_call (dst := some 74) (mc := []) (σ := Option Addr × Nat) (fun x => r.length ≤ x.2) (fun x => .slice x.1 r.length r.length) (fun x => [Own (.slice x.1 r.length x.2) 30 5 r.length (resL (resAll s r))]) rfl rfl rfl Try.call33 (fun w hw => by have := rdResults_spec pr r.length P'.1 w (rnH_v (y := ⟨pr, pt, ht, pw, dvw, wv⟩) hinv' hw (by simp) (by simp) (by simp)) (by omega); rwa [hrx] at this) rfl (fun x hx => ?_); obtain ⟨xa, xk⟩ := x; dsimp only at hx; dsimp only
                  refine a_and (fun _ hw => hw.sub (by repeat (first | exact List.Sublist.slnil | exact List.Sublist.refl _ | apply List.Sublist.cons_cons | apply List.Sublist.cons))) ?_
                  refine a_all [6, 7] (by kernel_rfl) rfl ?_
                  intro i hi
                  simp only [List.mem_cons, List.not_mem_nil, or_false] at hi
                  rcases hi with rfl | rfl
                  · refine a_op rfl rfl ?_
                    refine x_call0 (v := intsV [z0, z1, z2, z3, z4, z5, z6, z7, z8, z9]) rfl rfl rfl Try.call21 rfl (fun w hw => by have := tabState_spec pt ht P'.2 w (hw.tbV 2 rfl rfl) hn; rwa [hst] at this) ?_
                    refine a_and (fun _ hw => hw.sub (by repeat (first | exact List.Sublist.slnil | exact List.Sublist.refl _ | apply List.Sublist.cons_cons | apply List.Sublist.cons))) ?_
                    refine a_one 7 (by kernel_rfl) rfl rfl ?_
                    refine x_alloc (z := .agg #[.int .i64 0, .int .i64 0, .int .i64 0, .int .i64 0, .int .i64 0, .int .i64 0, .int .i64 0, .int .i64 0, .int .i64 0, .int .i64 0]) (by intro w; exact Try.zeroValue23 w) rfl (fun b16 => ?_)
                    refine a_and (fun _ hw => hw.sub (by repeat (first | exact List.Sublist.slnil | exact List.Sublist.refl _ | apply List.Sublist.cons_cons | apply List.Sublist.cons))) ?_
                    refine a_take 8 pan_cx (by kernel_rfl) (fun _ hw => hw.sub (by repeat (first | exact List.Sublist.slnil | exact List.Sublist.refl _ | apply List.Sublist.cons_cons | apply List.Sublist.cons))) rfl (by kernel_rfl) (by kernel_rfl) (v_assign rfl) rfl ?_
                    refine a_one 9 (by kernel_rfl) rfl rfl ?_
                    refine x_storeA 0 rfl rfl rfl Try.hi23 (Try.cz23.trans (by simp [Value.cells, intsV, resCells, intCells, hs10])) (by simp [Value.cells, intsV, resCells, intCells, hs10]) (by first | exact one_intCells _ | exact one_resCells _ _) ?_
                    refine a_and (fun _ hw => hw.sub (by repeat (first | exact List.Sublist.slnil | exact List.Sublist.refl _ | apply List.Sublist.cons_cons | apply List.Sublist.cons))) ?_
                    refine a_done (by kernel_rfl) ?_
                    exact e_cutEnd (b16, xa, xk) trivial (by repeat (first | exact Sub.nil _ | refine Sub.cons rfl ?_)) (fun _ hw => by first | exact hw.pick [2, 3, 4, 5, 6, 7, 8, 0, 1] (by decide) | exact hw.pick [2, 3, 4, 5, 6, 7, 8, 1, 0] (by decide))
                  · refine a_op rfl rfl ?_
                    refine x_alloc (z := .agg #[.int .i64 0, .int .i64 0, .int .i64 0, .int .i64 0, .int .i64 0, .int .i64 0, .int .i64 0, .int .i64 0, .int .i64 0, .int .i64 0]) (by intro w; exact Try.zeroValue23 w) rfl (fun b16 => ?_)
                    refine a_and (fun _ hw => hw.sub (by repeat (first | exact List.Sublist.slnil | exact List.Sublist.refl _ | apply List.Sublist.cons_cons | apply List.Sublist.cons))) ?_
                    refine a_one 6 (by kernel_rfl) rfl rfl ?_
                    refine x_call0 (v := intsV [z0, z1, z2, z3, z4, z5, z6, z7, z8, z9]) rfl rfl rfl Try.call21 rfl (fun w hw => by have := tabState_spec pt ht P'.2 w (hw.tbV 3 rfl rfl) hn; rwa [hst] at this) ?_
                    refine a_and (fun _ hw => hw.sub (by repeat (first | exact List.Sublist.slnil | exact List.Sublist.refl _ | apply List.Sublist.cons_cons | apply List.Sublist.cons))) ?_
                    refine a_take 8 pan_cx (by kernel_rfl) (fun _ hw => hw.sub (by repeat (first | exact List.Sublist.slnil | exact List.Sublist.refl _ | apply List.Sublist.cons_cons | apply List.Sublist.cons))) rfl (by kernel_rfl) (by kernel_rfl) (v_assign rfl) rfl ?_
                    refine a_one 9 (by kernel_rfl) rfl rfl ?_
                    refine x_storeA 0 rfl rfl rfl Try.hi23 (Try.cz23.trans (by simp [Value.cells, intsV, resCells, intCells, hs10])) (by simp [Value.cells, intsV, resCells, intCells, hs10]) (by first | exact one_intCells _ | exact one_resCells _ _) ?_
                    refine a_and (fun _ hw => hw.sub (by repeat (first | exact List.Sublist.slnil | exact List.Sublist.refl _ | apply List.Sublist.cons_cons | apply List.Sublist.cons))) ?_
                    refine a_done (by kernel_rfl) ?_
                    exact e_cutEnd (b16, xa, xk) trivial (by repeat (first | exact Sub.nil _ | refine Sub.cons rfl ?_)) (fun _ hw => by first | exact hw.pick [2, 3, 4, 5, 6, 7, 8, 0, 1] (by decide) | exact hw.pick [2, 3, 4, 5, 6, 7, 8, 1, 0] (by decide))
                · refine a_op rfl rfl ?_
                  refine x_alloc (z := .agg #[.int .i64 0, .int .i64 0, .int .i64 0, .int .i64 0, .int .i64 0, .int .i64 0, .int .i64 0, .int .i64 0, .int .i64 0, .int .i64 0]) (by intro w; exact Try.zeroValue23 w) rfl (fun b16 => ?_)
                  refine a_and (fun _ hw => hw.sub (by repeat (first | exact List.Sublist.slnil | exact List.Sublist.refl _ | apply List.Sublist.cons_cons | apply List.Sublist.cons))) ?_
                  refine a_one 1 (by kernel_rfl) rfl rfl ?_
                  refine x_call (dst := some 74) (mc := []) (σ := Option Addr × Nat) (fun x => r.length ≤ x.2) (fun x => .slice x.1 r.length r.length) (fun x => [Own (.slice x.1 r.length x.2) 30 5 r.length (resL (resAll s r))]) rfl rfl rfl Try.call33 (fun w hw => by have := rdResults_spec pr r.length P'.1 w (rnH_v (y := ⟨pr, pt, ht, pw, dvw, wv⟩) hinv' hw (by simp) (by simp) (by simp)) (by omega); rwa [hrx] at this) rfl (fun x hx => ?_); obtain ⟨xa, xk⟩ := x; dsimp only at hx; dsimp only
                  refine a_and (fun _ hw => hw.sub (by repeat (first | exact List.Sublist.slnil | exact List.Sublist.refl _ | apply List.Sublist.cons_cons | apply List.Sublist.cons))) ?_
                  refine a_one 6 (by kernel_rfl) rfl rfl ?_
                  refine x_call0 (v := intsV [z0, z1, z2, z3, z4, z5, z6, z7, z8, z9]) rfl rfl rfl Try.call21 rfl (fun w hw => by have := tabState_spec pt ht P'.2 w (hw.tbV 3 rfl rfl) hn; rwa [hst] at this) ?_
                  refine a_and (fun _ hw => hw.sub (by repeat (first | exact List.Sublist.slnil | exact List.Sublist.refl _ | apply List.Sublist.cons_cons | apply List.Sublist.cons))) ?_
                  refine a_take 8 pan_cx (by kernel_rfl) (fun _ hw => hw.sub (by repeat (first | exact List.Sublist.slnil | exact List.Sublist.refl _ | apply List.Sublist.cons_cons | apply List.Sublist.cons))) rfl (by kernel_rfl) (by kernel_rfl) (v_assign rfl) rfl ?_
                  refine a_one 9 (by kernel_rfl) rfl rfl ?_
                  refine x_storeA 1 rfl rfl rfl Try.hi23 (Try.cz23.trans (by simp [Value.cells, intsV, resCells, intCells, hs10])) (by simp [Value.cells, intsV, resCells, intCells, hs10]) (by first | exact one_intCells _ | exact one_resCells _ _) ?_
                  refine a_and (fun _ hw => hw.sub (by repeat (first | exact List.Sublist.slnil | exact List.Sublist.refl _ | apply List.Sublist.cons_cons | apply List.Sublist.cons))) ?_
                  refine a_done (by kernel_rfl) ?_
                  exact e_cutEnd (b16, xa, xk) trivial (by repeat (first | exact Sub.nil _ | refine Sub.cons rfl ?_)) (fun _ hw => by first | exact hw.pick [2, 3, 4, 5, 6, 7, 8, 0, 1] (by decide) | exact hw.pick [2, 3, 4, 5, 6, 7, 8, 1, 0] (by decide))
              · rintro ⟨b16, xa, xk⟩ -
                dsimp only
                refine g_shape2 8 rfl fun xa' xk' hvx hkx hAx => ?_
                injection hvx with e1 _ e2
                subst e1
                subst e2
                refine e_seq ?_
                refine e_seq ?_
                refine e_region ?_
                refine w_val (v_move rfl) rfl ?_
                refine w_val (v_lenS Try.underlying57 rfl) rfl ?_
                refine w_val (v_move rfl) rfl ?_
                refine w_val (v_lenS Try.underlying38 rfl) rfl ?_
                refine w_val (v_is (v' := .bool false) (v_neq rfl rfl) (by rw [decide_eq_false (fun h => h rfl)])) rfl ?_
                refine w_val (v_move rfl) rfl ?_
                refine w_want rfl rfl ?_
                refine w_val (v_move rfl) rfl ?_
                refine w_want rfl rfl ?_
                refine w_val (v_lenS Try.underlying57 rfl) rfl ?_
                refine w_want rfl rfl ?_
                refine w_val (v_move rfl) rfl ?_
                refine w_want rfl rfl ?_
                refine w_val (v_lenS Try.underlying38 rfl) rfl ?_
                refine w_want rfl rfl ?_
                refine w_val (v_is (v' := .bool false) (v_neq rfl rfl) (by rw [decide_eq_false (fun h => h rfl)])) rfl ?_
                refine w_val (v_pickF rfl rfl) rfl ?_
                refine w_nil ?_
                refine e_condF rfl ?_
                refine e_skip ?_
                refine e_seq ?_
                refine e_seq ?_
                refine e_region ?_
                refine w_val (v_assign rfl) rfl ?_
                refine w_nil ?_
                refine e_block ?_
                refine e_loopH (σ := Nat) [1, 3, 9, 12, 13, 15, 16] (.cons rfl (.cons rfl (.cons rfl (.cons rfl (.cons rfl (.cons rfl (.cons rfl .nil))))))) (fun i => [(17, .int .i64 (i : Int))]) (fun _ => rnH ⟨pr, pt, ht, pw, dvw, wv⟩ r.length P' ++ [Own (.slice Ae r.length ke) 30 5 r.length (resL (resX r.length P.1)), Own (.slice Ad r.length kd) 4 1 r.length (boolCells (tab r.length fun j => (P.1 j).ov)), .blk b16 23 (intCells [z0, z1, z2, z3, z4, z5, z6, z7, z8, z9]), Own (.slice xa r.length xk) 30 5 r.length (resL (resAll s r))]) (fun i => i ≤ r.length) (fun i => r.length - i) 0 (Nat.zero_le _) (by repeat (first | exact Sub.nil _ | refine Sub.cons rfl ?_)) (fun _ hw => hw) ?_
                rintro j hj
                dsimp only at hj ⊢
                refine e_seq ?_
                refine e_seq ?_
                refine e_region ?_
                refine w_val (v_move rfl) rfl ?_
                refine w_val (v_move rfl) rfl ?_
                refine w_val (v_lenS Try.underlying38 rfl) rfl ?_
                refine w_val (v_lss rfl rfl) rfl ?_
                refine w_nil ?_
                refine e_condD rfl (fun hlt3 => ?_) (fun hlt3 => ?_)
                · have hj' : j < r.length := by omega
                  obtain ⟨add, rfl⟩ := hAd (by omega)
                  obtain ⟨ade, rfl⟩ := hAe (by omega)
                  obtain ⟨adx, rfl⟩ := hAx (by omega)
                  have hrl := (hinv.w j).rlen
                  have hrl5 : (resCells (P.1 j).rc (P.1 j).rg).length = 5 := by simp [resCells, intCells, hrl]
                  have hoj := ho j hj'
                  have hral2 := resAll_at (s := s) hj'
                  cases hoo : (P.1 j).ov with
                  | true =>
                    have hres := hinv.res hoo
                    rw [← hres] at hral2
                    refine e_skip ?_
                    refine e_seq ?_
                    refine e_block ?_
                    refine e_seq ?_
                    refine e_draw (rnH ⟨pr, pt, ht, pw, dvw, wv⟩ r.length P' ++ [Own (.slice (some ade) r.length ke) 30 5 r.length (resL (resX r.length P.1)), Own (.slice (some add) r.length kd) 4 1 r.length (boolCells (tab r.length fun j => (P.1 j).ov)), .blk b16 23 (intCells [z0, z1, z2, z3, z4, z5, z6, z7, z8, z9]), Own (.slice (some adx) r.length xk) 30 5 r.length (resL (resAll s r))]) Try.mixed ?_
                    refine a_take 0 pan_cx (by kernel_rfl) (fun _ hw => hw.sub (by repeat (first | exact List.Sublist.slnil | exact List.Sublist.refl _ | apply List.Sublist.cons_cons | apply List.Sublist.cons))) rfl (by kernel_rfl) (by kernel_rfl) (v_move rfl) rfl ?_
                    refine a_take 1 pan_cx (by kernel_rfl) (fun _ hw => hw.sub (by repeat (first | exact List.Sublist.slnil | exact List.Sublist.refl _ | apply List.Sublist.cons_cons | apply List.Sublist.cons))) rfl (by kernel_rfl) (by kernel_rfl) (v_move rfl) rfl ?_
                    refine a_take 2 pan_cx (by kernel_rfl) (fun _ hw => hw.sub (by repeat (first | exact List.Sublist.slnil | exact List.Sublist.refl _ | apply List.Sublist.cons_cons | apply List.Sublist.cons))) rfl (by kernel_rfl) (by kernel_rfl) (v_indexS Try.underlying67 Try.hi4 Try.cz4 rfl rfl (by first | omega | decide)) rfl ?_
                    refine a_take 3 pan_cx (by kernel_rfl) (fun _ hw => hw.sub (by repeat (first | exact List.Sublist.slnil | exact List.Sublist.refl _ | apply List.Sublist.cons_cons | apply List.Sublist.cons))) rfl (by kernel_rfl) (by kernel_rfl) (v_is (v' := .bool true) (v_loadW 6 rfl (by omega) (bools_at hj') Try.underlying4 rfl rfl) (by rw [hoo])) rfl ?_
                    refine a_take 4 pan_cx (by kernel_rfl) (fun _ hw => hw.sub (by repeat (first | exact List.Sublist.slnil | exact List.Sublist.refl _ | apply List.Sublist.cons_cons | apply List.Sublist.cons))) rfl (by kernel_rfl) (by kernel_rfl) (v_move rfl) rfl ?_
                    refine a_want 5 pan_cx (by kernel_rfl) (fun _ hw => hw.sub (by repeat (first | exact List.Sublist.slnil | exact List.Sublist.refl _ | apply List.Sublist.cons_cons | apply List.Sublist.cons))) rfl (by kernel_rfl) (by kernel_rfl) rfl rfl (v_move rfl) rfl ?_
                    refine a_want 6 pan_cx (by kernel_rfl) (fun _ hw => hw.sub (by repeat (first | exact List.Sublist.slnil | exact List.Sublist.refl _ | apply List.Sublist.cons_cons | apply List.Sublist.cons))) rfl (by kernel_rfl) (by kernel_rfl) rfl rfl (v_move rfl) rfl ?_
                    refine a_want 7 pan_cx (by kernel_rfl) (fun _ hw => hw.sub (by repeat (first | exact List.Sublist.slnil | exact List.Sublist.refl _ | apply List.Sublist.cons_cons | apply List.Sublist.cons))) rfl (by kernel_rfl) (by kernel_rfl) rfl rfl (v_indexS Try.underlying57 Try.hi30 Try.cz30 rfl rfl (by first | omega | decide)) rfl ?_
                    refine a_want 8 pan_cx (by kernel_rfl) (fun _ hw => hw.sub (by repeat (first | exact List.Sublist.slnil | exact List.Sublist.refl _ | apply List.Sublist.cons_cons | apply List.Sublist.cons))) rfl (by kernel_rfl) (by kernel_rfl) rfl rfl (v_loadN (cs := resCells (P.1 j).rc (P.1 j).rg) Try.underlying30 rfl Try.hi30 (Try.cz30.trans hrl5.symm) rfl (fun w hw => own_res (x := ((P.1 j).rc, (P.1 j).rg)) (hw.mem (i := 5) rfl) (hinv.resRegs _) resX_len hj' (resX_get hj'))) rfl ?_
                    refine a_want 9 pan_cx (by kernel_rfl) (fun _ hw => hw.sub (by repeat (first | exact List.Sublist.slnil | exact List.Sublist.refl _ | apply List.Sublist.cons_cons | apply List.Sublist.cons))) rfl (by kernel_rfl) (by kernel_rfl) rfl rfl (v_move rfl) rfl ?_
                    refine a_want 10 pan_cx (by kernel_rfl) (fun _ hw => hw.sub (by repeat (first | exact List.Sublist.slnil | exact List.Sublist.refl _ | apply List.Sublist.cons_cons | apply List.Sublist.cons))) rfl (by kernel_rfl) (by kernel_rfl) rfl rfl (v_move rfl) rfl ?_
                    refine a_want 11 pan_cx (by kernel_rfl) (fun _ hw => hw.sub (by repeat (first | exact List.Sublist.slnil | exact List.Sublist.refl _ | apply List.Sublist.cons_cons | apply List.Sublist.cons))) rfl (by kernel_rfl) (by kernel_rfl) rfl rfl (v_indexS Try.underlying57 Try.hi30 Try.cz30 rfl rfl (by first | omega | decide)) rfl ?_
                    refine a_want 12 pan_cx (by kernel_rfl) (fun _ hw => hw.sub (by repeat (first | exact List.Sublist.slnil | exact List.Sublist.refl _ | apply List.Sublist.cons_cons | apply List.Sublist.cons))) rfl (by kernel_rfl) (by kernel_rfl) rfl rfl (v_loadN (cs := resCells (P.1 j).rc (P.1 j).rg) Try.underlying30 rfl Try.hi30 (Try.cz30.trans hrl5.symm) rfl (fun w hw => own_res (x := ((P.1 j).rc, (P.1 j).rg)) (hw.mem (i := 8) rfl) hrar hral hj' hral2)) rfl ?_
                    refine a_want 13 pan_cx (by kernel_rfl) (fun _ hw => hw.sub (by repeat (first | exact List.Sublist.slnil | exact List.Sublist.refl _ | apply List.Sublist.cons_cons | apply List.Sublist.cons))) rfl (by kernel_rfl) (by kernel_rfl) rfl rfl (v_is (v' := .bool false) (v_neqRes Try.underlying30 (by kernel_rfl) (by kernel_rfl) (by kernel_rfl) rfl rfl Try.underlying3 Try.underlying28 Try.underlying2 Try.hi2 Try.cz2 Try.hi28 Try.cz28 (by first | rfl | assumption | (simp; omega)) (by first | rfl | assumption | (simp; omega)) rfl rfl) (by rw [decide_eq_false (fun h => h ⟨rfl, rfl⟩)])) rfl ?_
                    refine a_take 14 pan_cx (by kernel_rfl) (fun _ hw => hw.sub (by repeat (first | exact List.Sublist.slnil | exact List.Sublist.refl _ | apply List.Sublist.cons_cons | apply List.Sublist.cons))) rfl (by kernel_rfl) (by kernel_rfl) (v_pickT rfl rfl) rfl ?_
                    refine a_take 15 pan_cx (by kernel_rfl) (fun _ hw => hw.sub (by repeat (first | exact List.Sublist.slnil | exact List.Sublist.refl _ | apply List.Sublist.cons_cons | apply List.Sublist.cons))) rfl (by kernel_rfl) (by kernel_rfl) (v_move rfl) rfl ?_
                    refine a_want 16 pan_cx (by kernel_rfl) (fun _ hw => hw.sub (by repeat (first | exact List.Sublist.slnil | exact List.Sublist.refl _ | apply List.Sublist.cons_cons | apply List.Sublist.cons))) rfl (by kernel_rfl) (by kernel_rfl) rfl rfl (v_move rfl) rfl ?_
                    refine a_want 17 pan_cx (by kernel_rfl) (fun _ hw => hw.sub (by repeat (first | exact List.Sublist.slnil | exact List.Sublist.refl _ | apply List.Sublist.cons_cons | apply List.Sublist.cons))) rfl (by kernel_rfl) (by kernel_rfl) rfl rfl (v_move rfl) rfl ?_
                    refine a_oneW 18 (by kernel_rfl) rfl rfl rfl ?_
                    refine x_call0 (v := .bool true) rfl rfl rfl Try.call34 rfl (fun w hw => by have := rdDone_spec pr r.length P'.1 j w (rnH_v (y := ⟨pr, pt, ht, pw, dvw, wv⟩) hinv' hw (by simp) (by simp) (by simp)) (by omega); rwa [doneX_at hj', hoj] at this) ?_
                    refine a_and (fun _ hw => hw.sub (by repeat (first | exact List.Sublist.slnil | exact List.Sublist.refl _ | apply List.Sublist.cons_cons | apply List.Sublist.cons))) ?_
                    refine a_want 19 pan_cx (by kernel_rfl) (fun _ hw => hw.sub (by repeat (first | exact List.Sublist.slnil | exact List.Sublist.refl _ | apply List.Sublist.cons_cons | apply List.Sublist.cons))) rfl (by kernel_rfl) (by kernel_rfl) rfl rfl (v_not rfl) rfl ?_
                    refine a_take 20 pan_cx (by kernel_rfl) (fun _ hw => hw.sub (by repeat (first | exact List.Sublist.slnil | exact List.Sublist.refl _ | apply List.Sublist.cons_cons | apply List.Sublist.cons))) rfl (by kernel_rfl) (by kernel_rfl) (v_pickF rfl rfl) rfl ?_
                    refine a_done (by kernel_rfl) ?_
                    refine e_condF rfl ?_
                    refine e_skip ?_
                    refine e_blk ?_
                    refine e_region ?_
                    refine w_val (v_move rfl) rfl ?_
                    refine w_val (v_add rfl rfl (by omega)) rfl ?_
                    refine w_val (v_assign rfl) rfl ?_
                    refine w_nil ?_
                    exact e_round (j + 1) (by omega) (by omega) (by repeat (first | exact Sub.nil _ | refine Sub.cons rfl ?_)) (fun _ hw => hw)
                  | false =>
                    refine e_skip ?_
                    refine e_seq ?_
                    refine e_block ?_
                    refine e_seq ?_
                    refine e_draw (rnH ⟨pr, pt, ht, pw, dvw, wv⟩ r.length P' ++ [Own (.slice (some ade) r.length ke) 30 5 r.length (resL (resX r.length P.1)), Own (.slice (some add) r.length kd) 4 1 r.length (boolCells (tab r.length fun j => (P.1 j).ov)), .blk b16 23 (intCells [z0, z1, z2, z3, z4, z5, z6, z7, z8, z9]), Own (.slice (some adx) r.length xk) 30 5 r.length (resL (resAll s r))]) Try.mixed ?_
                    refine a_take 0 pan_cx (by kernel_rfl) (fun _ hw => hw.sub (by repeat (first | exact List.Sublist.slnil | exact List.Sublist.refl _ | apply List.Sublist.cons_cons | apply List.Sublist.cons))) rfl (by kernel_rfl) (by kernel_rfl) (v_move rfl) rfl ?_
                    refine a_take 1 pan_cx (by kernel_rfl) (fun _ hw => hw.sub (by repeat (first | exact List.Sublist.slnil | exact List.Sublist.refl _ | apply List.Sublist.cons_cons | apply List.Sublist.cons))) rfl (by kernel_rfl) (by kernel_rfl) (v_move rfl) rfl ?_
                    refine a_take 2 pan_cx (by kernel_rfl) (fun _ hw => hw.sub (by repeat (first | exact List.Sublist.slnil | exact List.Sublist.refl _ | apply List.Sublist.cons_cons | apply List.Sublist.cons))) rfl (by kernel_rfl) (by kernel_rfl) (v_indexS Try.underlying67 Try.hi4 Try.cz4 rfl rfl (by first | omega | decide)) rfl ?_
                    refine a_take 3 pan_cx (by kernel_rfl) (fun _ hw => hw.sub (by repeat (first | exact List.Sublist.slnil | exact List.Sublist.refl _ | apply List.Sublist.cons_cons | apply List.Sublist.cons))) rfl (by kernel_rfl) (by kernel_rfl) (v_is (v' := .bool false) (v_loadW 6 rfl (by omega) (bools_at hj') Try.underlying4 rfl rfl) (by rw [hoo])) rfl ?_
                    refine a_take 4 pan_cx (by kernel_rfl) (fun _ hw => hw.sub (by repeat (first | exact List.Sublist.slnil | exact List.Sublist.refl _ | apply List.Sublist.cons_cons | apply List.Sublist.cons))) rfl (by kernel_rfl) (by kernel_rfl) (v_move rfl) rfl ?_
                    refine a_skip 5 pan_cx (by kernel_rfl) (fun _ hw => hw.sub (by repeat (first | exact List.Sublist.slnil | exact List.Sublist.refl _ | apply List.Sublist.cons_cons | apply List.Sublist.cons))) rfl (by kernel_rfl) (by kernel_rfl) rfl rfl rfl rfl ?_
                    refine a_skip 6 pan_cx (by kernel_rfl) (fun _ hw => hw.sub (by repeat (first | exact List.Sublist.slnil | exact List.Sublist.refl _ | apply List.Sublist.cons_cons | apply List.Sublist.cons))) rfl (by kernel_rfl) (by kernel_rfl) rfl rfl rfl rfl ?_
                    refine a_skip 7 pan_cx (by kernel_rfl) (fun _ hw => hw.sub (by repeat (first | exact List.Sublist.slnil | exact List.Sublist.refl _ | apply List.Sublist.cons_cons | apply List.Sublist.cons))) rfl (by kernel_rfl) (by kernel_rfl) rfl rfl rfl rfl ?_
                    refine a_skip 8 pan_cx (by kernel_rfl) (fun _ hw => hw.sub (by repeat (first | exact List.Sublist.slnil | exact List.Sublist.refl _ | apply List.Sublist.cons_cons | apply List.Sublist.cons))) rfl (by kernel_rfl) (by kernel_rfl) rfl rfl rfl rfl ?_
                    refine a_skip 9 pan_cx (by kernel_rfl) (fun _ hw => hw.sub (by repeat (first | exact List.Sublist.slnil | exact List.Sublist.refl _ | apply List.Sublist.cons_cons | apply List.Sublist.cons))) rfl (by kernel_rfl) (by kernel_rfl) rfl rfl rfl rfl ?_
                    refine a_skip 10 pan_cx (by kernel_rfl) (fun _ hw => hw.sub (by repeat (first | exact List.Sublist.slnil | exact List.Sublist.refl _ | apply List.Sublist.cons_cons | apply List.Sublist.cons))) rfl (by kernel_rfl) (by kernel_rfl) rfl rfl rfl rfl ?_
                    refine a_skip 11 pan_cx (by kernel_rfl) (fun _ hw => hw.sub (by repeat (first | exact List.Sublist.slnil | exact List.Sublist.refl _ | apply List.Sublist.cons_cons | apply List.Sublist.cons))) rfl (by kernel_rfl) (by kernel_rfl) rfl rfl rfl rfl ?_
                    refine a_skip 12 pan_cx (by kernel_rfl) (fun _ hw => hw.sub (by repeat (first | exact List.Sublist.slnil | exact List.Sublist.refl _ | apply List.Sublist.cons_cons | apply List.Sublist.cons))) rfl (by kernel_rfl) (by kernel_rfl) rfl rfl rfl rfl ?_
                    refine a_skip 13 pan_cx (by kernel_rfl) (fun _ hw => hw.sub (by repeat (first | exact List.Sublist.slnil | exact List.Sublist.refl _ | apply List.Sublist.cons_cons | apply List.Sublist.cons))) rfl (by kernel_rfl) (by kernel_rfl) rfl rfl rfl rfl ?_
                    refine a_take 14 pan_cx (by kernel_rfl) (fun _ hw => hw.sub (by repeat (first | exact List.Sublist.slnil | exact List.Sublist.refl _ | apply List.Sublist.cons_cons | apply List.Sublist.cons))) rfl (by kernel_rfl) (by kernel_rfl) (v_pickF rfl rfl) rfl ?_
                    refine a_take 15 pan_cx (by kernel_rfl) (fun _ hw => hw.sub (by repeat (first | exact List.Sublist.slnil | exact List.Sublist.refl _ | apply List.Sublist.cons_cons | apply List.Sublist.cons))) rfl (by kernel_rfl) (by kernel_rfl) (v_move rfl) rfl ?_
                    refine a_want 16 pan_cx (by kernel_rfl) (fun _ hw => hw.sub (by repeat (first | exact List.Sublist.slnil | exact List.Sublist.refl _ | apply List.Sublist.cons_cons | apply List.Sublist.cons))) rfl (by kernel_rfl) (by kernel_rfl) rfl rfl (v_move rfl) rfl ?_
                    refine a_want 17 pan_cx (by kernel_rfl) (fun _ hw => hw.sub (by repeat (first | exact List.Sublist.slnil | exact List.Sublist.refl _ | apply List.Sublist.cons_cons | apply List.Sublist.cons))) rfl (by kernel_rfl) (by kernel_rfl) rfl rfl (v_move rfl) rfl ?_
                    refine a_oneW 18 (by kernel_rfl) rfl rfl rfl ?_
                    refine x_call0 (v := .bool true) rfl rfl rfl Try.call34 rfl (fun w hw => by have := rdDone_spec pr r.length P'.1 j w (rnH_v (y := ⟨pr, pt, ht, pw, dvw, wv⟩) hinv' hw (by simp) (by simp) (by simp)) (by omega); rwa [doneX_at hj', hoj] at this) ?_
                    refine a_and (fun _ hw => hw.sub (by repeat (first | exact List.Sublist.slnil | exact List.Sublist.refl _ | apply List.Sublist.cons_cons | apply List.Sublist.cons))) ?_
                    refine a_want 19 pan_cx (by kernel_rfl) (fun _ hw => hw.sub (by repeat (first | exact List.Sublist.slnil | exact List.Sublist.refl _ | apply List.Sublist.cons_cons | apply List.Sublist.cons))) rfl (by kernel_rfl) (by kernel_rfl) rfl rfl (v_not rfl) rfl ?_
                    refine a_take 20 pan_cx (by kernel_rfl) (fun _ hw => hw.sub (by repeat (first | exact List.Sublist.slnil | exact List.Sublist.refl _ | apply List.Sublist.cons_cons | apply List.Sublist.cons))) rfl (by kernel_rfl) (by kernel_rfl) (v_pickF rfl rfl) rfl ?_
                    refine a_done (by kernel_rfl) ?_
                    refine e_condF rfl ?_
                    refine e_skip ?_
                    refine e_blk ?_
                    refine e_region ?_
                    refine w_val (v_move rfl) rfl ?_
                    refine w_val (v_add rfl rfl (by omega)) rfl ?_
                    refine w_val (v_assign rfl) rfl ?_
                    refine w_nil ?_
                    exact e_round (j + 1) (by omega) (by omega) (by repeat (first | exact Sub.nil _ | refine Sub.cons rfl ?_)) (fun _ hw => hw)
                · refine e_exit rfl ?_
                  refine e_seq ?_
                  refine e_seq ?_
                  refine e_region ?_
                  refine w_val (v_assign rfl) rfl ?_
                  refine w_nil ?_
                  refine e_block ?_
                  refine e_loopH (σ := Nat) [3, 9, 15, 16] (.cons rfl (.cons rfl (.cons rfl (.cons rfl .nil)))) (fun i => [(18, .int .i64 (i : Int))]) (fun _ => rnH ⟨pr, pt, ht, pw, dvw, wv⟩ r.length P' ++ [.blk b16 23 (intCells [z0, z1, z2, z3, z4, z5, z6, z7, z8, z9]), Own (.slice xa r.length xk) 30 5 r.length (resL (resAll s r))]) (fun i => i ≤ q.length) (fun i => q.length - i) 0 (Nat.zero_le _) (by repeat (first | exact Sub.nil _ | refine Sub.cons rfl ?_)) (fun _ hw => hw.pick [0, 1, 2, 3, 4, 7, 8] (by decide)) ?_
                  rintro i hi
                  dsimp only at hi ⊢
                  refine e_seq ?_
                  refine e_seq ?_
                  refine e_region ?_
                  refine w_val (v_move rfl) rfl ?_
                  refine w_val (v_move rfl) rfl ?_
                  refine w_val (v_lenS Try.underlying51 rfl) rfl ?_
                  refine w_val (v_lss rfl rfl) rfl ?_
                  refine w_nil ?_
                  refine e_condD rfl (fun hlt4 => ?_) (fun hlt4 => ?_)
                  · have hi' : i < q.length := by omega
                    obtain ⟨ad, rfl, hcell⟩ := hqc i hi'
                    have hpo := pick_over ho q[i]
                    generalize q[i] = pi at *
                    refine e_skip ?_
                    refine e_seq ?_
                    refine e_block ?_
                    refine e_region ?_
                    refine w_val (v_move rfl) rfl ?_
                    refine w_val (v_move rfl) rfl ?_
                    refine w_val (v_move rfl) rfl ?_
                    refine w_val (v_indexS Try.underlying51 Try.hi3 Try.cz3 rfl rfl (by first | omega | decide)) rfl ?_
                    refine w_val (v_loadO Try.underlying3 rfl rfl (hcell)) rfl ?_
                    refine w_op rfl ?_
                    refine x_call (dst := some 130) (mc := rnH ⟨pr, pt, ht, pw, dvw, wv⟩ r.length P') (mr := [.blk b16 23 (intCells [z0, z1, z2, z3, z4, z5, z6, z7, z8, z9]), Own (.slice xa r.length xk) 30 5 r.length (resL (resAll s r))]) (σ := Unit) (fun _ => True) (fun _ => .tuple #[.int .i64 (pickR r.length P' pi).1.1, .int .i64 (pickR r.length P' pi).1.2]) (fun _ => rnH ⟨pr, pt, ht, pw, dvw, wv⟩ r.length P') rfl rfl rfl Try.call32 (fun w hw => by have := rdPick_spec s r ⟨pr, pt, ht, pw, dvw, wv⟩ P' pi w (res_part hw).1 (res_part hw).2 hinv'; rwa [hpo] at this) rfl (fun _ _ => ?_)
                    refine w_nil ?_
                    refine e_blk ?_
                    refine e_region ?_
                    refine w_val (v_move rfl) rfl ?_
                    refine w_val (v_add rfl rfl (by omega)) rfl ?_
                    refine w_val (v_assign rfl) rfl ?_
                    refine w_nil ?_
                    exact e_round (i + 1) (by omega) (by omega) (by repeat (first | exact Sub.nil _ | refine Sub.cons rfl ?_)) (fun _ hw => hw)
                  · refine e_exit rfl ?_
                    refine e_seq ?_
                    refine e_region ?_
                    refine w_val (v_move rfl) rfl ?_
                    refine w_op rfl ?_
                    refine x_call (dst := some 132) (mc := rnH ⟨pr, pt, ht, pw, dvw, wv⟩ r.length P') (mr := [.blk b16 23 (intCells [z0, z1, z2, z3, z4, z5, z6, z7, z8, z9]), Own (.slice xa r.length xk) 30 5 r.length (resL (resAll s r))]) (σ := RunS) (fun P' => InvR s r P'.1 P'.2 ∧ AllO r.length P'.1) (fun _ => .tuple #[]) (fun P' => rnH ⟨pr, pt, ht, pw, dvw, wv⟩ r.length P') rfl rfl rfl Try.call35 (fun w hw => rdFinish_spec s r ⟨pr, pt, ht, pw, dvw, wv⟩ P' w (res_part hw).1 (res_part hw).2 hinv') rfl (fun P2 hP2 => ?_)
                    refine w_nil ?_
                    obtain ⟨hinv2, ho2⟩ := hP2
                    obtain ⟨hst2, hov2⟩ := hinv2.state ho2
                    have hrx2 := hinv2.resX ho2
                    have hn2 := hinv2.short
                    rw [hz] at hst2
                    refine e_seq ?_
                    refine e_draw (rnH ⟨pr, pt, ht, pw, dvw, wv⟩ r.length P2 ++ [.blk b16 23 (intCells [z0, z1, z2, z3, z4, z5, z6, z7, z8, z9]), Own (.slice xa r.length xk) 30 5 r.length (resL (resAll s r))]) Try.mixed ?_
                    refine a_take 0 pan_cx (by kernel_rfl) (fun _ hw => hw.sub (by repeat (first | exact List.Sublist.slnil | exact List.Sublist.refl _ | apply List.Sublist.cons_cons | apply List.Sublist.cons))) rfl (by kernel_rfl) (by kernel_rfl) (v_move rfl) rfl ?_
                    refine a_take 1 pan_cx (by kernel_rfl) (fun _ hw => hw.sub (by repeat (first | exact List.Sublist.slnil | exact List.Sublist.refl _ | apply List.Sublist.cons_cons | apply List.Sublist.cons))) rfl (by kernel_rfl) (by kernel_rfl) (v_move rfl) rfl ?_
                    refine a_one 2 (by kernel_rfl) rfl rfl ?_
                    refine x_call (dst := some 135) (mc := []) (σ := Option Addr × Nat) (fun x => r.length ≤ x.2) (fun x => .slice x.1 r.length r.length) (fun x => [Own (.slice x.1 r.length x.2) 30 5 r.length (resL (resAll s r))]) rfl rfl rfl Try.call33 (fun w hw => by have := rdResults_spec pr r.length P2.1 w (rnH_v (y := ⟨pr, pt, ht, pw, dvw, wv⟩) hinv2 hw (by simp) (by simp) (by simp)) (by omega); rwa [hrx2] at this) rfl (fun x hx => ?_); obtain ⟨ya, yk⟩ := x; dsimp only at hx; dsimp only
                    refine a_and (fun _ hw => hw.sub (by repeat (first | exact List.Sublist.slnil | exact List.Sublist.refl _ | apply List.Sublist.cons_cons | apply List.Sublist.cons))) ?_
                    refine a_one 3 (by kernel_rfl) rfl rfl ?_
                    refine x_call0 (v := .bool true) rfl rfl rfl Try.call30 rfl (fun w hw => by have := sameResults_spec (.slice xa r.length r.length) (.slice ya r.length r.length) (resAll s r) (resAll s r) w (by rw [hral]; exact rds_clip (own_rds (hw.mem (i := 7) rfl))) (by rw [hral]; exact rds_clip (own_rds (hw.mem (i := 0) rfl))) hrar hrar (by omega); rwa [decide_eq_true rfl] at this) ?_
                    refine a_and (fun _ hw => hw.sub (by repeat (first | exact List.Sublist.slnil | exact List.Sublist.refl _ | apply List.Sublist.cons_cons | apply List.Sublist.cons))) ?_
                    refine a_take 4 pan_cx (by kernel_rfl) (fun _ hw => hw.sub (by repeat (first | exact List.Sublist.slnil | exact List.Sublist.refl _ | apply List.Sublist.cons_cons | apply List.Sublist.cons))) rfl (by kernel_rfl) (by kernel_rfl) (v_move rfl) rfl ?_
                    refine a_want 5 pan_cx (by kernel_rfl) (fun _ hw => hw.sub (by repeat (first | exact List.Sublist.slnil | exact List.Sublist.refl _ | apply List.Sublist.cons_cons | apply List.Sublist.cons))) rfl (by kernel_rfl) (by kernel_rfl) rfl rfl (v_loadBN 5 rfl Try.underlying23 rfl Try.hi23 Try.cz23 rfl (cs' := intCells [z0, z1, z2, z3, z4, z5, z6, z7, z8, z9]) rfl rfl) rfl ?_
                    refine a_want 6 pan_cx (by kernel_rfl) (fun _ hw => hw.sub (by repeat (first | exact List.Sublist.slnil | exact List.Sublist.refl _ | apply List.Sublist.cons_cons | apply List.Sublist.cons))) rfl (by kernel_rfl) (by kernel_rfl) rfl rfl (v_move rfl) rfl ?_
                    refine a_want 7 pan_cx (by kernel_rfl) (fun _ hw => hw.sub (by repeat (first | exact List.Sublist.slnil | exact List.Sublist.refl _ | apply List.Sublist.cons_cons | apply List.Sublist.cons))) rfl (by kernel_rfl) (by kernel_rfl) rfl rfl (v_nilCheck rfl) rfl ?_
                    refine a_want 8 pan_cx (by kernel_rfl) (fun _ hw => hw.sub (by repeat (first | exact List.Sublist.slnil | exact List.Sublist.refl _ | apply List.Sublist.cons_cons | apply List.Sublist.cons))) rfl (by kernel_rfl) (by kernel_rfl) rfl rfl (v_fieldAddrB (o := 0) Try.underlying70 rfl rfl Try.nz40 rfl) rfl ?_
                    refine a_want 9 pan_cx (by kernel_rfl) (fun _ hw => hw.sub (by repeat (first | exact List.Sublist.slnil | exact List.Sublist.refl _ | apply List.Sublist.cons_cons | apply List.Sublist.cons))) rfl (by kernel_rfl) (by kernel_rfl) rfl rfl (v_loadB 3 rfl Try.underlying40 rfl rfl rfl) rfl ?_
                    refine a_oneW 10 (by kernel_rfl) rfl rfl rfl ?_
                    refine x_call0 (v := intsV [z0, z1, z2, z3, z4, z5, z6, z7, z8, z9]) rfl rfl rfl Try.call21 rfl (fun w hw => by have := tabState_spec pt ht P2.2 w (hw.tbV 2 rfl rfl) hn2; rwa [hst2] at this) ?_
                    refine a_and (fun _ hw => hw.sub (by repeat (first | exact List.Sublist.slnil | exact List.Sublist.refl _ | apply List.Sublist.cons_cons | apply List.Sublist.cons))) ?_
                    refine a_want 11 pan_cx (by kernel_rfl) (fun _ hw => hw.sub (by repeat (first | exact List.Sublist.slnil | exact List.Sublist.refl _ | apply List.Sublist.cons_cons | apply List.Sublist.cons))) rfl (by kernel_rfl) (by kernel_rfl) rfl rfl (v_is (v' := .bool true) (v_eqlInts Try.underlying23 (by kernel_rfl) Try.underlying2 Try.hi2 Try.cz2 (by first | rfl | assumption | (simp; omega)) (by first | rfl | assumption | (simp; omega)) rfl rfl) (by rw [decide_eq_true rfl])) rfl ?_
                    refine a_take 12 pan_cx (by kernel_rfl) (fun _ hw => hw.sub (by repeat (first | exact List.Sublist.slnil | exact List.Sublist.refl _ | apply List.Sublist.cons_cons | apply List.Sublist.cons))) rfl (by kernel_rfl) (by kernel_rfl) (v_pickT rfl rfl) rfl ?_
                    refine a_take 13 pan_cx (by kernel_rfl) (fun _ hw => hw.sub (by repeat (first | exact List.Sublist.slnil | exact List.Sublist.refl _ | apply List.Sublist.cons_cons | apply List.Sublist.cons))) rfl (by kernel_rfl) (by kernel_rfl) (v_move rfl) rfl ?_
                    refine a_want 14 pan_cx (by kernel_rfl) (fun _ hw => hw.sub (by repeat (first | exact List.Sublist.slnil | exact List.Sublist.refl _ | apply List.Sublist.cons_cons | apply List.Sublist.cons))) rfl (by kernel_rfl) (by kernel_rfl) rfl rfl (v_move rfl) rfl ?_
                    refine a_want 15 pan_cx (by kernel_rfl) (fun _ hw => hw.sub (by repeat (first | exact List.Sublist.slnil | exact List.Sublist.refl _ | apply List.Sublist.cons_cons | apply List.Sublist.cons))) rfl (by kernel_rfl) (by kernel_rfl) rfl rfl (v_nilCheck rfl) rfl ?_
                    refine a_want 16 pan_cx (by kernel_rfl) (fun _ hw => hw.sub (by repeat (first | exact List.Sublist.slnil | exact List.Sublist.refl _ | apply List.Sublist.cons_cons | apply List.Sublist.cons))) rfl (by kernel_rfl) (by kernel_rfl) rfl rfl (v_fieldAddrB (o := 0) Try.underlying70 rfl rfl Try.nz40 rfl) rfl ?_
                    refine a_want 17 pan_cx (by kernel_rfl) (fun _ hw => hw.sub (by repeat (first | exact List.Sublist.slnil | exact List.Sublist.refl _ | apply List.Sublist.cons_cons | apply List.Sublist.cons))) rfl (by kernel_rfl) (by kernel_rfl) rfl rfl (v_loadB 3 rfl Try.underlying40 rfl rfl rfl) rfl ?_
                    refine a_oneW 18 (by kernel_rfl) rfl rfl rfl ?_
                    refine x_call0 (v := .bool true) rfl rfl rfl Try.call22 rfl (fun w hw => by have := tabOver_spec pt ht P2.2 w (hw.tbV 2 rfl rfl) hn2; rwa [hov2] at this) ?_
                    refine a_and (fun _ hw => hw.sub (by repeat (first | exact List.Sublist.slnil | exact List.Sublist.refl _ | apply List.Sublist.cons_cons | apply List.Sublist.cons))) ?_
                    refine a_take 19 pan_cx (by kernel_rfl) (fun _ hw => hw.sub (by repeat (first | exact List.Sublist.slnil | exact List.Sublist.refl _ | apply List.Sublist.cons_cons | apply List.Sublist.cons))) rfl (by kernel_rfl) (by kernel_rfl) (v_pickT rfl rfl) rfl ?_
                    refine a_take 20 pan_cx (by kernel_rfl) (fun _ hw => hw.sub (by repeat (first | exact List.Sublist.slnil | exact List.Sublist.refl _ | apply List.Sublist.cons_cons | apply List.Sublist.cons))) rfl (by kernel_rfl) (by kernel_rfl) (v_assign rfl) rfl ?_
                    refine a_done (by kernel_rfl) ?_
                    refine e_retQ (q_ret1 rfl (.tmp rfl) ?_)
                    exact fun w' hw' => ⟨rfl, hw'.res.nil⟩
        · refine e_skip ?_
          refine e_seq ?_
          refine e_seq ?_
          refine e_region ?_
          refine w_val (v_move rfl) rfl ?_
          refine w_op rfl ?_
          refine x_call0 (v := .bool false) rfl rfl rfl Try.call24 rfl (fun w hw => by have := great_spec _ r w (hsr.mono hw.off) hb; rwa [hg] at this) ?_
          refine w_val (v_move rfl) rfl ?_
          refine w_want rfl rfl ?_
          refine w_val (v_move rfl) rfl ?_
          refine w_want rfl rfl ?_
          refine w_val (v_lenS Try.underlying51 rfl) rfl ?_
          refine w_want rfl rfl ?_
          refine w_val (v_is (v' := .bool false) (v_gtr rfl rfl) (by rw [decide_eq_false (by omega)])) rfl ?_
          refine w_val (v_pickF rfl rfl) rfl ?_
          refine w_val (v_move rfl) rfl ?_
          refine w_want rfl rfl ?_
          refine w_val (v_move rfl) rfl ?_
          refine w_want rfl rfl ?_
          refine w_val (v_lenS Try.underlying51 rfl) rfl ?_
          refine w_want rfl rfl ?_
          refine w_val (v_is (v' := .bool false) (v_gtr rfl rfl) (by rw [decide_eq_false (by omega)])) rfl ?_
          refine w_val (v_pickF rfl rfl) rfl ?_
          refine w_nil ?_
          refine e_condF rfl ?_
          refine e_skip ?_
          refine e_seq ?_
          refine e_region ?_
          refine w_val (v_loadBA 0 rfl Try.underlying23 rfl Try.hi23 (Try.cz23.trans hlz.symm) rfl) rfl ?_
          refine w_val (v_move rfl) rfl ?_
          refine w_op rfl ?_
          refine x_call0 (v := .tuple #[.pointer none, .int .i64 (roundFaultL r)]) rfl rfl rfl Try.call31 rfl (fun w hw => rdNew_bad s _ r w (hsr.mono hw.off) hs10 hf) ?_
          refine w_val (v_move rfl) rfl ?_
          refine w_val (v_extract rfl rfl) rfl ?_
          refine w_val (v_extract rfl rfl) rfl ?_
          refine w_val (v_assign rfl) rfl ?_
          refine w_val (v_assign rfl) rfl ?_
          refine w_nil ?_
          refine e_seq ?_
          refine e_seq ?_
          refine e_region ?_
          refine w_val (v_move rfl) rfl ?_
          refine w_val (v_is (v' := .bool true) (v_neq rfl rfl) (by rw [decide_eq_true hf])) rfl ?_
          refine w_val (v_move rfl) rfl ?_
          refine w_skip rfl rfl rfl rfl ?_
          refine w_skip rfl rfl rfl rfl ?_
          refine w_val (v_pickT rfl rfl) rfl ?_
          refine w_nil ?_
          refine e_condT rfl ?_
          refine e_seq ?_
          refine e_region ?_
          refine w_val (v_assign rfl) rfl ?_
          refine w_nil ?_
          refine e_retQ (q_ret1 rfl (.tmp rfl) ?_)
          exact fun w' hw' => ⟨rfl, hw'.res.nil⟩
end Go.SL

