/- Ytebdkaadbakhlab: part H2 of this seat's own texts. -/
import Derived.Test.YtebdkaadbakhlabH1
set_option linter.unusedVariables false
set_option linter.unusedSimpArgs false

open Go Go.Proofs Go.SL
set_option maxRecDepth 100000
set_option maxHeartbeats 4000000
namespace Go.SL
/-- the first rows of a table -/
def cpT (T : TabL) (n : Nat) : TabL := fun j => if j < n then T j else []
theorem cpT_step {T : TabL} {n : Nat} : upd (cpT T n) n (T n) = cpT T (n + 1) := by
  funext j
  unfold upd cpT
  by_cases h : j = n
  · subst h; simp
  · rw [if_neg h]
    by_cases h2 : j < n
    · rw [if_pos h2, if_pos (by omega)]
    · rw [if_neg h2, if_neg (by omega)]
theorem cpT_all {T : TabL} {j : Nat} (h : j < 10) : cpT T 10 j = T j := by unfold cpT; rw [if_pos h]
theorem WorkerOver_spec (s : List Int) (v vp : Value) (r : RoundL) (p : List Int) (w : World) (h : IsRound w.cell? v r) (hb : ∀ d ∈ r, d.length ≤ 4398046511104) (hs10 : s.length = 10) (hp : IsInts w.cell? vp p) :
    Calls Try.prog 12 #[intsV s, v, vp] w fun e w' => e = .returned (.bool true) ∧ Res w [] [] w' := by
  have hsr := h
  rw [← off_none w] at hsr hp
  obtain ⟨vs, hv, hds⟩ := h
  rw [← off_none w] at hv hds
  obtain ⟨Ap, kp, rfl, hlep, hpc⟩ := hp.form
  obtain ⟨A, ka, rfl, hle, hvl, hvc⟩ := hv
  have hlz : (intCells s).length = 10 := by rw [intCells, List.length_map]; exact hs10
  refine enter0 (N := 140) Try.func12 rfl rfl rfl ?_
  refine e_seq ?_
  refine e_region ?_
  refine w_op rfl ?_
  refine x_box rfl rfl (fun b3 => ?_)
  refine w_val (v_assign rfl) rfl ?_
  refine w_nil ?_
  refine e_seq ?_
  refine e_seq ?_
  refine e_region ?_
  refine w_op rfl ?_
  refine x_call0 (v := .bool true) rfl rfl rfl Try.call62 rfl (fun w hw => workerBegun_spec w) ?_
  refine w_val (v_not rfl) rfl ?_
  refine w_nil ?_
  refine e_condF rfl ?_
  by_cases hg : greatL r = true
  · refine e_skip ?_
    refine e_seq ?_
    refine e_seq ?_
    refine e_region ?_
    refine w_val (v_move rfl) rfl ?_
    refine w_op rfl ?_
    refine x_call0 (v := .bool true) rfl rfl rfl Try.call32 rfl (fun w hw => by have := great_spec _ r w (hsr.mono hw.off) hb; rwa [hg] at this) ?_
    refine w_val (v_move rfl) rfl ?_
    refine w_skip rfl rfl rfl rfl ?_
    refine w_skip rfl rfl rfl rfl ?_
    refine w_skip rfl rfl rfl rfl ?_
    first | refine w_val (v_pickT rfl rfl) rfl ?_ | refine w_val (v_pickF rfl rfl) rfl ?_
    refine w_val (v_move rfl) rfl ?_
    refine w_skip rfl rfl rfl rfl ?_
    refine w_skip rfl rfl rfl rfl ?_
    refine w_skip rfl rfl rfl rfl ?_
    first | refine w_val (v_pickT rfl rfl) rfl ?_ | refine w_val (v_pickF rfl rfl) rfl ?_
    refine w_val (v_move rfl) rfl ?_
    refine w_skip rfl rfl rfl rfl ?_
    refine w_skip rfl rfl rfl rfl ?_
    refine w_skip rfl rfl rfl rfl ?_
    first | refine w_val (v_pickT rfl rfl) rfl ?_ | refine w_val (v_pickF rfl rfl) rfl ?_
    refine w_nil ?_
    first | refine e_condDT rfl (by omega) ?_ | refine e_condT rfl ?_
    refine e_seq ?_
    refine e_region ?_
    refine w_val (v_assign rfl) rfl ?_
    refine w_nil ?_
    refine e_retQ (q_ret1 rfl (.tmp rfl) ?_)
    exact fun w' hw' => ⟨rfl, hw'.res.nil⟩
  · have hg : greatL r = false := by cases h : greatL r with | true => exact absurd h hg | false => rfl
    by_cases h500 : 500 < p.length
    · refine e_skip ?_
      refine e_seq ?_
      refine e_seq ?_
      refine e_region ?_
      refine w_val (v_move rfl) rfl ?_
      refine w_op rfl ?_
      refine x_call0 (v := .bool false) rfl rfl rfl Try.call32 rfl (fun w hw => by have := great_spec _ r w (hsr.mono hw.off) hb; rwa [hg] at this) ?_
      refine w_val (v_move rfl) rfl ?_
      refine w_want rfl rfl ?_
      refine w_val (v_move rfl) rfl ?_
      refine w_want rfl rfl ?_
      refine w_val (v_lenS Try.underlying53 rfl) rfl ?_
      refine w_want rfl rfl ?_
      refine w_val (v_is (v' := .bool true) (v_gtr rfl rfl) (by rw [decide_eq_true (by omega)])) rfl ?_
      first | refine w_val (v_pickT rfl rfl) rfl ?_ | refine w_val (v_pickF rfl rfl) rfl ?_
      refine w_val (v_move rfl) rfl ?_
      refine w_skip rfl rfl rfl rfl ?_
      refine w_skip rfl rfl rfl rfl ?_
      refine w_skip rfl rfl rfl rfl ?_
      first | refine w_val (v_pickT rfl rfl) rfl ?_ | refine w_val (v_pickF rfl rfl) rfl ?_
      refine w_val (v_move rfl) rfl ?_
      refine w_skip rfl rfl rfl rfl ?_
      refine w_skip rfl rfl rfl rfl ?_
      refine w_skip rfl rfl rfl rfl ?_
      first | refine w_val (v_pickT rfl rfl) rfl ?_ | refine w_val (v_pickF rfl rfl) rfl ?_
      refine w_nil ?_
      first | refine e_condDT rfl (by omega) ?_ | refine e_condT rfl ?_
      refine e_seq ?_
      refine e_region ?_
      refine w_val (v_assign rfl) rfl ?_
      refine w_nil ?_
      refine e_retQ (q_ret1 rfl (.tmp rfl) ?_)
      exact fun w' hw' => ⟨rfl, hw'.res.nil⟩
    · by_cases hf : roundFaultL r = 0
      · by_cases hz : r.length = 0
        · refine e_skip ?_
          refine e_seq ?_
          refine e_seq ?_
          refine e_region ?_
          refine w_val (v_move rfl) rfl ?_
          refine w_op rfl ?_
          refine x_call0 (v := .bool false) rfl rfl rfl Try.call32 rfl (fun w hw => by have := great_spec _ r w (hsr.mono hw.off) hb; rwa [hg] at this) ?_
          refine w_val (v_move rfl) rfl ?_
          refine w_want rfl rfl ?_
          refine w_val (v_move rfl) rfl ?_
          refine w_want rfl rfl ?_
          refine w_val (v_lenS Try.underlying53 rfl) rfl ?_
          refine w_want rfl rfl ?_
          refine w_val (v_is (v' := .bool false) (v_gtr rfl rfl) (by rw [decide_eq_false (by omega)])) rfl ?_
          first | refine w_val (v_pickT rfl rfl) rfl ?_ | refine w_val (v_pickF rfl rfl) rfl ?_
          refine w_val (v_move rfl) rfl ?_
          refine w_want rfl rfl ?_
          refine w_val (v_move rfl) rfl ?_
          refine w_want rfl rfl ?_
          refine w_op rfl ?_
          refine x_call0 (v := .int .i64 (roundFaultL r)) rfl rfl rfl Try.call41 rfl (fun w hw => RoundFault_spec _ r w (hsr.mono hw.off)) ?_
          refine w_want rfl rfl ?_
          refine w_val (v_is (v' := .bool false) (v_neq rfl rfl) (by rw [decide_eq_false (fun h => h hf)])) rfl ?_
          first | refine w_val (v_pickT rfl rfl) rfl ?_ | refine w_val (v_pickF rfl rfl) rfl ?_
          refine w_val (v_move rfl) rfl ?_
          refine w_want rfl rfl ?_
          refine w_val (v_move rfl) rfl ?_
          refine w_want rfl rfl ?_
          refine w_val (v_lenS Try.underlying34 rfl) rfl ?_
          refine w_want rfl rfl ?_
          refine w_val (v_is (v' := .bool true) (v_eql rfl rfl) (by rw [decide_eq_true (by omega)])) rfl ?_
          first | refine w_val (v_pickT rfl rfl) rfl ?_ | refine w_val (v_pickF rfl rfl) rfl ?_
          refine w_nil ?_
          first | refine e_condDT rfl (by omega) ?_ | refine e_condT rfl ?_
          refine e_seq ?_
          refine e_region ?_
          refine w_val (v_assign rfl) rfl ?_
          refine w_nil ?_
          refine e_retQ (q_ret1 rfl (.tmp rfl) ?_)
          exact fun w' hw' => ⟨rfl, hw'.res.nil⟩
        · refine e_skip ?_
          refine e_seq ?_
          refine e_seq ?_
          refine e_region ?_
          refine w_val (v_move rfl) rfl ?_
          refine w_op rfl ?_
          refine x_call0 (v := .bool false) rfl rfl rfl Try.call32 rfl (fun w hw => by have := great_spec _ r w (hsr.mono hw.off) hb; rwa [hg] at this) ?_
          refine w_val (v_move rfl) rfl ?_
          refine w_want rfl rfl ?_
          refine w_val (v_move rfl) rfl ?_
          refine w_want rfl rfl ?_
          refine w_val (v_lenS Try.underlying53 rfl) rfl ?_
          refine w_want rfl rfl ?_
          refine w_val (v_is (v' := .bool false) (v_gtr rfl rfl) (by rw [decide_eq_false (by omega)])) rfl ?_
          first | refine w_val (v_pickT rfl rfl) rfl ?_ | refine w_val (v_pickF rfl rfl) rfl ?_
          refine w_val (v_move rfl) rfl ?_
          refine w_want rfl rfl ?_
          refine w_val (v_move rfl) rfl ?_
          refine w_want rfl rfl ?_
          refine w_op rfl ?_
          refine x_call0 (v := .int .i64 (roundFaultL r)) rfl rfl rfl Try.call41 rfl (fun w hw => RoundFault_spec _ r w (hsr.mono hw.off)) ?_
          refine w_want rfl rfl ?_
          refine w_val (v_is (v' := .bool false) (v_neq rfl rfl) (by rw [decide_eq_false (fun h => h hf)])) rfl ?_
          first | refine w_val (v_pickT rfl rfl) rfl ?_ | refine w_val (v_pickF rfl rfl) rfl ?_
          refine w_val (v_move rfl) rfl ?_
          refine w_want rfl rfl ?_
          refine w_val (v_move rfl) rfl ?_
          refine w_want rfl rfl ?_
          refine w_val (v_lenS Try.underlying34 rfl) rfl ?_
          refine w_want rfl rfl ?_
          refine w_val (v_is (v' := .bool false) (v_eql rfl rfl) (by rw [decide_eq_false (by omega)])) rfl ?_
          first | refine w_val (v_pickT rfl rfl) rfl ?_ | refine w_val (v_pickF rfl rfl) rfl ?_
          refine w_nil ?_
          refine e_condF rfl ?_
          have h8 := (roundFault_ok hf).1
          refine e_skip ?_
          refine e_seq ?_
          refine e_region ?_
          refine w_val (v_loadBA 0 rfl Try.underlying70 rfl Try.hi70 (Try.cz70.trans hlz.symm) rfl) rfl ?_
          refine w_val (v_move rfl) rfl ?_
          refine w_op rfl ?_
          refine x_call (dst := some 40) (mc := []) (σ := CrewP) (fun _ => True) (fun y => .pointer (some ⟨y.pc, 0, none⟩)) (fun y => crH y r.length (fun i => wk0 (r.getD i []) i) (newT s r) (fun i => vs.getD i nilS) (fun _ => nilS) (fun _ => [])) rfl rfl rfl Try.call63 (fun w hw => newCrew_spec s _ r vs w (Rds.mono hw.off ⟨A, ka, rfl, hle, hvl, hvc⟩) (fun i hi => let ⟨u, h1, h2⟩ := hds i hi; ⟨u, h1, h2.mono hw.off⟩) hs10 hf) rfl (fun y _ => ?_)
          obtain ⟨pc, pt, pb, ht, hbb, pw, dvw, ph, wv, hv⟩ := y
          refine g_heap (m' := Wks r.length pw dvw (newP s r).1 :: (tbH pt 130 ht (newP s r).2 ++ [.blk pc 105 [ptrV pt, ptrV pb, wv, hv], Own wv 101 1 r.length (ptrs r.length pw)])) (fun _ hw => hw.pick [0, 1, 2, 6, 7] (by decide)) ?_
          dsimp only
          refine g_shape2 4 rfl fun Aw kw hvw hkw hAw => ?_
          subst hvw
          obtain ⟨adw, rfl⟩ := hAw (by omega)
          refine w_val (v_assign rfl) rfl ?_
          refine w_nil ?_
          refine e_seq ?_
          refine e_seq ?_
          refine e_region ?_
          refine w_val (v_move rfl) rfl ?_
          refine w_val (v_is (v' := .bool false) (v_eqlPtr Try.underlying98 rfl rfl) (by rfl)) rfl ?_
          refine w_nil ?_
          refine e_condF rfl ?_
          refine e_skip ?_
          refine e_seq ?_
          refine e_seq ?_
          refine e_region ?_
          refine w_val (v_assign rfl) rfl ?_
          refine w_nil ?_
          refine e_block ?_
          refine e_loopH (σ := Nat × RunS) [1, 2, 7] (.cons rfl (.cons rfl (.cons rfl .nil))) (fun x => [(8, .int .i64 (x.1 : Int))]) (fun x => Wks r.length pw dvw x.2.1 :: (tbH pt 130 ht x.2.2 ++ [.blk pc 105 [ptrV pt, ptrV pb, .slice (some adw) r.length kw, hv], Own (.slice (some adw) r.length kw) 101 1 r.length (ptrs r.length pw)])) (fun x => x.1 ≤ p.length ∧ InvR s r x.2.1 x.2.2) (fun x => p.length - x.1) (0, newP s r) ⟨Nat.zero_le _, inv_new hs10 hf⟩ (by repeat (first | exact Sub.nil _ | refine Sub.cons rfl ?_)) (fun _ hw => hw) ?_
          rintro ⟨i, X, T⟩ ⟨hi, hinv⟩
          dsimp only at hi hinv ⊢
          refine e_seq ?_
          refine e_seq ?_
          refine e_region ?_
          refine w_val (v_move rfl) rfl ?_
          refine w_val (v_move rfl) rfl ?_
          refine w_val (v_lenS Try.underlying53 rfl) rfl ?_
          refine w_val (v_lss rfl rfl) rfl ?_
          refine w_nil ?_
          refine e_condD rfl (fun hlt => ?_) (fun hlt => ?_)
          · have hi' : i < p.length := by omega
            obtain ⟨ad, rfl, hcell⟩ := hpc i hi'
            generalize p[i] = pi at *
            obtain ⟨k, hk, hkm⟩ := u64_rem' pi (show 0 < r.length by omega)
            have hrl := (hinv.w k).rlen
            have hrl5 : (resCells (X k).rc (X k).rg).length = 5 := by simp [resCells, intCells, hrl]
            refine e_skip ?_
            refine e_seq ?_
            refine e_block ?_
            refine e_seq ?_
            refine e_region ?_
            refine w_val (v_move rfl) rfl ?_
            refine w_val (v_move rfl) rfl ?_
            first | refine w_val (v_indexSB Try.underlying53 Try.hi3 Try.cz3 rfl rfl (by first | omega | decide)) rfl ?_ | refine w_val (v_indexS Try.underlying53 Try.hi3 Try.cz3 rfl rfl (by first | omega | decide)) rfl ?_
            first | refine w_val (v_loadO Try.underlying3 rfl rfl (hcell)) rfl ?_ | refine w_val (v_loadB 0 rfl Try.underlying3 rfl rfl rfl) rfl ?_ | refine w_val (v_loadB 1 rfl Try.underlying3 rfl rfl rfl) rfl ?_ | refine w_val (v_loadB 2 rfl Try.underlying3 rfl rfl rfl) rfl ?_ | refine w_val (v_loadB 3 rfl Try.underlying3 rfl rfl rfl) rfl ?_ | refine w_val (v_loadB 4 rfl Try.underlying3 rfl rfl rfl) rfl ?_ | refine w_val (v_loadB 5 rfl Try.underlying3 rfl rfl rfl) rfl ?_ | refine w_val (v_loadB 6 rfl Try.underlying3 rfl rfl rfl) rfl ?_ | refine w_val (v_loadB 7 rfl Try.underlying3 rfl rfl rfl) rfl ?_ | refine w_val (v_loadB 8 rfl Try.underlying3 rfl rfl rfl) rfl ?_ | refine w_val (v_loadB 9 rfl Try.underlying3 rfl rfl rfl) rfl ?_ | refine w_val (v_loadB 10 rfl Try.underlying3 rfl rfl rfl) rfl ?_ | refine w_val (v_loadB 11 rfl Try.underlying3 rfl rfl rfl) rfl ?_
            refine w_val (v_conv Try.underlying50 (by rw [Try.underlying3]; rfl) rfl) rfl ?_
            refine w_val (v_move rfl) rfl ?_
            refine w_val (v_lenS Try.underlying34 rfl) rfl ?_
            refine w_val (v_is (v' := .int .u64 ((r.length : Nat) : Int)) (v_conv Try.underlying50 (by rw [Try.underlying3]; rfl) rfl) (by rw [wrap_u64 (by omega) (by omega)])) rfl ?_
            refine w_val (v_is (v' := .int .u64 (k : Int)) (v_rem rfl rfl (by omega)) (by rw [hkm])) rfl ?_
            refine w_val (v_is (v' := .int .i64 (k : Int)) (v_conv Try.underlying3 (by rw [Try.underlying50]; rfl) rfl) (by rw [wrap_i64 (by omega) (by omega)])) rfl ?_
            refine w_val (v_assign rfl) rfl ?_
            refine w_nil ?_
            refine e_seq ?_
            refine e_region ?_
            refine w_val (v_move rfl) rfl ?_
            refine w_val (v_nilCheck rfl) rfl ?_
            first | refine w_val (v_fieldAddrB (o := 2) Try.underlying105 rfl rfl Try.nz102 rfl) rfl ?_ | refine w_val (v_fieldAddr (o := 2) Try.underlying105 rfl rfl Try.nz102 rfl) rfl ?_
            first | refine w_val (v_loadO Try.underlying102 rfl rfl (hcell)) rfl ?_ | refine w_val (v_loadB 0 rfl Try.underlying102 rfl rfl rfl) rfl ?_ | refine w_val (v_loadB 1 rfl Try.underlying102 rfl rfl rfl) rfl ?_ | refine w_val (v_loadB 2 rfl Try.underlying102 rfl rfl rfl) rfl ?_ | refine w_val (v_loadB 3 rfl Try.underlying102 rfl rfl rfl) rfl ?_ | refine w_val (v_loadB 4 rfl Try.underlying102 rfl rfl rfl) rfl ?_ | refine w_val (v_loadB 5 rfl Try.underlying102 rfl rfl rfl) rfl ?_ | refine w_val (v_loadB 6 rfl Try.underlying102 rfl rfl rfl) rfl ?_ | refine w_val (v_loadB 7 rfl Try.underlying102 rfl rfl rfl) rfl ?_ | refine w_val (v_loadB 8 rfl Try.underlying102 rfl rfl rfl) rfl ?_ | refine w_val (v_loadB 9 rfl Try.underlying102 rfl rfl rfl) rfl ?_ | refine w_val (v_loadB 10 rfl Try.underlying102 rfl rfl rfl) rfl ?_ | refine w_val (v_loadB 11 rfl Try.underlying102 rfl rfl rfl) rfl ?_
            refine w_val (v_move rfl) rfl ?_
            first | refine w_val (v_indexSB Try.underlying102 Try.hi101 Try.cz101 rfl rfl (by first | omega | decide)) rfl ?_ | refine w_val (v_indexS Try.underlying102 Try.hi101 Try.cz101 rfl rfl (by first | omega | decide)) rfl ?_
            refine w_val (v_loadW 4 rfl (by omega) (ptrs_at hk) Try.underlying101 rfl rfl) rfl ?_
            refine w_op rfl ?_
            refine x_call0 (v := .tuple #[.agg (resCells (X k).rc (X k).rg).toArray, .bool (X k).ov]) rfl rfl rfl Try.call64 rfl (fun w hw => wkResult_spec (pw k) (X k) w (hinv.wkV hw List.mem_cons_self hk) hrl) ?_
            refine w_val (v_move rfl) rfl ?_
            refine w_val (v_extract rfl rfl) rfl ?_
            refine w_val (v_extract rfl rfl) rfl ?_
            refine w_op rfl ?_
            refine x_alloc (z := .agg #[.int .i64 0, .int .i64 0, .int .i64 0, .int .i64 0, .int .i64 0]) (by intro w; exact Try.zeroValue93 w) rfl (fun b10 => ?_)
            refine w_op rfl ?_
            first | refine x_storeA 0 rfl rfl rfl Try.hi93 (Try.cz93.trans (by simp [Value.cells, intsV, resCells, intCells, hrl])) (by simp [Value.cells, intsV, resCells, intCells, hrl]) (by first | exact one_intCells _ | exact one_resCells _ _) ?_ | refine x_storeA 1 rfl rfl rfl Try.hi93 (Try.cz93.trans (by simp [Value.cells, intsV, resCells, intCells, hrl])) (by simp [Value.cells, intsV, resCells, intCells, hrl]) (by first | exact one_intCells _ | exact one_resCells _ _) ?_ | refine x_storeA 2 rfl rfl rfl Try.hi93 (Try.cz93.trans (by simp [Value.cells, intsV, resCells, intCells, hrl])) (by simp [Value.cells, intsV, resCells, intCells, hrl]) (by first | exact one_intCells _ | exact one_resCells _ _) ?_ | refine x_storeA 3 rfl rfl rfl Try.hi93 (Try.cz93.trans (by simp [Value.cells, intsV, resCells, intCells, hrl])) (by simp [Value.cells, intsV, resCells, intCells, hrl]) (by first | exact one_intCells _ | exact one_resCells _ _) ?_ | refine x_storeA 4 rfl rfl rfl Try.hi93 (Try.cz93.trans (by simp [Value.cells, intsV, resCells, intCells, hrl])) (by simp [Value.cells, intsV, resCells, intCells, hrl]) (by first | exact one_intCells _ | exact one_resCells _ _) ?_ | refine x_storeA 5 rfl rfl rfl Try.hi93 (Try.cz93.trans (by simp [Value.cells, intsV, resCells, intCells, hrl])) (by simp [Value.cells, intsV, resCells, intCells, hrl]) (by first | exact one_intCells _ | exact one_resCells _ _) ?_ | refine x_storeA 6 rfl rfl rfl Try.hi93 (Try.cz93.trans (by simp [Value.cells, intsV, resCells, intCells, hrl])) (by simp [Value.cells, intsV, resCells, intCells, hrl]) (by first | exact one_intCells _ | exact one_resCells _ _) ?_ | refine x_storeA 7 rfl rfl rfl Try.hi93 (Try.cz93.trans (by simp [Value.cells, intsV, resCells, intCells, hrl])) (by simp [Value.cells, intsV, resCells, intCells, hrl]) (by first | exact one_intCells _ | exact one_resCells _ _) ?_ | refine x_storeA 8 rfl rfl rfl Try.hi93 (Try.cz93.trans (by simp [Value.cells, intsV, resCells, intCells, hrl])) (by simp [Value.cells, intsV, resCells, intCells, hrl]) (by first | exact one_intCells _ | exact one_resCells _ _) ?_ | refine x_storeA 9 rfl rfl rfl Try.hi93 (Try.cz93.trans (by simp [Value.cells, intsV, resCells, intCells, hrl])) (by simp [Value.cells, intsV, resCells, intCells, hrl]) (by first | exact one_intCells _ | exact one_resCells _ _) ?_ | refine x_storeA 10 rfl rfl rfl Try.hi93 (Try.cz93.trans (by simp [Value.cells, intsV, resCells, intCells, hrl])) (by simp [Value.cells, intsV, resCells, intCells, hrl]) (by first | exact one_intCells _ | exact one_resCells _ _) ?_ | refine x_storeA 11 rfl rfl rfl Try.hi93 (Try.cz93.trans (by simp [Value.cells, intsV, resCells, intCells, hrl])) (by simp [Value.cells, intsV, resCells, intCells, hrl]) (by first | exact one_intCells _ | exact one_resCells _ _) ?_ | refine x_storeA 0 rfl rfl rfl Try.hi93 Try.cz93 rfl (by first | (simp [Value.oneCell', opCells]; done) | assumption | exact one_ints _ | exact one_resCells _ _ | exact one_slotC _) ?_ | refine x_storeA 1 rfl rfl rfl Try.hi93 Try.cz93 rfl (by first | (simp [Value.oneCell', opCells]; done) | assumption | exact one_ints _ | exact one_resCells _ _ | exact one_slotC _) ?_ | refine x_storeA 2 rfl rfl rfl Try.hi93 Try.cz93 rfl (by first | (simp [Value.oneCell', opCells]; done) | assumption | exact one_ints _ | exact one_resCells _ _ | exact one_slotC _) ?_ | refine x_storeA 3 rfl rfl rfl Try.hi93 Try.cz93 rfl (by first | (simp [Value.oneCell', opCells]; done) | assumption | exact one_ints _ | exact one_resCells _ _ | exact one_slotC _) ?_ | refine x_storeA 4 rfl rfl rfl Try.hi93 Try.cz93 rfl (by first | (simp [Value.oneCell', opCells]; done) | assumption | exact one_ints _ | exact one_resCells _ _ | exact one_slotC _) ?_ | refine x_storeA 5 rfl rfl rfl Try.hi93 Try.cz93 rfl (by first | (simp [Value.oneCell', opCells]; done) | assumption | exact one_ints _ | exact one_resCells _ _ | exact one_slotC _) ?_ | refine x_storeA 6 rfl rfl rfl Try.hi93 Try.cz93 rfl (by first | (simp [Value.oneCell', opCells]; done) | assumption | exact one_ints _ | exact one_resCells _ _ | exact one_slotC _) ?_ | refine x_storeA 7 rfl rfl rfl Try.hi93 Try.cz93 rfl (by first | (simp [Value.oneCell', opCells]; done) | assumption | exact one_ints _ | exact one_resCells _ _ | exact one_slotC _) ?_ | refine x_storeA 8 rfl rfl rfl Try.hi93 Try.cz93 rfl (by first | (simp [Value.oneCell', opCells]; done) | assumption | exact one_ints _ | exact one_resCells _ _ | exact one_slotC _) ?_ | refine x_storeA 9 rfl rfl rfl Try.hi93 Try.cz93 rfl (by first | (simp [Value.oneCell', opCells]; done) | assumption | exact one_ints _ | exact one_resCells _ _ | exact one_slotC _) ?_ | refine x_storeA 10 rfl rfl rfl Try.hi93 Try.cz93 rfl (by first | (simp [Value.oneCell', opCells]; done) | assumption | exact one_ints _ | exact one_resCells _ _ | exact one_slotC _) ?_ | refine x_storeA 11 rfl rfl rfl Try.hi93 Try.cz93 rfl (by first | (simp [Value.oneCell', opCells]; done) | assumption | exact one_ints _ | exact one_resCells _ _ | exact one_slotC _) ?_
            refine w_val (v_assign rfl) rfl ?_
            refine w_nil ?_
            refine e_seq ?_
            refine e_region ?_
            refine w_op rfl ?_
            refine x_alloc (z := .agg #[.slice none 0 0, .slice none 0 0, .slice none 0 0, .slice none 0 0, .slice none 0 0, .slice none 0 0, .slice none 0 0, .slice none 0 0, .slice none 0 0, .slice none 0 0]) (by intro w; exact Try.zeroValue109 w) rfl (fun b12 => ?_)
            refine w_nil ?_
            refine e_seq ?_
            refine e_seq ?_
            refine e_region ?_
            refine w_heap (fun _ hw => (hw.rows0 132 4 10).perm (.swap _ _ _)) ?_
            refine w_val (v_assign rfl) rfl ?_
            refine w_nil ?_
            refine e_block ?_
            refine e_loopH (σ := Nat × (Nat → Value)) [1, 2, 7, 8, 9, 10, 11, 12] (.cons rfl (.cons rfl (.cons rfl (.cons rfl (.cons rfl (.cons rfl (.cons rfl (.cons rfl .nil)))))))) (fun x => [(13, .int .i64 (x.1 : Int))]) (fun x => tbH b12 109 x.2 (cpT T x.1) ++ (.blk b10 93 (resCells (X k).rc (X k).rg) :: Wks r.length pw dvw X :: (tbH pt 130 ht T ++ [.blk pc 105 [ptrV pt, ptrV pb, .slice (some adw) r.length kw, hv], Own (.slice (some adw) r.length kw) 101 1 r.length (ptrs r.length pw)]))) (fun x => x.1 ≤ 10) (fun x => 10 - x.1) (0, fun _ => nilS) (Nat.zero_le _) (by repeat (first | exact Sub.nil _ | refine Sub.cons rfl ?_)) (fun _ hw => hw) ?_
            rintro ⟨n, h12⟩ hn
            dsimp only at hn ⊢
            refine e_seq ?_
            refine e_seq ?_
            refine e_region ?_
            refine w_val (v_move rfl) rfl ?_
            refine w_val (v_lss rfl rfl) rfl ?_
            refine w_nil ?_
            refine e_condD rfl (fun hlt2 => ?_) (fun hlt2 => ?_)
            · have hn' : n < 10 := by omega
              have hni : (0 : Int) ≤ (n : Int) ∧ (n : Int) < 10 := by omega
              refine e_skip ?_
              refine e_seq ?_
              refine e_block ?_
              refine e_region ?_
              refine w_val (v_move rfl) rfl ?_
              refine w_val (v_move rfl) rfl ?_
              refine w_val (v_nilCheck rfl) rfl ?_
              first | refine w_val (v_fieldAddrB (o := 0) Try.underlying105 rfl rfl Try.nz72 rfl) rfl ?_ | refine w_val (v_fieldAddr (o := 0) Try.underlying105 rfl rfl Try.nz72 rfl) rfl ?_
              first | refine w_val (v_loadB 0 rfl Try.underlying72 rfl rfl rfl) rfl ?_ | refine w_val (v_loadB 1 rfl Try.underlying72 rfl rfl rfl) rfl ?_ | refine w_val (v_loadB 2 rfl Try.underlying72 rfl rfl rfl) rfl ?_ | refine w_val (v_loadB 3 rfl Try.underlying72 rfl rfl rfl) rfl ?_ | refine w_val (v_loadB 4 rfl Try.underlying72 rfl rfl rfl) rfl ?_ | refine w_val (v_loadB 5 rfl Try.underlying72 rfl rfl rfl) rfl ?_ | refine w_val (v_loadB 6 rfl Try.underlying72 rfl rfl rfl) rfl ?_ | refine w_val (v_loadB 7 rfl Try.underlying72 rfl rfl rfl) rfl ?_ | refine w_val (v_loadB 8 rfl Try.underlying72 rfl rfl rfl) rfl ?_ | refine w_val (v_loadB 9 rfl Try.underlying72 rfl rfl rfl) rfl ?_ | refine w_val (v_loadB 10 rfl Try.underlying72 rfl rfl rfl) rfl ?_ | refine w_val (v_loadB 11 rfl Try.underlying72 rfl rfl rfl) rfl ?_
              refine w_val (v_move rfl) rfl ?_
              refine w_op rfl ?_
              refine x_call (dst := some 80) (mc := []) (σ := Value) (fun _ => True) (fun s => s) (fun s => [Own s 132 4 (T n).length (slotCells (T n))]) rfl rfl rfl Try.call59 (fun w hw => by have := tabSlots_spec pt ht T n w (hw.tbV 4 rfl rfl) hinv.short; rwa [if_pos hni, Int.toNat_natCast] at this) rfl (fun sl _ => ?_); refine g_shape2 0 rfl fun A4 k4 hv4 _ _ => ?_; subst hv4
              first | refine w_val (v_indexAB Try.underlying109 Try.hi84 Try.cz84 rfl rfl (by first | omega | decide)) rfl ?_ | refine w_val (v_indexA Try.underlying109 Try.hi84 Try.cz84 rfl rfl (by first | omega | decide)) rfl ?_
              refine w_op rfl ?_
              refine x_store1 1 rfl rfl rfl Try.hi84 Try.cz84 rfl (by rw [tab_len]; omega) rfl ?_
              refine w_nil ?_
              refine e_blk ?_
              refine e_region ?_
              refine w_val (v_move rfl) rfl ?_
              first | refine w_val (v_add rfl rfl (by omega)) rfl ?_ | refine w_val (v_addw rfl rfl) rfl ?_
              refine w_val (v_assign rfl) rfl ?_
              refine w_nil ?_
              refine e_round ((n + 1, upd h12 n (.slice A4 (T n).length k4))) (by dsimp only; omega) (by dsimp only; omega) (by repeat (first | exact Sub.nil _ | refine Sub.cons rfl ?_)) (fun _ hw => ?_)
              dsimp only
              have e1 : 0 + ((n : Int)).toNat * 1 = n := by rw [Int.toNat_natCast]; omega
              simp only [e1, List.set_cons_zero, List.set_cons_succ, List.append_eq, tab_set, List.append_nil, List.nil_append, List.cons_append] at hw
              have h1 := St.rowSwap hn' (hw.perm (List.Perm.cons _ (.swap _ _ _)))
              rw [rows_upd (l' := T n) rfl, cpT_step] at h1
              exact h1.perm (.swap _ _ _)
            · have e : n = 10 := by omega
              subst e
              rw [tbH_congr (T' := T) (fun j hj => cpT_all hj)]
              have hinv' := hinv.step hk
              refine e_exit rfl ?_
              refine e_seq ?_
              refine e_draw ([.blk pc 105 [ptrV pt, ptrV pb, .slice (some adw) r.length kw, hv], Own (.slice (some adw) r.length kw) 101 1 r.length (ptrs r.length pw)]) Try.mixed ?_
              refine a_take 0 pan_cx (by kernel_rfl) (fun _ hw => hw.sub (by repeat (first | exact List.Sublist.slnil | exact List.Sublist.refl _ | apply List.Sublist.cons_cons | apply List.Sublist.cons))) rfl (by kernel_rfl) (by kernel_rfl) (v_move rfl) rfl ?_
              refine a_take 1 pan_cx (by kernel_rfl) (fun _ hw => hw.sub (by repeat (first | exact List.Sublist.slnil | exact List.Sublist.refl _ | apply List.Sublist.cons_cons | apply List.Sublist.cons))) rfl (by kernel_rfl) (by kernel_rfl) (v_nilCheck rfl) rfl ?_
              first | refine a_take 2 pan_cx (by kernel_rfl) (fun _ hw => hw.sub (by repeat (first | exact List.Sublist.slnil | exact List.Sublist.refl _ | apply List.Sublist.cons_cons | apply List.Sublist.cons))) rfl (by kernel_rfl) (by kernel_rfl) (v_fieldAddrB (o := 2) Try.underlying105 rfl rfl Try.nz102 rfl) rfl ?_ | refine a_take 2 pan_cx (by kernel_rfl) (fun _ hw => hw.sub (by repeat (first | exact List.Sublist.slnil | exact List.Sublist.refl _ | apply List.Sublist.cons_cons | apply List.Sublist.cons))) rfl (by kernel_rfl) (by kernel_rfl) (v_fieldAddr (o := 2) Try.underlying105 rfl rfl Try.nz102 rfl) rfl ?_
              first | refine a_take 3 pan_cx (by kernel_rfl) (fun _ hw => hw.sub (by repeat (first | exact List.Sublist.slnil | exact List.Sublist.refl _ | apply List.Sublist.cons_cons | apply List.Sublist.cons))) rfl (by kernel_rfl) (by kernel_rfl) (v_loadB 0 rfl Try.underlying102 rfl rfl rfl) rfl ?_ | refine a_take 3 pan_cx (by kernel_rfl) (fun _ hw => hw.sub (by repeat (first | exact List.Sublist.slnil | exact List.Sublist.refl _ | apply List.Sublist.cons_cons | apply List.Sublist.cons))) rfl (by kernel_rfl) (by kernel_rfl) (v_loadB 1 rfl Try.underlying102 rfl rfl rfl) rfl ?_ | refine a_take 3 pan_cx (by kernel_rfl) (fun _ hw => hw.sub (by repeat (first | exact List.Sublist.slnil | exact List.Sublist.refl _ | apply List.Sublist.cons_cons | apply List.Sublist.cons))) rfl (by kernel_rfl) (by kernel_rfl) (v_loadB 2 rfl Try.underlying102 rfl rfl rfl) rfl ?_ | refine a_take 3 pan_cx (by kernel_rfl) (fun _ hw => hw.sub (by repeat (first | exact List.Sublist.slnil | exact List.Sublist.refl _ | apply List.Sublist.cons_cons | apply List.Sublist.cons))) rfl (by kernel_rfl) (by kernel_rfl) (v_loadB 3 rfl Try.underlying102 rfl rfl rfl) rfl ?_ | refine a_take 3 pan_cx (by kernel_rfl) (fun _ hw => hw.sub (by repeat (first | exact List.Sublist.slnil | exact List.Sublist.refl _ | apply List.Sublist.cons_cons | apply List.Sublist.cons))) rfl (by kernel_rfl) (by kernel_rfl) (v_loadB 4 rfl Try.underlying102 rfl rfl rfl) rfl ?_ | refine a_take 3 pan_cx (by kernel_rfl) (fun _ hw => hw.sub (by repeat (first | exact List.Sublist.slnil | exact List.Sublist.refl _ | apply List.Sublist.cons_cons | apply List.Sublist.cons))) rfl (by kernel_rfl) (by kernel_rfl) (v_loadB 5 rfl Try.underlying102 rfl rfl rfl) rfl ?_ | refine a_take 3 pan_cx (by kernel_rfl) (fun _ hw => hw.sub (by repeat (first | exact List.Sublist.slnil | exact List.Sublist.refl _ | apply List.Sublist.cons_cons | apply List.Sublist.cons))) rfl (by kernel_rfl) (by kernel_rfl) (v_loadB 6 rfl Try.underlying102 rfl rfl rfl) rfl ?_ | refine a_take 3 pan_cx (by kernel_rfl) (fun _ hw => hw.sub (by repeat (first | exact List.Sublist.slnil | exact List.Sublist.refl _ | apply List.Sublist.cons_cons | apply List.Sublist.cons))) rfl (by kernel_rfl) (by kernel_rfl) (v_loadB 7 rfl Try.underlying102 rfl rfl rfl) rfl ?_ | refine a_take 3 pan_cx (by kernel_rfl) (fun _ hw => hw.sub (by repeat (first | exact List.Sublist.slnil | exact List.Sublist.refl _ | apply List.Sublist.cons_cons | apply List.Sublist.cons))) rfl (by kernel_rfl) (by kernel_rfl) (v_loadB 8 rfl Try.underlying102 rfl rfl rfl) rfl ?_ | refine a_take 3 pan_cx (by kernel_rfl) (fun _ hw => hw.sub (by repeat (first | exact List.Sublist.slnil | exact List.Sublist.refl _ | apply List.Sublist.cons_cons | apply List.Sublist.cons))) rfl (by kernel_rfl) (by kernel_rfl) (v_loadB 9 rfl Try.underlying102 rfl rfl rfl) rfl ?_ | refine a_take 3 pan_cx (by kernel_rfl) (fun _ hw => hw.sub (by repeat (first | exact List.Sublist.slnil | exact List.Sublist.refl _ | apply List.Sublist.cons_cons | apply List.Sublist.cons))) rfl (by kernel_rfl) (by kernel_rfl) (v_loadB 10 rfl Try.underlying102 rfl rfl rfl) rfl ?_ | refine a_take 3 pan_cx (by kernel_rfl) (fun _ hw => hw.sub (by repeat (first | exact List.Sublist.slnil | exact List.Sublist.refl _ | apply List.Sublist.cons_cons | apply List.Sublist.cons))) rfl (by kernel_rfl) (by kernel_rfl) (v_loadB 11 rfl Try.underlying102 rfl rfl rfl) rfl ?_
              refine a_take 4 pan_cx (by kernel_rfl) (fun _ hw => hw.sub (by repeat (first | exact List.Sublist.slnil | exact List.Sublist.refl _ | apply List.Sublist.cons_cons | apply List.Sublist.cons))) rfl (by kernel_rfl) (by kernel_rfl) (v_move rfl) rfl ?_
              first | refine a_take 5 pan_cx (by kernel_rfl) (fun _ hw => hw.sub (by repeat (first | exact List.Sublist.slnil | exact List.Sublist.refl _ | apply List.Sublist.cons_cons | apply List.Sublist.cons))) rfl (by kernel_rfl) (by kernel_rfl) (v_indexSB Try.underlying102 Try.hi101 Try.cz101 rfl rfl (by first | omega | decide)) rfl ?_ | refine a_take 5 pan_cx (by kernel_rfl) (fun _ hw => hw.sub (by repeat (first | exact List.Sublist.slnil | exact List.Sublist.refl _ | apply List.Sublist.cons_cons | apply List.Sublist.cons))) rfl (by kernel_rfl) (by kernel_rfl) (v_indexS Try.underlying102 Try.hi101 Try.cz101 rfl rfl (by first | omega | decide)) rfl ?_
              refine a_take 6 pan_cx (by kernel_rfl) (fun _ hw => hw.sub (by repeat (first | exact List.Sublist.slnil | exact List.Sublist.refl _ | apply List.Sublist.cons_cons | apply List.Sublist.cons))) rfl (by kernel_rfl) (by kernel_rfl) (v_loadW 1 rfl (by omega) (ptrs_at hk) Try.underlying101 rfl rfl) rfl ?_
              refine a_take 7 pan_cx (by kernel_rfl) (fun _ hw => hw.sub (by repeat (first | exact List.Sublist.slnil | exact List.Sublist.refl _ | apply List.Sublist.cons_cons | apply List.Sublist.cons))) rfl (by kernel_rfl) (by kernel_rfl) (v_move rfl) rfl ?_
              refine a_take 8 pan_cx (by kernel_rfl) (fun _ hw => hw.sub (by repeat (first | exact List.Sublist.slnil | exact List.Sublist.refl _ | apply List.Sublist.cons_cons | apply List.Sublist.cons))) rfl (by kernel_rfl) (by kernel_rfl) (v_nilCheck rfl) rfl ?_
              first | refine a_take 9 pan_cx (by kernel_rfl) (fun _ hw => hw.sub (by repeat (first | exact List.Sublist.slnil | exact List.Sublist.refl _ | apply List.Sublist.cons_cons | apply List.Sublist.cons))) rfl (by kernel_rfl) (by kernel_rfl) (v_fieldAddrB (o := 0) Try.underlying105 rfl rfl Try.nz72 rfl) rfl ?_ | refine a_take 9 pan_cx (by kernel_rfl) (fun _ hw => hw.sub (by repeat (first | exact List.Sublist.slnil | exact List.Sublist.refl _ | apply List.Sublist.cons_cons | apply List.Sublist.cons))) rfl (by kernel_rfl) (by kernel_rfl) (v_fieldAddr (o := 0) Try.underlying105 rfl rfl Try.nz72 rfl) rfl ?_
              first | refine a_take 10 pan_cx (by kernel_rfl) (fun _ hw => hw.sub (by repeat (first | exact List.Sublist.slnil | exact List.Sublist.refl _ | apply List.Sublist.cons_cons | apply List.Sublist.cons))) rfl (by kernel_rfl) (by kernel_rfl) (v_loadB 0 rfl Try.underlying72 rfl rfl rfl) rfl ?_ | refine a_take 10 pan_cx (by kernel_rfl) (fun _ hw => hw.sub (by repeat (first | exact List.Sublist.slnil | exact List.Sublist.refl _ | apply List.Sublist.cons_cons | apply List.Sublist.cons))) rfl (by kernel_rfl) (by kernel_rfl) (v_loadB 1 rfl Try.underlying72 rfl rfl rfl) rfl ?_ | refine a_take 10 pan_cx (by kernel_rfl) (fun _ hw => hw.sub (by repeat (first | exact List.Sublist.slnil | exact List.Sublist.refl _ | apply List.Sublist.cons_cons | apply List.Sublist.cons))) rfl (by kernel_rfl) (by kernel_rfl) (v_loadB 2 rfl Try.underlying72 rfl rfl rfl) rfl ?_ | refine a_take 10 pan_cx (by kernel_rfl) (fun _ hw => hw.sub (by repeat (first | exact List.Sublist.slnil | exact List.Sublist.refl _ | apply List.Sublist.cons_cons | apply List.Sublist.cons))) rfl (by kernel_rfl) (by kernel_rfl) (v_loadB 3 rfl Try.underlying72 rfl rfl rfl) rfl ?_ | refine a_take 10 pan_cx (by kernel_rfl) (fun _ hw => hw.sub (by repeat (first | exact List.Sublist.slnil | exact List.Sublist.refl _ | apply List.Sublist.cons_cons | apply List.Sublist.cons))) rfl (by kernel_rfl) (by kernel_rfl) (v_loadB 4 rfl Try.underlying72 rfl rfl rfl) rfl ?_ | refine a_take 10 pan_cx (by kernel_rfl) (fun _ hw => hw.sub (by repeat (first | exact List.Sublist.slnil | exact List.Sublist.refl _ | apply List.Sublist.cons_cons | apply List.Sublist.cons))) rfl (by kernel_rfl) (by kernel_rfl) (v_loadB 5 rfl Try.underlying72 rfl rfl rfl) rfl ?_ | refine a_take 10 pan_cx (by kernel_rfl) (fun _ hw => hw.sub (by repeat (first | exact List.Sublist.slnil | exact List.Sublist.refl _ | apply List.Sublist.cons_cons | apply List.Sublist.cons))) rfl (by kernel_rfl) (by kernel_rfl) (v_loadB 6 rfl Try.underlying72 rfl rfl rfl) rfl ?_ | refine a_take 10 pan_cx (by kernel_rfl) (fun _ hw => hw.sub (by repeat (first | exact List.Sublist.slnil | exact List.Sublist.refl _ | apply List.Sublist.cons_cons | apply List.Sublist.cons))) rfl (by kernel_rfl) (by kernel_rfl) (v_loadB 7 rfl Try.underlying72 rfl rfl rfl) rfl ?_ | refine a_take 10 pan_cx (by kernel_rfl) (fun _ hw => hw.sub (by repeat (first | exact List.Sublist.slnil | exact List.Sublist.refl _ | apply List.Sublist.cons_cons | apply List.Sublist.cons))) rfl (by kernel_rfl) (by kernel_rfl) (v_loadB 8 rfl Try.underlying72 rfl rfl rfl) rfl ?_ | refine a_take 10 pan_cx (by kernel_rfl) (fun _ hw => hw.sub (by repeat (first | exact List.Sublist.slnil | exact List.Sublist.refl _ | apply List.Sublist.cons_cons | apply List.Sublist.cons))) rfl (by kernel_rfl) (by kernel_rfl) (v_loadB 9 rfl Try.underlying72 rfl rfl rfl) rfl ?_ | refine a_take 10 pan_cx (by kernel_rfl) (fun _ hw => hw.sub (by repeat (first | exact List.Sublist.slnil | exact List.Sublist.refl _ | apply List.Sublist.cons_cons | apply List.Sublist.cons))) rfl (by kernel_rfl) (by kernel_rfl) (v_loadB 10 rfl Try.underlying72 rfl rfl rfl) rfl ?_ | refine a_take 10 pan_cx (by kernel_rfl) (fun _ hw => hw.sub (by repeat (first | exact List.Sublist.slnil | exact List.Sublist.refl _ | apply List.Sublist.cons_cons | apply List.Sublist.cons))) rfl (by kernel_rfl) (by kernel_rfl) (v_loadB 11 rfl Try.underlying72 rfl rfl rfl) rfl ?_
              refine a_one 11 (by kernel_rfl) rfl rfl ?_
              refine x_wkStep (mr := [Chunk.blk pc 105 [ptrV pt, ptrV pb, .slice (some adw) r.length kw, hv], Own (.slice (some adw) r.length kw) 101 1 r.length (ptrs r.length pw)] ++ (tbH b12 109 h12 T ++ [Chunk.blk b10 93 (resCells (X k).rc (X k).rg)])) hinv hk (fun _ hw => hw.pick [3, 4, 5, 6, 7, 0, 1, 2] (by decide)) rfl rfl rfl ?_
              refine a_and (fun _ hw => hw.sub (by repeat (first | exact List.Sublist.slnil | exact List.Sublist.refl _ | apply List.Sublist.cons_cons | apply List.Sublist.cons))) ?_
              refine a_take 12 pan_cx (by kernel_rfl) (fun _ hw => hw.sub (by repeat (first | exact List.Sublist.slnil | exact List.Sublist.refl _ | apply List.Sublist.cons_cons | apply List.Sublist.cons))) rfl (by kernel_rfl) (by kernel_rfl) (v_move rfl) rfl ?_
              refine a_take 13 pan_cx (by kernel_rfl) (fun _ hw => hw.sub (by repeat (first | exact List.Sublist.slnil | exact List.Sublist.refl _ | apply List.Sublist.cons_cons | apply List.Sublist.cons))) rfl (by kernel_rfl) (by kernel_rfl) (v_extract rfl rfl) rfl ?_
              refine a_take 14 pan_cx (by kernel_rfl) (fun _ hw => hw.sub (by repeat (first | exact List.Sublist.slnil | exact List.Sublist.refl _ | apply List.Sublist.cons_cons | apply List.Sublist.cons))) rfl (by kernel_rfl) (by kernel_rfl) (v_extract rfl rfl) rfl ?_
              refine a_take 15 pan_cx (by kernel_rfl) (fun _ hw => hw.sub (by repeat (first | exact List.Sublist.slnil | exact List.Sublist.refl _ | apply List.Sublist.cons_cons | apply List.Sublist.cons))) rfl (by kernel_rfl) (by kernel_rfl) (v_assign rfl) rfl ?_
              refine a_take 16 pan_cx (by kernel_rfl) (fun _ hw => hw.sub (by repeat (first | exact List.Sublist.slnil | exact List.Sublist.refl _ | apply List.Sublist.cons_cons | apply List.Sublist.cons))) rfl (by kernel_rfl) (by kernel_rfl) (v_assign rfl) rfl ?_
              refine a_done (by kernel_rfl) ?_
              refine e_seq ?_
              refine e_seq ?_
              refine e_region ?_
              refine w_val (v_move rfl) rfl ?_
              refine w_val (v_not rfl) rfl ?_
              refine w_nil ?_
              cases hov : (X k).ov with
              | false =>
                first | refine e_condDT rfl (by omega) ?_ | refine e_condT rfl ?_
                refine e_exit rfl ?_
                refine e_region ?_
                refine w_val (v_move rfl) rfl ?_
                first | refine w_val (v_add rfl rfl (by omega)) rfl ?_ | refine w_val (v_addw rfl rfl) rfl ?_
                refine w_val (v_assign rfl) rfl ?_
                refine w_nil ?_
                exact e_round ((i + 1, upd X k (stepW (X k) T).2.1, (stepW (X k) T).2.2)) (⟨by dsimp only; omega, hinv'⟩) (by dsimp only; omega) (by repeat (first | exact Sub.nil _ | refine Sub.cons rfl ?_)) (fun _ hw => hw.pick [0, 1, 2, 3, 4] (by decide))
              | true =>
                have hR := step_over (T := T) hov
                rw [hR]
                dsimp only
                rw [upd_self]
                first | refine e_condDF rfl (by omega) ?_ | refine e_condF rfl ?_
                refine e_skip ?_
                refine e_seq ?_
                refine e_region ?_
                refine w_val (v_move rfl) rfl ?_
                refine w_val (v_nilCheck rfl) rfl ?_
                first | refine w_val (v_fieldAddrB (o := 2) Try.underlying105 rfl rfl Try.nz102 rfl) rfl ?_ | refine w_val (v_fieldAddr (o := 2) Try.underlying105 rfl rfl Try.nz102 rfl) rfl ?_
                first | refine w_val (v_loadB 0 rfl Try.underlying102 rfl rfl rfl) rfl ?_ | refine w_val (v_loadB 1 rfl Try.underlying102 rfl rfl rfl) rfl ?_ | refine w_val (v_loadB 2 rfl Try.underlying102 rfl rfl rfl) rfl ?_ | refine w_val (v_loadB 3 rfl Try.underlying102 rfl rfl rfl) rfl ?_ | refine w_val (v_loadB 4 rfl Try.underlying102 rfl rfl rfl) rfl ?_ | refine w_val (v_loadB 5 rfl Try.underlying102 rfl rfl rfl) rfl ?_ | refine w_val (v_loadB 6 rfl Try.underlying102 rfl rfl rfl) rfl ?_ | refine w_val (v_loadB 7 rfl Try.underlying102 rfl rfl rfl) rfl ?_ | refine w_val (v_loadB 8 rfl Try.underlying102 rfl rfl rfl) rfl ?_ | refine w_val (v_loadB 9 rfl Try.underlying102 rfl rfl rfl) rfl ?_ | refine w_val (v_loadB 10 rfl Try.underlying102 rfl rfl rfl) rfl ?_ | refine w_val (v_loadB 11 rfl Try.underlying102 rfl rfl rfl) rfl ?_
                refine w_val (v_move rfl) rfl ?_
                first | refine w_val (v_indexSB Try.underlying102 Try.hi101 Try.cz101 rfl rfl (by first | omega | decide)) rfl ?_ | refine w_val (v_indexS Try.underlying102 Try.hi101 Try.cz101 rfl rfl (by first | omega | decide)) rfl ?_
                refine w_val (v_loadW 4 rfl (by omega) (ptrs_at hk) Try.underlying101 rfl rfl) rfl ?_
                refine w_op rfl ?_
                refine x_call0 (v := .tuple #[.agg (resCells (X k).rc (X k).rg).toArray, .bool true]) rfl rfl rfl Try.call64 rfl (fun w hw => by have := wkResult_spec (pw k) (X k) w (hinv.wkV hw List.mem_cons_self hk) hrl; rwa [hov] at this) ?_
                refine w_val (v_move rfl) rfl ?_
                refine w_val (v_extract rfl rfl) rfl ?_
                refine w_val (v_extract rfl rfl) rfl ?_
                refine w_op rfl ?_
                refine x_alloc (z := .agg #[.int .i64 0, .int .i64 0, .int .i64 0, .int .i64 0, .int .i64 0]) (by intro w; exact Try.zeroValue93 w) rfl (fun b16 => ?_)
                refine w_op rfl ?_
                first | refine x_storeA 0 rfl rfl rfl Try.hi93 (Try.cz93.trans (by simp [Value.cells, intsV, resCells, intCells, hrl])) (by simp [Value.cells, intsV, resCells, intCells, hrl]) (by first | exact one_intCells _ | exact one_resCells _ _) ?_ | refine x_storeA 1 rfl rfl rfl Try.hi93 (Try.cz93.trans (by simp [Value.cells, intsV, resCells, intCells, hrl])) (by simp [Value.cells, intsV, resCells, intCells, hrl]) (by first | exact one_intCells _ | exact one_resCells _ _) ?_ | refine x_storeA 2 rfl rfl rfl Try.hi93 (Try.cz93.trans (by simp [Value.cells, intsV, resCells, intCells, hrl])) (by simp [Value.cells, intsV, resCells, intCells, hrl]) (by first | exact one_intCells _ | exact one_resCells _ _) ?_ | refine x_storeA 3 rfl rfl rfl Try.hi93 (Try.cz93.trans (by simp [Value.cells, intsV, resCells, intCells, hrl])) (by simp [Value.cells, intsV, resCells, intCells, hrl]) (by first | exact one_intCells _ | exact one_resCells _ _) ?_ | refine x_storeA 4 rfl rfl rfl Try.hi93 (Try.cz93.trans (by simp [Value.cells, intsV, resCells, intCells, hrl])) (by simp [Value.cells, intsV, resCells, intCells, hrl]) (by first | exact one_intCells _ | exact one_resCells _ _) ?_ | refine x_storeA 5 rfl rfl rfl Try.hi93 (Try.cz93.trans (by simp [Value.cells, intsV, resCells, intCells, hrl])) (by simp [Value.cells, intsV, resCells, intCells, hrl]) (by first | exact one_intCells _ | exact one_resCells _ _) ?_ | refine x_storeA 6 rfl rfl rfl Try.hi93 (Try.cz93.trans (by simp [Value.cells, intsV, resCells, intCells, hrl])) (by simp [Value.cells, intsV, resCells, intCells, hrl]) (by first | exact one_intCells _ | exact one_resCells _ _) ?_ | refine x_storeA 7 rfl rfl rfl Try.hi93 (Try.cz93.trans (by simp [Value.cells, intsV, resCells, intCells, hrl])) (by simp [Value.cells, intsV, resCells, intCells, hrl]) (by first | exact one_intCells _ | exact one_resCells _ _) ?_ | refine x_storeA 8 rfl rfl rfl Try.hi93 (Try.cz93.trans (by simp [Value.cells, intsV, resCells, intCells, hrl])) (by simp [Value.cells, intsV, resCells, intCells, hrl]) (by first | exact one_intCells _ | exact one_resCells _ _) ?_ | refine x_storeA 9 rfl rfl rfl Try.hi93 (Try.cz93.trans (by simp [Value.cells, intsV, resCells, intCells, hrl])) (by simp [Value.cells, intsV, resCells, intCells, hrl]) (by first | exact one_intCells _ | exact one_resCells _ _) ?_ | refine x_storeA 10 rfl rfl rfl Try.hi93 (Try.cz93.trans (by simp [Value.cells, intsV, resCells, intCells, hrl])) (by simp [Value.cells, intsV, resCells, intCells, hrl]) (by first | exact one_intCells _ | exact one_resCells _ _) ?_ | refine x_storeA 11 rfl rfl rfl Try.hi93 (Try.cz93.trans (by simp [Value.cells, intsV, resCells, intCells, hrl])) (by simp [Value.cells, intsV, resCells, intCells, hrl]) (by first | exact one_intCells _ | exact one_resCells _ _) ?_ | refine x_storeA 0 rfl rfl rfl Try.hi93 Try.cz93 rfl (by first | (simp [Value.oneCell', opCells]; done) | assumption | exact one_ints _ | exact one_resCells _ _ | exact one_slotC _) ?_ | refine x_storeA 1 rfl rfl rfl Try.hi93 Try.cz93 rfl (by first | (simp [Value.oneCell', opCells]; done) | assumption | exact one_ints _ | exact one_resCells _ _ | exact one_slotC _) ?_ | refine x_storeA 2 rfl rfl rfl Try.hi93 Try.cz93 rfl (by first | (simp [Value.oneCell', opCells]; done) | assumption | exact one_ints _ | exact one_resCells _ _ | exact one_slotC _) ?_ | refine x_storeA 3 rfl rfl rfl Try.hi93 Try.cz93 rfl (by first | (simp [Value.oneCell', opCells]; done) | assumption | exact one_ints _ | exact one_resCells _ _ | exact one_slotC _) ?_ | refine x_storeA 4 rfl rfl rfl Try.hi93 Try.cz93 rfl (by first | (simp [Value.oneCell', opCells]; done) | assumption | exact one_ints _ | exact one_resCells _ _ | exact one_slotC _) ?_ | refine x_storeA 5 rfl rfl rfl Try.hi93 Try.cz93 rfl (by first | (simp [Value.oneCell', opCells]; done) | assumption | exact one_ints _ | exact one_resCells _ _ | exact one_slotC _) ?_ | refine x_storeA 6 rfl rfl rfl Try.hi93 Try.cz93 rfl (by first | (simp [Value.oneCell', opCells]; done) | assumption | exact one_ints _ | exact one_resCells _ _ | exact one_slotC _) ?_ | refine x_storeA 7 rfl rfl rfl Try.hi93 Try.cz93 rfl (by first | (simp [Value.oneCell', opCells]; done) | assumption | exact one_ints _ | exact one_resCells _ _ | exact one_slotC _) ?_ | refine x_storeA 8 rfl rfl rfl Try.hi93 Try.cz93 rfl (by first | (simp [Value.oneCell', opCells]; done) | assumption | exact one_ints _ | exact one_resCells _ _ | exact one_slotC _) ?_ | refine x_storeA 9 rfl rfl rfl Try.hi93 Try.cz93 rfl (by first | (simp [Value.oneCell', opCells]; done) | assumption | exact one_ints _ | exact one_resCells _ _ | exact one_slotC _) ?_ | refine x_storeA 10 rfl rfl rfl Try.hi93 Try.cz93 rfl (by first | (simp [Value.oneCell', opCells]; done) | assumption | exact one_ints _ | exact one_resCells _ _ | exact one_slotC _) ?_ | refine x_storeA 11 rfl rfl rfl Try.hi93 Try.cz93 rfl (by first | (simp [Value.oneCell', opCells]; done) | assumption | exact one_ints _ | exact one_resCells _ _ | exact one_slotC _) ?_
                refine w_val (v_assign rfl) rfl ?_
                refine w_nil ?_
                refine e_seq ?_
                refine e_seq ?_
                refine e_region ?_
                refine w_val (v_move rfl) rfl ?_
                refine w_val (v_is (v' := .bool false) (v_neq rfl rfl) (by rfl)) rfl ?_
                refine w_val (v_move rfl) rfl ?_
                refine w_want rfl rfl ?_
                refine w_val (v_move rfl) rfl ?_
                refine w_want rfl rfl ?_
                refine w_val (v_is (v' := .bool false) (v_neq rfl rfl) (by rfl)) rfl ?_
                first | refine w_val (v_pickT rfl rfl) rfl ?_ | refine w_val (v_pickF rfl rfl) rfl ?_
                refine w_val (v_move rfl) rfl ?_
                refine w_want rfl rfl ?_
                refine w_val (v_move rfl) rfl ?_
                refine w_want rfl rfl ?_
                refine w_val (v_not rfl) rfl ?_
                first | refine w_val (v_pickT rfl rfl) rfl ?_ | refine w_val (v_pickF rfl rfl) rfl ?_
                refine w_val (v_move rfl) rfl ?_
                refine w_want rfl rfl ?_
                first | refine w_val (v_loadBA 0 rfl Try.underlying93 rfl Try.hi93 Try.cz93 rfl) rfl ?_ | refine w_val (v_loadBA 1 rfl Try.underlying93 rfl Try.hi93 Try.cz93 rfl) rfl ?_ | refine w_val (v_loadBA 2 rfl Try.underlying93 rfl Try.hi93 Try.cz93 rfl) rfl ?_ | refine w_val (v_loadBA 3 rfl Try.underlying93 rfl Try.hi93 Try.cz93 rfl) rfl ?_ | refine w_val (v_loadBA 4 rfl Try.underlying93 rfl Try.hi93 Try.cz93 rfl) rfl ?_ | refine w_val (v_loadBA 5 rfl Try.underlying93 rfl Try.hi93 Try.cz93 rfl) rfl ?_ | refine w_val (v_loadBA 6 rfl Try.underlying93 rfl Try.hi93 Try.cz93 rfl) rfl ?_ | refine w_val (v_loadBA 7 rfl Try.underlying93 rfl Try.hi93 Try.cz93 rfl) rfl ?_ | refine w_val (v_loadBA 8 rfl Try.underlying93 rfl Try.hi93 Try.cz93 rfl) rfl ?_ | refine w_val (v_loadBA 9 rfl Try.underlying93 rfl Try.hi93 Try.cz93 rfl) rfl ?_ | refine w_val (v_loadBA 10 rfl Try.underlying93 rfl Try.hi93 Try.cz93 rfl) rfl ?_ | refine w_val (v_loadBA 11 rfl Try.underlying93 rfl Try.hi93 Try.cz93 rfl) rfl ?_ | refine w_val (v_loadBA 0 rfl Try.underlying93 rfl Try.hi93 (Try.cz93.trans (by simp [Value.cells, intsV, resCells, intCells, hrl])) rfl) rfl ?_ | refine w_val (v_loadBA 1 rfl Try.underlying93 rfl Try.hi93 (Try.cz93.trans (by simp [Value.cells, intsV, resCells, intCells, hrl])) rfl) rfl ?_ | refine w_val (v_loadBA 2 rfl Try.underlying93 rfl Try.hi93 (Try.cz93.trans (by simp [Value.cells, intsV, resCells, intCells, hrl])) rfl) rfl ?_ | refine w_val (v_loadBA 3 rfl Try.underlying93 rfl Try.hi93 (Try.cz93.trans (by simp [Value.cells, intsV, resCells, intCells, hrl])) rfl) rfl ?_ | refine w_val (v_loadBA 4 rfl Try.underlying93 rfl Try.hi93 (Try.cz93.trans (by simp [Value.cells, intsV, resCells, intCells, hrl])) rfl) rfl ?_ | refine w_val (v_loadBA 5 rfl Try.underlying93 rfl Try.hi93 (Try.cz93.trans (by simp [Value.cells, intsV, resCells, intCells, hrl])) rfl) rfl ?_ | refine w_val (v_loadBA 6 rfl Try.underlying93 rfl Try.hi93 (Try.cz93.trans (by simp [Value.cells, intsV, resCells, intCells, hrl])) rfl) rfl ?_ | refine w_val (v_loadBA 7 rfl Try.underlying93 rfl Try.hi93 (Try.cz93.trans (by simp [Value.cells, intsV, resCells, intCells, hrl])) rfl) rfl ?_ | refine w_val (v_loadBA 8 rfl Try.underlying93 rfl Try.hi93 (Try.cz93.trans (by simp [Value.cells, intsV, resCells, intCells, hrl])) rfl) rfl ?_ | refine w_val (v_loadBA 9 rfl Try.underlying93 rfl Try.hi93 (Try.cz93.trans (by simp [Value.cells, intsV, resCells, intCells, hrl])) rfl) rfl ?_ | refine w_val (v_loadBA 10 rfl Try.underlying93 rfl Try.hi93 (Try.cz93.trans (by simp [Value.cells, intsV, resCells, intCells, hrl])) rfl) rfl ?_ | refine w_val (v_loadBA 11 rfl Try.underlying93 rfl Try.hi93 (Try.cz93.trans (by simp [Value.cells, intsV, resCells, intCells, hrl])) rfl) rfl ?_ | refine w_val (v_loadBN 0 rfl Try.underlying93 rfl Try.hi93 Try.cz93 rfl rfl rfl) rfl ?_ | refine w_val (v_loadBN 1 rfl Try.underlying93 rfl Try.hi93 Try.cz93 rfl rfl rfl) rfl ?_ | refine w_val (v_loadBN 2 rfl Try.underlying93 rfl Try.hi93 Try.cz93 rfl rfl rfl) rfl ?_ | refine w_val (v_loadBN 3 rfl Try.underlying93 rfl Try.hi93 Try.cz93 rfl rfl rfl) rfl ?_ | refine w_val (v_loadBN 4 rfl Try.underlying93 rfl Try.hi93 Try.cz93 rfl rfl rfl) rfl ?_ | refine w_val (v_loadBN 5 rfl Try.underlying93 rfl Try.hi93 Try.cz93 rfl rfl rfl) rfl ?_ | refine w_val (v_loadBN 6 rfl Try.underlying93 rfl Try.hi93 Try.cz93 rfl rfl rfl) rfl ?_ | refine w_val (v_loadBN 7 rfl Try.underlying93 rfl Try.hi93 Try.cz93 rfl rfl rfl) rfl ?_ | refine w_val (v_loadBN 8 rfl Try.underlying93 rfl Try.hi93 Try.cz93 rfl rfl rfl) rfl ?_ | refine w_val (v_loadBN 9 rfl Try.underlying93 rfl Try.hi93 Try.cz93 rfl rfl rfl) rfl ?_ | refine w_val (v_loadBN 10 rfl Try.underlying93 rfl Try.hi93 Try.cz93 rfl rfl rfl) rfl ?_ | refine w_val (v_loadBN 11 rfl Try.underlying93 rfl Try.hi93 Try.cz93 rfl rfl rfl) rfl ?_
                refine w_want rfl rfl ?_
                first | refine w_val (v_loadBA 0 rfl Try.underlying93 rfl Try.hi93 Try.cz93 rfl) rfl ?_ | refine w_val (v_loadBA 1 rfl Try.underlying93 rfl Try.hi93 Try.cz93 rfl) rfl ?_ | refine w_val (v_loadBA 2 rfl Try.underlying93 rfl Try.hi93 Try.cz93 rfl) rfl ?_ | refine w_val (v_loadBA 3 rfl Try.underlying93 rfl Try.hi93 Try.cz93 rfl) rfl ?_ | refine w_val (v_loadBA 4 rfl Try.underlying93 rfl Try.hi93 Try.cz93 rfl) rfl ?_ | refine w_val (v_loadBA 5 rfl Try.underlying93 rfl Try.hi93 Try.cz93 rfl) rfl ?_ | refine w_val (v_loadBA 6 rfl Try.underlying93 rfl Try.hi93 Try.cz93 rfl) rfl ?_ | refine w_val (v_loadBA 7 rfl Try.underlying93 rfl Try.hi93 Try.cz93 rfl) rfl ?_ | refine w_val (v_loadBA 8 rfl Try.underlying93 rfl Try.hi93 Try.cz93 rfl) rfl ?_ | refine w_val (v_loadBA 9 rfl Try.underlying93 rfl Try.hi93 Try.cz93 rfl) rfl ?_ | refine w_val (v_loadBA 10 rfl Try.underlying93 rfl Try.hi93 Try.cz93 rfl) rfl ?_ | refine w_val (v_loadBA 11 rfl Try.underlying93 rfl Try.hi93 Try.cz93 rfl) rfl ?_ | refine w_val (v_loadBA 0 rfl Try.underlying93 rfl Try.hi93 (Try.cz93.trans (by simp [Value.cells, intsV, resCells, intCells, hrl])) rfl) rfl ?_ | refine w_val (v_loadBA 1 rfl Try.underlying93 rfl Try.hi93 (Try.cz93.trans (by simp [Value.cells, intsV, resCells, intCells, hrl])) rfl) rfl ?_ | refine w_val (v_loadBA 2 rfl Try.underlying93 rfl Try.hi93 (Try.cz93.trans (by simp [Value.cells, intsV, resCells, intCells, hrl])) rfl) rfl ?_ | refine w_val (v_loadBA 3 rfl Try.underlying93 rfl Try.hi93 (Try.cz93.trans (by simp [Value.cells, intsV, resCells, intCells, hrl])) rfl) rfl ?_ | refine w_val (v_loadBA 4 rfl Try.underlying93 rfl Try.hi93 (Try.cz93.trans (by simp [Value.cells, intsV, resCells, intCells, hrl])) rfl) rfl ?_ | refine w_val (v_loadBA 5 rfl Try.underlying93 rfl Try.hi93 (Try.cz93.trans (by simp [Value.cells, intsV, resCells, intCells, hrl])) rfl) rfl ?_ | refine w_val (v_loadBA 6 rfl Try.underlying93 rfl Try.hi93 (Try.cz93.trans (by simp [Value.cells, intsV, resCells, intCells, hrl])) rfl) rfl ?_ | refine w_val (v_loadBA 7 rfl Try.underlying93 rfl Try.hi93 (Try.cz93.trans (by simp [Value.cells, intsV, resCells, intCells, hrl])) rfl) rfl ?_ | refine w_val (v_loadBA 8 rfl Try.underlying93 rfl Try.hi93 (Try.cz93.trans (by simp [Value.cells, intsV, resCells, intCells, hrl])) rfl) rfl ?_ | refine w_val (v_loadBA 9 rfl Try.underlying93 rfl Try.hi93 (Try.cz93.trans (by simp [Value.cells, intsV, resCells, intCells, hrl])) rfl) rfl ?_ | refine w_val (v_loadBA 10 rfl Try.underlying93 rfl Try.hi93 (Try.cz93.trans (by simp [Value.cells, intsV, resCells, intCells, hrl])) rfl) rfl ?_ | refine w_val (v_loadBA 11 rfl Try.underlying93 rfl Try.hi93 (Try.cz93.trans (by simp [Value.cells, intsV, resCells, intCells, hrl])) rfl) rfl ?_ | refine w_val (v_loadBN 0 rfl Try.underlying93 rfl Try.hi93 Try.cz93 rfl rfl rfl) rfl ?_ | refine w_val (v_loadBN 1 rfl Try.underlying93 rfl Try.hi93 Try.cz93 rfl rfl rfl) rfl ?_ | refine w_val (v_loadBN 2 rfl Try.underlying93 rfl Try.hi93 Try.cz93 rfl rfl rfl) rfl ?_ | refine w_val (v_loadBN 3 rfl Try.underlying93 rfl Try.hi93 Try.cz93 rfl rfl rfl) rfl ?_ | refine w_val (v_loadBN 4 rfl Try.underlying93 rfl Try.hi93 Try.cz93 rfl rfl rfl) rfl ?_ | refine w_val (v_loadBN 5 rfl Try.underlying93 rfl Try.hi93 Try.cz93 rfl rfl rfl) rfl ?_ | refine w_val (v_loadBN 6 rfl Try.underlying93 rfl Try.hi93 Try.cz93 rfl rfl rfl) rfl ?_ | refine w_val (v_loadBN 7 rfl Try.underlying93 rfl Try.hi93 Try.cz93 rfl rfl rfl) rfl ?_ | refine w_val (v_loadBN 8 rfl Try.underlying93 rfl Try.hi93 Try.cz93 rfl rfl rfl) rfl ?_ | refine w_val (v_loadBN 9 rfl Try.underlying93 rfl Try.hi93 Try.cz93 rfl rfl rfl) rfl ?_ | refine w_val (v_loadBN 10 rfl Try.underlying93 rfl Try.hi93 Try.cz93 rfl rfl rfl) rfl ?_ | refine w_val (v_loadBN 11 rfl Try.underlying93 rfl Try.hi93 Try.cz93 rfl rfl rfl) rfl ?_
                refine w_want rfl rfl ?_
                refine w_val (v_is (v' := .bool false) (v_neqRes Try.underlying93 (by kernel_rfl) (by kernel_rfl) (by kernel_rfl) rfl rfl Try.underlying3 Try.underlying91 Try.underlying2 Try.hi2 Try.cz2 Try.hi91 Try.cz91 (by first | rfl | assumption | (simp; omega)) (by first | rfl | assumption | (simp; omega)) rfl rfl) (by rw [decide_eq_false (fun h => h ⟨rfl, rfl⟩)])) rfl ?_
                first | refine w_val (v_pickT rfl rfl) rfl ?_ | refine w_val (v_pickF rfl rfl) rfl ?_
                refine w_nil ?_
                refine e_condF rfl ?_
                refine e_skip ?_
                refine e_seq ?_
                refine e_region ?_
                refine w_val (v_assign rfl) rfl ?_
                refine w_nil ?_
                refine e_block ?_
                refine e_loopH (σ := Nat) [1, 2, 7, 8, 9, 12] (.cons rfl (.cons rfl (.cons rfl (.cons rfl (.cons rfl (.cons rfl .nil)))))) (fun x => [(18, .int .i64 (x : Int))]) (fun _ => Wks r.length pw dvw X :: (tbH pt 130 ht T ++ [.blk pc 105 [ptrV pt, ptrV pb, .slice (some adw) r.length kw, hv], Own (.slice (some adw) r.length kw) 101 1 r.length (ptrs r.length pw)]) ++ tbH b12 109 h12 T) (fun x => x ≤ 10) (fun x => 10 - x) 0 (Nat.zero_le _) (by repeat (first | exact Sub.nil _ | refine Sub.cons rfl ?_)) (fun _ hw => hw.pick [1, 2, 3, 4, 5, 6, 7] (by decide)) ?_
                rintro n hn
                refine e_seq ?_
                refine e_seq ?_
                refine e_region ?_
                refine w_val (v_move rfl) rfl ?_
                refine w_val (v_lss rfl rfl) rfl ?_
                refine w_nil ?_
                refine e_condD rfl (fun hlt3 => ?_) (fun hlt3 => ?_)
                · have hn' : n < 10 := by omega
                  have hni : (0 : Int) ≤ (n : Int) ∧ (n : Int) < 10 := by omega
                  refine e_skip ?_
                  refine e_seq ?_
                  refine e_block ?_
                  refine e_seq ?_
                  refine e_draw ([.blk pc 105 [ptrV pt, ptrV pb, .slice (some adw) r.length kw, hv], .blk b12 109 (tab 10 h12)]) Try.mixed ?_
                  refine a_take 0 pan_cx (by kernel_rfl) (fun _ hw => hw.sub (by repeat (first | exact List.Sublist.slnil | exact List.Sublist.refl _ | apply List.Sublist.cons_cons | apply List.Sublist.cons))) rfl (by kernel_rfl) (by kernel_rfl) (v_move rfl) rfl ?_
                  first | refine a_take 1 pan_cx (by kernel_rfl) (fun _ hw => hw.sub (by repeat (first | exact List.Sublist.slnil | exact List.Sublist.refl _ | apply List.Sublist.cons_cons | apply List.Sublist.cons))) rfl (by kernel_rfl) (by kernel_rfl) (v_indexAB Try.underlying109 Try.hi84 Try.cz84 rfl rfl (by first | omega | decide)) rfl ?_ | refine a_take 1 pan_cx (by kernel_rfl) (fun _ hw => hw.sub (by repeat (first | exact List.Sublist.slnil | exact List.Sublist.refl _ | apply List.Sublist.cons_cons | apply List.Sublist.cons))) rfl (by kernel_rfl) (by kernel_rfl) (v_indexA Try.underlying109 Try.hi84 Try.cz84 rfl rfl (by first | omega | decide)) rfl ?_
                  refine a_take 2 pan_cx (by kernel_rfl) (fun _ hw => hw.sub (by repeat (first | exact List.Sublist.slnil | exact List.Sublist.refl _ | apply List.Sublist.cons_cons | apply List.Sublist.cons))) rfl (by kernel_rfl) (by kernel_rfl) (v_loadB 1 rfl Try.underlying84 rfl rfl (tab_hdr hn')) rfl ?_
                  refine a_take 3 pan_cx (by kernel_rfl) (fun _ hw => hw.sub (by repeat (first | exact List.Sublist.slnil | exact List.Sublist.refl _ | apply List.Sublist.cons_cons | apply List.Sublist.cons))) rfl (by kernel_rfl) (by kernel_rfl) (v_move rfl) rfl ?_
                  refine a_take 4 pan_cx (by kernel_rfl) (fun _ hw => hw.sub (by repeat (first | exact List.Sublist.slnil | exact List.Sublist.refl _ | apply List.Sublist.cons_cons | apply List.Sublist.cons))) rfl (by kernel_rfl) (by kernel_rfl) (v_nilCheck rfl) rfl ?_
                  first | refine a_take 5 pan_cx (by kernel_rfl) (fun _ hw => hw.sub (by repeat (first | exact List.Sublist.slnil | exact List.Sublist.refl _ | apply List.Sublist.cons_cons | apply List.Sublist.cons))) rfl (by kernel_rfl) (by kernel_rfl) (v_fieldAddrB (o := 0) Try.underlying105 rfl rfl Try.nz72 rfl) rfl ?_ | refine a_take 5 pan_cx (by kernel_rfl) (fun _ hw => hw.sub (by repeat (first | exact List.Sublist.slnil | exact List.Sublist.refl _ | apply List.Sublist.cons_cons | apply List.Sublist.cons))) rfl (by kernel_rfl) (by kernel_rfl) (v_fieldAddr (o := 0) Try.underlying105 rfl rfl Try.nz72 rfl) rfl ?_
                  first | refine a_take 6 pan_cx (by kernel_rfl) (fun _ hw => hw.sub (by repeat (first | exact List.Sublist.slnil | exact List.Sublist.refl _ | apply List.Sublist.cons_cons | apply List.Sublist.cons))) rfl (by kernel_rfl) (by kernel_rfl) (v_loadB 0 rfl Try.underlying72 rfl rfl rfl) rfl ?_ | refine a_take 6 pan_cx (by kernel_rfl) (fun _ hw => hw.sub (by repeat (first | exact List.Sublist.slnil | exact List.Sublist.refl _ | apply List.Sublist.cons_cons | apply List.Sublist.cons))) rfl (by kernel_rfl) (by kernel_rfl) (v_loadB 1 rfl Try.underlying72 rfl rfl rfl) rfl ?_ | refine a_take 6 pan_cx (by kernel_rfl) (fun _ hw => hw.sub (by repeat (first | exact List.Sublist.slnil | exact List.Sublist.refl _ | apply List.Sublist.cons_cons | apply List.Sublist.cons))) rfl (by kernel_rfl) (by kernel_rfl) (v_loadB 2 rfl Try.underlying72 rfl rfl rfl) rfl ?_ | refine a_take 6 pan_cx (by kernel_rfl) (fun _ hw => hw.sub (by repeat (first | exact List.Sublist.slnil | exact List.Sublist.refl _ | apply List.Sublist.cons_cons | apply List.Sublist.cons))) rfl (by kernel_rfl) (by kernel_rfl) (v_loadB 3 rfl Try.underlying72 rfl rfl rfl) rfl ?_ | refine a_take 6 pan_cx (by kernel_rfl) (fun _ hw => hw.sub (by repeat (first | exact List.Sublist.slnil | exact List.Sublist.refl _ | apply List.Sublist.cons_cons | apply List.Sublist.cons))) rfl (by kernel_rfl) (by kernel_rfl) (v_loadB 4 rfl Try.underlying72 rfl rfl rfl) rfl ?_ | refine a_take 6 pan_cx (by kernel_rfl) (fun _ hw => hw.sub (by repeat (first | exact List.Sublist.slnil | exact List.Sublist.refl _ | apply List.Sublist.cons_cons | apply List.Sublist.cons))) rfl (by kernel_rfl) (by kernel_rfl) (v_loadB 5 rfl Try.underlying72 rfl rfl rfl) rfl ?_ | refine a_take 6 pan_cx (by kernel_rfl) (fun _ hw => hw.sub (by repeat (first | exact List.Sublist.slnil | exact List.Sublist.refl _ | apply List.Sublist.cons_cons | apply List.Sublist.cons))) rfl (by kernel_rfl) (by kernel_rfl) (v_loadB 6 rfl Try.underlying72 rfl rfl rfl) rfl ?_ | refine a_take 6 pan_cx (by kernel_rfl) (fun _ hw => hw.sub (by repeat (first | exact List.Sublist.slnil | exact List.Sublist.refl _ | apply List.Sublist.cons_cons | apply List.Sublist.cons))) rfl (by kernel_rfl) (by kernel_rfl) (v_loadB 7 rfl Try.underlying72 rfl rfl rfl) rfl ?_ | refine a_take 6 pan_cx (by kernel_rfl) (fun _ hw => hw.sub (by repeat (first | exact List.Sublist.slnil | exact List.Sublist.refl _ | apply List.Sublist.cons_cons | apply List.Sublist.cons))) rfl (by kernel_rfl) (by kernel_rfl) (v_loadB 8 rfl Try.underlying72 rfl rfl rfl) rfl ?_ | refine a_take 6 pan_cx (by kernel_rfl) (fun _ hw => hw.sub (by repeat (first | exact List.Sublist.slnil | exact List.Sublist.refl _ | apply List.Sublist.cons_cons | apply List.Sublist.cons))) rfl (by kernel_rfl) (by kernel_rfl) (v_loadB 9 rfl Try.underlying72 rfl rfl rfl) rfl ?_ | refine a_take 6 pan_cx (by kernel_rfl) (fun _ hw => hw.sub (by repeat (first | exact List.Sublist.slnil | exact List.Sublist.refl _ | apply List.Sublist.cons_cons | apply List.Sublist.cons))) rfl (by kernel_rfl) (by kernel_rfl) (v_loadB 10 rfl Try.underlying72 rfl rfl rfl) rfl ?_ | refine a_take 6 pan_cx (by kernel_rfl) (fun _ hw => hw.sub (by repeat (first | exact List.Sublist.slnil | exact List.Sublist.refl _ | apply List.Sublist.cons_cons | apply List.Sublist.cons))) rfl (by kernel_rfl) (by kernel_rfl) (v_loadB 11 rfl Try.underlying72 rfl rfl rfl) rfl ?_
                  refine a_take 7 pan_cx (by kernel_rfl) (fun _ hw => hw.sub (by repeat (first | exact List.Sublist.slnil | exact List.Sublist.refl _ | apply List.Sublist.cons_cons | apply List.Sublist.cons))) rfl (by kernel_rfl) (by kernel_rfl) (v_move rfl) rfl ?_
                  refine a_one 8 (by kernel_rfl) rfl rfl ?_
                  refine x_call (dst := some 137) (mc := []) (σ := Value) (fun _ => True) (fun s => s) (fun s => [Own s 132 4 (T n).length (slotCells (T n))]) rfl rfl rfl Try.call59 (fun w hw => by have := tabSlots_spec pt ht T n w (hw.tbV 1 rfl rfl) hinv.short; rwa [if_pos hni, Int.toNat_natCast] at this) rfl (fun sl _ => ?_)
                  refine a_and (fun _ hw => hw.sub (by repeat (first | exact List.Sublist.slnil | exact List.Sublist.refl _ | apply List.Sublist.cons_cons | apply List.Sublist.cons))) ?_
                  refine a_one 9 (by kernel_rfl) rfl rfl ?_
                  refine x_call0 (v := .bool true) rfl rfl rfl Try.call58 rfl (fun w hw => by have := sameSlots_spec (h12 n) sl (T n) (T n) w ((hw.tbV 6 rfl rfl).row n hn') (own_rds (hw.hold (Own sl 132 4 (T n).length (slotCells (T n))) List.mem_cons_self)) (Nat.le_trans (hinv.len n) (by decide)); rwa [decide_eq_true rfl] at this) ?_
                  refine a_and (fun _ hw => hw.sub (by repeat (first | exact List.Sublist.slnil | exact List.Sublist.refl _ | apply List.Sublist.cons_cons | apply List.Sublist.cons))) ?_
                  refine a_take 10 pan_cx (by kernel_rfl) (fun _ hw => hw.sub (by repeat (first | exact List.Sublist.slnil | exact List.Sublist.refl _ | apply List.Sublist.cons_cons | apply List.Sublist.cons))) rfl (by kernel_rfl) (by kernel_rfl) (v_not rfl) rfl ?_
                  refine a_done (by kernel_rfl) ?_
                  refine e_condF rfl ?_
                  refine e_skip ?_
                  refine e_blk ?_
                  refine e_region ?_
                  refine w_val (v_move rfl) rfl ?_
                  first | refine w_val (v_add rfl rfl (by omega)) rfl ?_ | refine w_val (v_addw rfl rfl) rfl ?_
                  refine w_val (v_assign rfl) rfl ?_
                  refine w_nil ?_
                  exact e_round (n + 1) (by omega) (by omega) (by repeat (first | exact Sub.nil _ | refine Sub.cons rfl ?_)) (fun _ hw => hw.sub (List.sublist_cons_self _ _))
                · refine e_exit rfl ?_
                  refine e_blk ?_
                  refine e_region ?_
                  refine w_val (v_move rfl) rfl ?_
                  first | refine w_val (v_add rfl rfl (by omega)) rfl ?_ | refine w_val (v_addw rfl rfl) rfl ?_
                  refine w_val (v_assign rfl) rfl ?_
                  refine w_nil ?_
                  exact e_round ((i + 1, X, T)) (⟨by dsimp only; omega, hinv⟩) (by dsimp only; omega) (by repeat (first | exact Sub.nil _ | refine Sub.cons rfl ?_)) (fun _ hw => hw.pick [0, 1, 2, 3, 4] (by decide))
          · refine e_exit rfl ?_
            refine e_seq ?_
            refine e_region ?_
            refine w_val (v_assign rfl) rfl ?_
            refine w_nil ?_
            refine e_retQ (q_ret1 rfl (.tmp rfl) ?_)
            exact fun w' hw' => ⟨rfl, hw'.res.nil⟩
      · refine e_skip ?_
        refine e_seq ?_
        refine e_seq ?_
        refine e_region ?_
        refine w_val (v_move rfl) rfl ?_
        refine w_op rfl ?_
        refine x_call0 (v := .bool false) rfl rfl rfl Try.call32 rfl (fun w hw => by have := great_spec _ r w (hsr.mono hw.off) hb; rwa [hg] at this) ?_
        refine w_val (v_move rfl) rfl ?_
        refine w_want rfl rfl ?_
        refine w_val (v_move rfl) rfl ?_
        refine w_want rfl rfl ?_
        refine w_val (v_lenS Try.underlying53 rfl) rfl ?_
        refine w_want rfl rfl ?_
        refine w_val (v_is (v' := .bool false) (v_gtr rfl rfl) (by rw [decide_eq_false (by omega)])) rfl ?_
        first | refine w_val (v_pickT rfl rfl) rfl ?_ | refine w_val (v_pickF rfl rfl) rfl ?_
        refine w_val (v_move rfl) rfl ?_
        refine w_want rfl rfl ?_
        refine w_val (v_move rfl) rfl ?_
        refine w_want rfl rfl ?_
        refine w_op rfl ?_
        refine x_call0 (v := .int .i64 (roundFaultL r)) rfl rfl rfl Try.call41 rfl (fun w hw => RoundFault_spec _ r w (hsr.mono hw.off)) ?_
        refine w_want rfl rfl ?_
        refine w_val (v_is (v' := .bool true) (v_neq rfl rfl) (by rw [decide_eq_true hf])) rfl ?_
        first | refine w_val (v_pickT rfl rfl) rfl ?_ | refine w_val (v_pickF rfl rfl) rfl ?_
        refine w_val (v_move rfl) rfl ?_
        refine w_skip rfl rfl rfl rfl ?_
        refine w_skip rfl rfl rfl rfl ?_
        refine w_skip rfl rfl rfl rfl ?_
        first | refine w_val (v_pickT rfl rfl) rfl ?_ | refine w_val (v_pickF rfl rfl) rfl ?_
        refine w_nil ?_
        first | refine e_condDT rfl (by omega) ?_ | refine e_condT rfl ?_
        refine e_seq ?_
        refine e_region ?_
        refine w_val (v_assign rfl) rfl ?_
        refine w_nil ?_
        refine e_retQ (q_ret1 rfl (.tmp rfl) ?_)
        exact fun w' hw' => ⟨rfl, hw'.res.nil⟩
end Go.SL

