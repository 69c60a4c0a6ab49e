/- Ytebdkaadbakhlab: part B9 of this seat's own texts. -/
import Derived.Test.YtebdkaadbakhlabWH
import Derived.Test.YtebdkaadbakhlabP5
set_option linter.unusedVariables false
set_option linter.unusedSimpArgs false
open Go Go.Proofs Go.SL
set_option maxRecDepth 100000
set_option maxHeartbeats 4000000
namespace Go.SL
def stepT (T : TabL) (z : TStepL) : TabL := if z.do_ = 0 then chgT T z.k z.by_ ⟨z.by_, false, false, z.n⟩ else if z.do_ = 1 then chgT T z.k z.by_ ⟨z.by_, false, true, 0⟩ else T
theorem TableDoes_spec (s : List Int) (v vl : Value) (r : RoundL) (l : List TStepL) (k by_ : Int) (w : World) (h : IsRound w.cell? v r) (hb : ∀ d ∈ r, d.length ≤ 4398046511104) (hs10 : s.length = 10) (hl : IsTst w.cell? vl l) :
    Calls Try.prog 8 #[intsV s, v, vl, .int .i64 k, .int .i64 by_] w fun e w' => e = .returned (.bool true) ∧ Res w [] [] w' := by
  have hsr := h
  rw [← off_none w] at h hsr hl
  obtain ⟨A, kp, rfl, hle, hlc⟩ := hl.form
  have hlz : (intCells s).length = 10 := by rw [intCells, List.length_map]; exact hs10
  refine enter0 (N := 170) Try.func8 rfl rfl rfl ?_
  refine e_seq ?_
  refine e_region ?_
  refine w_op rfl ?_
  refine x_box rfl rfl (fun b5 => ?_)
  refine w_val (v_assign rfl) rfl ?_
  refine w_nil ?_
  refine e_seq ?_
  refine e_seq ?_
  refine e_region ?_
  refine w_op rfl ?_
  refine x_call0 (v := .bool true) rfl rfl rfl Try.call44 rfl (fun w hw => tableBegun_spec w) ?_
  refine w_val (v_not rfl) rfl ?_
  refine w_nil ?_
  refine e_condF rfl ?_
  by_cases hg : greatL r = true
  · refine e_skip ?_
    refine e_seq ?_
    refine e_seq ?_
    refine e_region ?_
    refine w_val (v_move rfl) rfl ?_
    refine w_op rfl ?_
    refine x_call0 (v := .bool true) rfl rfl rfl Try.call32 rfl (fun w hw => by have := great_spec _ r w (hsr.mono hw.off) hb; rwa [hg] at this) ?_
    refine w_val (v_move rfl) rfl ?_
    refine w_skip rfl rfl rfl rfl ?_
    refine w_skip rfl rfl rfl rfl ?_
    refine w_skip rfl rfl rfl rfl ?_
    refine w_val (v_pickT rfl rfl) rfl ?_
    refine w_nil ?_
    refine e_condT rfl ?_
    refine e_seq ?_
    refine e_region ?_
    refine w_val (v_assign rfl) rfl ?_
    refine w_nil ?_
    refine e_retQ (q_ret1 rfl (.tmp rfl) ?_)
    exact fun w' hw' => ⟨rfl, hw'.res.nil⟩
  · have hg : greatL r = false := by cases h : greatL r with | true => exact absurd h hg | false => rfl
    by_cases h200 : 200 < l.length
    · refine e_skip ?_
      refine e_seq ?_
      refine e_seq ?_
      refine e_region ?_
      refine w_val (v_move rfl) rfl ?_
      refine w_op rfl ?_
      refine x_call0 (v := .bool false) rfl rfl rfl Try.call32 rfl (fun w hw => by have := great_spec _ r w (hsr.mono hw.off) hb; rwa [hg] at this) ?_
      refine w_val (v_move rfl) rfl ?_
      refine w_want rfl rfl ?_
      refine w_val (v_move rfl) rfl ?_
      refine w_want rfl rfl ?_
      refine w_val (v_lenS Try.underlying71 rfl) rfl ?_
      refine w_want rfl rfl ?_
      refine w_val (v_is (v' := .bool true) (v_gtr rfl rfl) (by rw [decide_eq_true (by omega)])) rfl ?_
      refine w_val (v_pickF rfl rfl) rfl ?_
      refine w_nil ?_
      refine e_condT rfl ?_
      refine e_seq ?_
      refine e_region ?_
      refine w_val (v_assign rfl) rfl ?_
      refine w_nil ?_
      refine e_retQ (q_ret1 rfl (.tmp rfl) ?_)
      exact fun w' hw' => ⟨rfl, hw'.res.nil⟩
    · refine e_skip ?_
      refine e_seq ?_
      refine e_seq ?_
      refine e_region ?_
      refine w_val (v_move rfl) rfl ?_
      refine w_op rfl ?_
      refine x_call0 (v := .bool false) rfl rfl rfl Try.call32 rfl (fun w hw => by have := great_spec _ r w (hsr.mono hw.off) hb; rwa [hg] at this) ?_
      refine w_val (v_move rfl) rfl ?_
      refine w_want rfl rfl ?_
      refine w_val (v_move rfl) rfl ?_
      refine w_want rfl rfl ?_
      refine w_val (v_lenS Try.underlying71 rfl) rfl ?_
      refine w_want rfl rfl ?_
      refine w_val (v_is (v' := .bool false) (v_gtr rfl rfl) (by rw [decide_eq_false (by omega)])) rfl ?_
      refine w_val (v_pickF rfl rfl) rfl ?_
      refine w_nil ?_
      refine e_condF rfl ?_
      by_cases hf : roundFaultL r = 0
      · have h60 := great_not hg
        have hok := roundFault_ok hf
        refine e_skip ?_
        refine e_seq ?_
        refine e_region ?_
        refine w_val (v_loadBA 0 rfl Try.underlying70 rfl Try.hi70 (Try.cz70.trans hlz.symm) rfl) rfl ?_
        refine w_val (v_move rfl) rfl ?_
        refine w_op rfl ?_
        refine x_call (dst := some 35) (mc := []) (σ := Nat × (Nat → Value)) (fun _ => True) (fun x => .tuple #[.pointer (some ⟨x.1, 0, none⟩), .int .i64 0]) (fun x => tbH x.1 130 x.2 (newT s r)) rfl rfl rfl Try.call45 (fun w hw => tabNew_ok s _ r w (hsr.mono hw.off) hs10 hf) rfl (fun x _ => ?_)
        obtain ⟨p, hs⟩ := x
        dsimp only
        refine w_val (v_move rfl) rfl ?_
        refine w_val (v_extract rfl rfl) rfl ?_
        refine w_val (v_extract rfl rfl) rfl ?_
        refine w_val (v_assign rfl) rfl ?_
        refine w_val (v_assign rfl) rfl ?_
        refine w_nil ?_
        refine e_seq ?_
        refine e_seq ?_
        refine e_region ?_
        refine w_val (v_move rfl) rfl ?_
        refine w_op rfl ?_
        refine x_call0 (v := .int .i64 (roundFaultL r)) rfl rfl rfl Try.call41 rfl (fun w hw => RoundFault_spec _ r w (hsr.mono hw.off)) ?_
        refine w_val (v_assign rfl) rfl ?_
        refine w_nil ?_
        refine e_seq ?_
        refine e_region ?_
        refine w_val (v_move rfl) rfl ?_
        refine w_val (v_is (v' := .bool false) (v_neq rfl rfl) (by rw [decide_eq_false (fun h => h hf)])) rfl ?_
        refine w_val (v_move rfl) rfl ?_
        refine w_want rfl rfl ?_
        refine w_val (v_move rfl) rfl ?_
        refine w_want rfl rfl ?_
        refine w_val (v_is (v' := .bool false) (v_eqlPtr Try.underlying72 rfl rfl) (by rfl)) rfl ?_
        refine w_val (v_pickF rfl rfl) rfl ?_
        refine w_nil ?_
        refine e_condF rfl ?_
        refine e_skip ?_
        refine e_seq ?_
        refine e_region ?_
        refine w_val (v_loadBA 2 rfl Try.underlying70 rfl Try.hi70 (Try.cz70.trans hlz.symm) rfl) rfl ?_
        refine w_val (v_move rfl) rfl ?_
        refine w_op rfl ?_
        refine x_call (dst := some 59) (mc := []) (σ := Nat × (Nat → Value)) (fun _ => True) (fun x => .pointer (some ⟨x.1, 0, none⟩)) (fun x => tbH x.1 133 x.2 (newT s r)) rfl rfl rfl Try.call46 (fun w hw => newBoard_spec s _ r w (hsr.mono hw.off) hs10 h60.1 hb) rfl (fun x _ => ?_)
        obtain ⟨q, hs2⟩ := x
        dsimp only
        have hn0 : ∀ k, k < 10 → (newT s r k).length ≤ 1000 := fun k _ => newT_len (by omega) k
        have hg0 := newT_good s r
        generalize newT s r = T0 at *
        refine g_heap (m' := tbH p 130 hs T0 ++ tbH q 133 hs2 T0) (fun _ hw => (hw.sub (.cons_cons _ (.cons_cons _ (.cons_cons _ (.cons_cons _ (List.nil_sublist _)))))).perm (pair_front [_, _] [])) ?_
        refine w_val (v_assign rfl) rfl ?_
        refine w_nil ?_
        refine e_seq ?_
        refine e_seq ?_
        refine e_region ?_
        refine w_val (v_assign rfl) rfl ?_
        refine w_nil ?_
        refine e_cutH (σ := TabL) [1, 2, 11, 14] (.cons rfl (.cons rfl (.cons rfl (.cons rfl .nil)))) (fun _ => []) (fun T => tbH p 130 hs T ++ tbH q 133 hs2 T) (fun T => GoodT T ∧ ∀ k, k < 10 → (T k).length ≤ 1000) ?_ ?_
        · refine e_block ?_
          refine e_loopH (σ := Nat × TabL) [1, 2, 3, 4, 11, 14] (.cons rfl (.cons rfl (.cons rfl (.cons rfl (.cons rfl (.cons rfl .nil)))))) (fun x => [(15, .int .i64 (x.1 : Int))]) (fun x => tbH p 130 hs x.2 ++ tbH q 133 hs2 x.2) (fun x => x.1 ≤ l.length ∧ GoodT x.2 ∧ ∀ k, k < 10 → (x.2 k).length ≤ 1000) (fun x => l.length - x.1) (0, T0) ⟨Nat.zero_le _, hg0, hn0⟩ (by repeat (first | exact Sub.nil _ | refine Sub.cons rfl ?_)) (fun _ hw => hw) ?_
          rintro ⟨i, T⟩ ⟨hi, hgT, hnT⟩
          dsimp only at hi hgT hnT ⊢
          refine e_seq ?_
          refine e_seq ?_
          refine e_region ?_
          refine w_val (v_move rfl) rfl ?_
          refine w_val (v_move rfl) rfl ?_
          refine w_val (v_lenS Try.underlying71 rfl) rfl ?_
          refine w_val (v_is (v' := .bool true) (v_leq rfl rfl) (by rw [decide_eq_true (by omega)])) rfl ?_
          refine w_nil ?_
          refine e_condT rfl ?_
          refine e_skip ?_
          refine e_seq ?_
          refine e_block ?_
          refine e_seq ?_
          refine e_region ?_
          refine w_val (v_move rfl) rfl ?_
          refine w_val (v_move rfl) rfl ?_
          refine w_val (v_move rfl) rfl ?_
          refine w_op rfl ?_
          refine x_call0 (v := .tuple #[.int .i64 (befT T k by_).1, .int .i64 (befT T k by_).2]) rfl rfl rfl Try.call47 rfl (fun w hw => tabBefore_spec p hs T k by_ w (hw.tbV 0 rfl rfl) hnT) ?_
          refine w_val (v_move rfl) rfl ?_
          refine w_val (v_extract rfl rfl) rfl ?_
          refine w_val (v_extract rfl rfl) rfl ?_
          refine w_val (v_assign rfl) rfl ?_
          refine w_val (v_assign rfl) rfl ?_
          refine w_nil ?_
          refine e_seq ?_
          refine e_region ?_
          refine w_val (v_move rfl) rfl ?_
          refine w_val (v_move rfl) rfl ?_
          refine w_val (v_move rfl) rfl ?_
          refine w_op rfl ?_
          refine x_call0 (v := .tuple #[.int .i64 (befT T k by_).1, .int .i64 (befT T k by_).2]) rfl rfl rfl Try.call48 rfl (fun w hw => brdBefore_spec q hs2 T k by_ w (hw.tbV 2 rfl rfl) hnT) ?_
          refine w_val (v_move rfl) rfl ?_
          refine w_val (v_extract rfl rfl) rfl ?_
          refine w_val (v_extract rfl rfl) rfl ?_
          refine w_val (v_assign rfl) rfl ?_
          refine w_val (v_assign rfl) rfl ?_
          refine w_nil ?_
          refine e_seq ?_
          refine e_seq ?_
          refine e_region ?_
          refine w_val (v_move rfl) rfl ?_
          refine w_val (v_move rfl) rfl ?_
          refine w_val (v_is (v' := .bool false) (v_neq rfl rfl) (by rw [decide_eq_false (fun h => h rfl)])) rfl ?_
          refine w_val (v_move rfl) rfl ?_
          refine w_want rfl rfl ?_
          refine w_val (v_move rfl) rfl ?_
          refine w_want rfl rfl ?_
          refine w_val (v_move rfl) rfl ?_
          refine w_want rfl rfl ?_
          refine w_val (v_is (v' := .bool false) (v_neq rfl rfl) (by rw [decide_eq_false (fun h => h rfl)])) rfl ?_
          refine w_val (v_pickF rfl rfl) rfl ?_
          refine w_val (v_move rfl) rfl ?_
          refine w_want rfl rfl ?_
          refine w_val (v_move rfl) rfl ?_
          refine w_want rfl rfl ?_
          refine w_op rfl ?_
          refine x_call0 (v := .bool (overT T)) rfl rfl rfl Try.call49 rfl (fun w hw => tabOver_spec p hs T w (hw.tbV 0 rfl rfl) hnT) ?_
          refine w_want rfl rfl ?_
          refine w_val (v_move rfl) rfl ?_
          refine w_want rfl rfl ?_
          refine w_op rfl ?_
          refine x_call0 (v := .bool (overT T)) rfl rfl rfl Try.call50 rfl (fun w hw => brdOver_spec q hs2 T w (hw.tbV 2 rfl rfl) hnT) ?_
          refine w_want rfl rfl ?_
          refine w_val (v_is (v' := .bool false) (v_neqBool Try.underlying4 rfl rfl) (by simp)) rfl ?_
          refine w_val (v_pickF rfl rfl) rfl ?_
          refine w_val (v_move rfl) rfl ?_
          refine w_want rfl rfl ?_
          refine w_val (v_move rfl) rfl ?_
          refine w_want rfl rfl ?_
          refine w_op rfl ?_
          refine x_call0 (v := intsV (stateT T)) rfl rfl rfl Try.call51 rfl (fun w hw => tabState_spec p hs T w (hw.tbV 0 rfl rfl) hnT) ?_
          refine w_want rfl rfl ?_
          refine w_val (v_move rfl) rfl ?_
          refine w_want rfl rfl ?_
          refine w_op rfl ?_
          refine x_call0 (v := intsV (stateT T)) rfl rfl rfl Try.call52 rfl (fun w hw => brdState_spec q hs2 T w (hw.tbV 2 rfl rfl) hnT) ?_
          refine w_want rfl rfl ?_
          refine w_val (v_is (v' := .bool false) (v_neqInts (p := stateT T) (q := stateT T) Try.underlying70 (by kernel_rfl) Try.underlying2 Try.hi2 Try.cz2 (stateT_len T) (stateT_len T) rfl rfl) (congrArg Value.bool (decide_eq_false (fun h => h rfl)))) rfl ?_
          refine w_val (v_pickF rfl rfl) rfl ?_
          refine w_val (v_move rfl) rfl ?_
          refine w_want rfl rfl ?_
          refine w_val (v_move rfl) rfl ?_
          refine w_want rfl rfl ?_
          refine w_op rfl ?_
          refine x_call0 (v := .bool (decide (0 ≤ k ∧ k < 10))) rfl rfl rfl Try.call53 rfl (fun w hw => tabKey_spec k w) ?_
          refine w_want rfl rfl ?_
          refine w_val (v_move rfl) rfl ?_
          refine w_want rfl rfl ?_
          refine w_op rfl ?_
          refine x_call0 (v := .bool (decide (0 ≤ k ∧ k < 10))) rfl rfl rfl Try.call31 rfl (fun w hw => isKey_spec k w) ?_
          refine w_want rfl rfl ?_
          refine w_val (v_is (v' := .bool false) (v_neqBool Try.underlying4 rfl rfl) (by simp)) rfl ?_
          refine w_val (v_pickF rfl rfl) rfl ?_
          refine w_nil ?_
          refine e_condF rfl ?_
          refine e_skip ?_
          refine e_seq ?_
          refine e_seq ?_
          refine e_region ?_
          refine w_val (v_move rfl) rfl ?_
          refine w_val (v_move rfl) rfl ?_
          refine w_val (v_lenS Try.underlying71 rfl) rfl ?_
          refine w_val (v_eql rfl rfl) rfl ?_
          refine w_nil ?_
          refine e_condD rfl (fun heq => ?_) (fun heq => ?_)
          · refine e_exit rfl ?_
            exact e_cutEnd (T) (⟨hgT, hnT⟩) (by repeat (first | exact Sub.nil _ | refine Sub.cons rfl ?_)) (fun _ hw => hw)
          · have hi' : i < l.length := by omega
            obtain ⟨ad, rfl, hcell⟩ := hlc i hi'
            generalize l[i] = z at *
            refine e_skip ?_
            refine e_seq ?_
            refine e_region ?_
            refine w_val (v_move rfl) rfl ?_
            refine w_val (v_move rfl) rfl ?_
            refine w_val (v_indexS Try.underlying71 Try.hi81 Try.cz81 rfl rfl (by first | omega | decide)) rfl ?_
            refine w_val (v_loadON Try.underlying81 rfl Try.hi81 rfl (hcell) Try.cz81) rfl ?_
            refine w_op rfl ?_
            refine x_alloc (z := .agg #[.int .i64 0, .int .i64 0, .int .i64 0, .int .i64 0]) (by intro w; exact Try.zeroValue81 w) rfl (fun b20 => ?_)
            refine w_op rfl ?_
            refine x_storeA 0 rfl rfl rfl Try.hi81 Try.cz81 rfl (one_tstC z) ?_
            refine w_nil ?_
            refine e_seq ?_
            refine e_region ?_
            refine w_val (v_fieldAddrB (o := 0) Try.underlying81 rfl rfl Try.nz3 rfl) rfl ?_
            refine w_val (v_loadB 0 rfl Try.underlying3 rfl rfl rfl) rfl ?_
            refine w_nil ?_
            refine e_cutH (σ := TabL) [1, 2, 3, 4, 11, 14, 15] (.cons rfl (.cons rfl (.cons rfl (.cons rfl (.cons rfl (.cons rfl (.cons rfl .nil))))))) (fun _ => []) (fun T => tbH p 130 hs T ++ tbH q 133 hs2 T) (fun T => GoodT T ∧ ∀ k, k < 10 → (T k).length ≤ 1000) ?_ ?_
            · by_cases h0 : z.do_ = 0
              · refine e_block ?_
                refine e_seq ?_
                refine e_region ?_
                refine w_val (v_is (v' := .bool true) (v_eql rfl rfl) (by rw [decide_eq_true h0])) rfl ?_
                refine w_val (v_assign rfl) rfl ?_
                refine w_nil ?_
                refine e_condT rfl ?_
                refine e_seq ?_
                refine e_draw ([.blk b20 81 (tstC z)]) Try.mixed ?_
                refine a_take 0 pan_cx (by kernel_rfl) (fun _ hw => hw.sub (by repeat (first | exact List.Sublist.slnil | exact List.Sublist.refl _ | apply List.Sublist.cons_cons | apply List.Sublist.cons))) rfl (by kernel_rfl) (by kernel_rfl) (v_move rfl) rfl ?_
                refine a_take 1 pan_cx (by kernel_rfl) (fun _ hw => hw.sub (by repeat (first | exact List.Sublist.slnil | exact List.Sublist.refl _ | apply List.Sublist.cons_cons | apply List.Sublist.cons))) rfl (by kernel_rfl) (by kernel_rfl) (v_fieldAddrB (o := 1) Try.underlying81 rfl rfl Try.nz3 rfl) rfl ?_
                refine a_take 2 pan_cx (by kernel_rfl) (fun _ hw => hw.sub (by repeat (first | exact List.Sublist.slnil | exact List.Sublist.refl _ | apply List.Sublist.cons_cons | apply List.Sublist.cons))) rfl (by kernel_rfl) (by kernel_rfl) (v_loadB 0 rfl Try.underlying3 rfl rfl rfl) rfl ?_
                refine a_take 3 pan_cx (by kernel_rfl) (fun _ hw => hw.sub (by repeat (first | exact List.Sublist.slnil | exact List.Sublist.refl _ | apply List.Sublist.cons_cons | apply List.Sublist.cons))) rfl (by kernel_rfl) (by kernel_rfl) (v_fieldAddrB (o := 2) Try.underlying81 rfl rfl Try.nz3 rfl) rfl ?_
                refine a_take 4 pan_cx (by kernel_rfl) (fun _ hw => hw.sub (by repeat (first | exact List.Sublist.slnil | exact List.Sublist.refl _ | apply List.Sublist.cons_cons | apply List.Sublist.cons))) rfl (by kernel_rfl) (by kernel_rfl) (v_loadB 0 rfl Try.underlying3 rfl rfl rfl) rfl ?_
                refine a_take 5 pan_cx (by kernel_rfl) (fun _ hw => hw.sub (by repeat (first | exact List.Sublist.slnil | exact List.Sublist.refl _ | apply List.Sublist.cons_cons | apply List.Sublist.cons))) rfl (by kernel_rfl) (by kernel_rfl) (v_fieldAddrB (o := 3) Try.underlying81 rfl rfl Try.nz2 rfl) rfl ?_
                refine a_take 6 pan_cx (by kernel_rfl) (fun _ hw => hw.sub (by repeat (first | exact List.Sublist.slnil | exact List.Sublist.refl _ | apply List.Sublist.cons_cons | apply List.Sublist.cons))) rfl (by kernel_rfl) (by kernel_rfl) (v_loadB 0 rfl Try.underlying2 rfl rfl rfl) rfl ?_
                refine a_take 8 pan_cx (by kernel_rfl) (fun _ hw => hw.sub (by repeat (first | exact List.Sublist.slnil | exact List.Sublist.refl _ | apply List.Sublist.cons_cons | apply List.Sublist.cons))) rfl (by kernel_rfl) (by kernel_rfl) (v_move rfl) rfl ?_
                refine a_take 9 pan_cx (by kernel_rfl) (fun _ hw => hw.sub (by repeat (first | exact List.Sublist.slnil | exact List.Sublist.refl _ | apply List.Sublist.cons_cons | apply List.Sublist.cons))) rfl (by kernel_rfl) (by kernel_rfl) (v_fieldAddrB (o := 1) Try.underlying81 rfl rfl Try.nz3 rfl) rfl ?_
                refine a_take 10 pan_cx (by kernel_rfl) (fun _ hw => hw.sub (by repeat (first | exact List.Sublist.slnil | exact List.Sublist.refl _ | apply List.Sublist.cons_cons | apply List.Sublist.cons))) rfl (by kernel_rfl) (by kernel_rfl) (v_loadB 0 rfl Try.underlying3 rfl rfl rfl) rfl ?_
                refine a_take 11 pan_cx (by kernel_rfl) (fun _ hw => hw.sub (by repeat (first | exact List.Sublist.slnil | exact List.Sublist.refl _ | apply List.Sublist.cons_cons | apply List.Sublist.cons))) rfl (by kernel_rfl) (by kernel_rfl) (v_fieldAddrB (o := 2) Try.underlying81 rfl rfl Try.nz3 rfl) rfl ?_
                refine a_take 12 pan_cx (by kernel_rfl) (fun _ hw => hw.sub (by repeat (first | exact List.Sublist.slnil | exact List.Sublist.refl _ | apply List.Sublist.cons_cons | apply List.Sublist.cons))) rfl (by kernel_rfl) (by kernel_rfl) (v_loadB 0 rfl Try.underlying3 rfl rfl rfl) rfl ?_
                refine a_take 13 pan_cx (by kernel_rfl) (fun _ hw => hw.sub (by repeat (first | exact List.Sublist.slnil | exact List.Sublist.refl _ | apply List.Sublist.cons_cons | apply List.Sublist.cons))) rfl (by kernel_rfl) (by kernel_rfl) (v_fieldAddrB (o := 3) Try.underlying81 rfl rfl Try.nz2 rfl) rfl ?_
                refine a_take 14 pan_cx (by kernel_rfl) (fun _ hw => hw.sub (by repeat (first | exact List.Sublist.slnil | exact List.Sublist.refl _ | apply List.Sublist.cons_cons | apply List.Sublist.cons))) rfl (by kernel_rfl) (by kernel_rfl) (v_loadB 0 rfl Try.underlying2 rfl rfl rfl) rfl ?_
                refine a_one 7 (by kernel_rfl) rfl rfl ?_
                refine x_callM (dst := some 128) (tbH p 130 hs T) ([Chunk.blk b20 81 (tstC z)] ++ tbH q 133 hs2 T) (σ := Unit) (fun _ => True) (fun _ => .bool (hasT T z.k z.by_)) (fun _ => tbH p 130 hs (chgT T z.k z.by_ ⟨z.by_, false, false, z.n⟩)) (pair_front [_] _) rfl rfl rfl Try.call54 (fun w hw => tabSet_spec p hs T z.k z.by_ z.n w (res_part hw).1 (res_part hw).2 hnT hgT) rfl (fun _ _ => ?_)
                refine a_and (fun _ hw => hw.sub (by repeat (first | exact List.Sublist.slnil | exact List.Sublist.refl _ | apply List.Sublist.cons_cons | apply List.Sublist.cons))) ?_
                refine a_one 15 (by kernel_rfl) rfl rfl ?_
                refine x_callM (dst := some 136) (tbH q 133 hs2 T) (tbH p 130 hs (chgT T z.k z.by_ ⟨z.by_, false, false, z.n⟩) ++ [Chunk.blk b20 81 (tstC z)]) (σ := Unit) (fun _ => True) (fun _ => .bool (hasT T z.k z.by_)) (fun _ => tbH q 133 hs2 (chgT T z.k z.by_ ⟨z.by_, false, false, z.n⟩)) (pair_front [_, _, _] []) rfl rfl rfl Try.call55 (fun w hw => brdSet_spec q hs2 T z.k z.by_ z.n w (res_part hw).1 (res_part hw).2 hnT) rfl (fun _ _ => ?_)
                refine a_and (fun _ hw => hw.sub (by repeat (first | exact List.Sublist.slnil | exact List.Sublist.refl _ | apply List.Sublist.cons_cons | apply List.Sublist.cons))) ?_
                refine a_take 16 pan_cx (by kernel_rfl) (fun _ hw => hw.sub (by repeat (first | exact List.Sublist.slnil | exact List.Sublist.refl _ | apply List.Sublist.cons_cons | apply List.Sublist.cons))) rfl (by kernel_rfl) (by kernel_rfl) (v_is (v' := .bool false) (v_neqBool Try.underlying4 rfl rfl) (by simp)) rfl ?_
                refine a_done (by kernel_rfl) ?_
                refine e_condF rfl ?_
                refine e_skip ?_
                refine e_blk ?_
                exact e_cutEnd (chgT T z.k z.by_ ⟨z.by_, false, false, z.n⟩) (⟨chgT_good hgT rfl, fun j hj => by rw [chgT_len]; exact hnT j hj⟩) (by repeat (first | exact Sub.nil _ | refine Sub.cons rfl ?_)) (fun _ hw => (hw.perm (pair_front [_, _] [_])).sub (.cons_cons _ (.cons_cons _ (.cons_cons _ (.cons_cons _ (List.nil_sublist _))))))
              · by_cases h1 : z.do_ = 1
                · refine e_block ?_
                  refine e_seq ?_
                  refine e_region ?_
                  refine w_val (v_is (v' := .bool false) (v_eql rfl rfl) (by rw [decide_eq_false h0])) rfl ?_
                  refine w_val (v_assign rfl) rfl ?_
                  refine w_nil ?_
                  refine e_condF rfl ?_
                  refine e_seq ?_
                  refine e_region ?_
                  refine w_val (v_is (v' := .bool true) (v_eql rfl rfl) (by rw [decide_eq_true h1])) rfl ?_
                  refine w_val (v_assign rfl) rfl ?_
                  refine w_nil ?_
                  refine e_condT rfl ?_
                  refine e_seq ?_
                  refine e_draw ([.blk b20 81 (tstC z)]) Try.mixed ?_
                  refine a_take 0 pan_cx (by kernel_rfl) (fun _ hw => hw.sub (by repeat (first | exact List.Sublist.slnil | exact List.Sublist.refl _ | apply List.Sublist.cons_cons | apply List.Sublist.cons))) rfl (by kernel_rfl) (by kernel_rfl) (v_move rfl) rfl ?_
                  refine a_take 1 pan_cx (by kernel_rfl) (fun _ hw => hw.sub (by repeat (first | exact List.Sublist.slnil | exact List.Sublist.refl _ | apply List.Sublist.cons_cons | apply List.Sublist.cons))) rfl (by kernel_rfl) (by kernel_rfl) (v_fieldAddrB (o := 1) Try.underlying81 rfl rfl Try.nz3 rfl) rfl ?_
                  refine a_take 2 pan_cx (by kernel_rfl) (fun _ hw => hw.sub (by repeat (first | exact List.Sublist.slnil | exact List.Sublist.refl _ | apply List.Sublist.cons_cons | apply List.Sublist.cons))) rfl (by kernel_rfl) (by kernel_rfl) (v_loadB 0 rfl Try.underlying3 rfl rfl rfl) rfl ?_
                  refine a_take 3 pan_cx (by kernel_rfl) (fun _ hw => hw.sub (by repeat (first | exact List.Sublist.slnil | exact List.Sublist.refl _ | apply List.Sublist.cons_cons | apply List.Sublist.cons))) rfl (by kernel_rfl) (by kernel_rfl) (v_fieldAddrB (o := 2) Try.underlying81 rfl rfl Try.nz3 rfl) rfl ?_
                  refine a_take 4 pan_cx (by kernel_rfl) (fun _ hw => hw.sub (by repeat (first | exact List.Sublist.slnil | exact List.Sublist.refl _ | apply List.Sublist.cons_cons | apply List.Sublist.cons))) rfl (by kernel_rfl) (by kernel_rfl) (v_loadB 0 rfl Try.underlying3 rfl rfl rfl) rfl ?_
                  refine a_take 6 pan_cx (by kernel_rfl) (fun _ hw => hw.sub (by repeat (first | exact List.Sublist.slnil | exact List.Sublist.refl _ | apply List.Sublist.cons_cons | apply List.Sublist.cons))) rfl (by kernel_rfl) (by kernel_rfl) (v_move rfl) rfl ?_
                  refine a_take 7 pan_cx (by kernel_rfl) (fun _ hw => hw.sub (by repeat (first | exact List.Sublist.slnil | exact List.Sublist.refl _ | apply List.Sublist.cons_cons | apply List.Sublist.cons))) rfl (by kernel_rfl) (by kernel_rfl) (v_fieldAddrB (o := 1) Try.underlying81 rfl rfl Try.nz3 rfl) rfl ?_
                  refine a_take 8 pan_cx (by kernel_rfl) (fun _ hw => hw.sub (by repeat (first | exact List.Sublist.slnil | exact List.Sublist.refl _ | apply List.Sublist.cons_cons | apply List.Sublist.cons))) rfl (by kernel_rfl) (by kernel_rfl) (v_loadB 0 rfl Try.underlying3 rfl rfl rfl) rfl ?_
                  refine a_take 9 pan_cx (by kernel_rfl) (fun _ hw => hw.sub (by repeat (first | exact List.Sublist.slnil | exact List.Sublist.refl _ | apply List.Sublist.cons_cons | apply List.Sublist.cons))) rfl (by kernel_rfl) (by kernel_rfl) (v_fieldAddrB (o := 2) Try.underlying81 rfl rfl Try.nz3 rfl) rfl ?_
                  refine a_take 10 pan_cx (by kernel_rfl) (fun _ hw => hw.sub (by repeat (first | exact List.Sublist.slnil | exact List.Sublist.refl _ | apply List.Sublist.cons_cons | apply List.Sublist.cons))) rfl (by kernel_rfl) (by kernel_rfl) (v_loadB 0 rfl Try.underlying3 rfl rfl rfl) rfl ?_
                  refine a_one 5 (by kernel_rfl) rfl rfl ?_
                  refine x_callM (dst := some 145) (tbH p 130 hs T) ([Chunk.blk b20 81 (tstC z)] ++ tbH q 133 hs2 T) (σ := Unit) (fun _ => True) (fun _ => .bool (hasT T z.k z.by_)) (fun _ => tbH p 130 hs (chgT T z.k z.by_ ⟨z.by_, false, true, 0⟩)) (pair_front [_] _) rfl rfl rfl Try.call56 (fun w hw => tabVoid_spec p hs T z.k z.by_ w (res_part hw).1 (res_part hw).2 hnT hgT) rfl (fun _ _ => ?_)
                  refine a_and (fun _ hw => hw.sub (by repeat (first | exact List.Sublist.slnil | exact List.Sublist.refl _ | apply List.Sublist.cons_cons | apply List.Sublist.cons))) ?_
                  refine a_one 11 (by kernel_rfl) rfl rfl ?_
                  refine x_callM (dst := some 151) (tbH q 133 hs2 T) (tbH p 130 hs (chgT T z.k z.by_ ⟨z.by_, false, true, 0⟩) ++ [Chunk.blk b20 81 (tstC z)]) (σ := Unit) (fun _ => True) (fun _ => .bool (hasT T z.k z.by_)) (fun _ => tbH q 133 hs2 (chgT T z.k z.by_ ⟨z.by_, false, true, 0⟩)) (pair_front [_, _, _] []) rfl rfl rfl Try.call57 (fun w hw => brdVoid_spec q hs2 T z.k z.by_ w (res_part hw).1 (res_part hw).2 hnT) rfl (fun _ _ => ?_)
                  refine a_and (fun _ hw => hw.sub (by repeat (first | exact List.Sublist.slnil | exact List.Sublist.refl _ | apply List.Sublist.cons_cons | apply List.Sublist.cons))) ?_
                  refine a_take 12 pan_cx (by kernel_rfl) (fun _ hw => hw.sub (by repeat (first | exact List.Sublist.slnil | exact List.Sublist.refl _ | apply List.Sublist.cons_cons | apply List.Sublist.cons))) rfl (by kernel_rfl) (by kernel_rfl) (v_is (v' := .bool false) (v_neqBool Try.underlying4 rfl rfl) (by simp)) rfl ?_
                  refine a_done (by kernel_rfl) ?_
                  refine e_condF rfl ?_
                  refine e_skip ?_
                  refine e_blk ?_
                  exact e_cutEnd (chgT T z.k z.by_ ⟨z.by_, false, true, 0⟩) (⟨chgT_good hgT rfl, fun j hj => by rw [chgT_len]; exact hnT j hj⟩) (by repeat (first | exact Sub.nil _ | refine Sub.cons rfl ?_)) (fun _ hw => (hw.perm (pair_front [_, _] [_])).sub (.cons_cons _ (.cons_cons _ (.cons_cons _ (.cons_cons _ (List.nil_sublist _))))))
                · refine e_block ?_
                  refine e_seq ?_
                  refine e_region ?_
                  refine w_val (v_is (v' := .bool false) (v_eql rfl rfl) (by rw [decide_eq_false h0])) rfl ?_
                  refine w_val (v_assign rfl) rfl ?_
                  refine w_nil ?_
                  refine e_condF rfl ?_
                  refine e_seq ?_
                  refine e_region ?_
                  refine w_val (v_is (v' := .bool false) (v_eql rfl rfl) (by rw [decide_eq_false h1])) rfl ?_
                  refine w_val (v_assign rfl) rfl ?_
                  refine w_nil ?_
                  refine e_condF rfl ?_
                  refine e_skip ?_
                  refine e_blk ?_
                  exact e_cutEnd (T) (⟨hgT, hnT⟩) (by repeat (first | exact Sub.nil _ | refine Sub.cons rfl ?_)) (fun _ hw => hw.sub (List.sublist_cons_self _ _))
            · rintro T' ⟨hg', hn'⟩
              refine e_blk ?_
              refine e_region ?_
              refine w_val (v_move rfl) rfl ?_
              refine w_val (v_add rfl rfl (by omega)) rfl ?_
              refine w_val (v_assign rfl) rfl ?_
              refine w_nil ?_
              exact e_round ((i + 1, T')) (⟨by dsimp only; omega, hg', hn'⟩) (by dsimp only; omega) (by repeat (first | exact Sub.nil _ | refine Sub.cons rfl ?_)) (fun _ hw => hw)
        · rintro T ⟨hgT, hnT⟩
          refine e_seq ?_
          refine e_seq ?_
          refine e_region ?_
          refine w_val (v_assign rfl) rfl ?_
          refine w_nil ?_
          refine e_block ?_
          refine e_loopK (σ := Nat) [11, 14] (.cons rfl (.cons rfl .nil)) (fun j => [(21, .int .i64 ((j : Int) - 1))]) (fun j => j ≤ 12) (fun j => 12 - j) 0 (by omega) (by repeat (first | exact Sub.nil _ | refine Sub.cons rfl ?_)) ?_
          rintro j hj
          refine e_seq ?_
          refine e_seq ?_
          refine e_region ?_
          refine w_val (v_move rfl) rfl ?_
          refine w_val (v_leq rfl rfl) rfl ?_
          refine w_nil ?_
          refine e_condD rfl (fun hlt => ?_) (fun hlt => ?_)
          · by_cases hk : 0 ≤ (j : Int) - 1 ∧ (j : Int) - 1 < 10
            · obtain ⟨m, rfl⟩ : ∃ m, j = m + 1 := ⟨j - 1, by omega⟩
              have hm : m < 10 := by omega
              have hjm : ((m + 1 : Nat) : Int) - 1 = (m : Int) := by omega
              rw [hjm] at hk
              refine e_skip ?_
              refine e_seq ?_
              refine e_block ?_
              refine e_seq ?_
              refine e_region ?_
              refine w_val (v_assign rfl) rfl ?_
              refine w_nil ?_
              refine e_seq ?_
              refine e_seq ?_
              refine e_region ?_
              refine w_val (v_is (v' := .int .i64 (m : Int)) (v_move rfl) (by rw [hjm])) rfl ?_
              refine w_op rfl ?_
              refine x_call0 (v := .bool true) rfl rfl rfl Try.call31 rfl (fun w hw => by have := isKey_spec (m : Int) w; rwa [decide_eq_true hk] at this) ?_
              refine w_nil ?_
              refine e_condT rfl ?_
              refine e_region ?_
              refine w_val (v_move rfl) rfl ?_
              refine w_val (v_is (v' := .int .i64 (m : Int)) (v_move rfl) (by rw [hjm])) rfl ?_
              refine w_val (v_nilCheck rfl) rfl ?_
              refine w_val (v_indexAB Try.underlying133 Try.hi84 Try.cz84 rfl rfl (by first | omega | decide)) rfl ?_
              refine w_val (v_loadB 2 rfl Try.underlying84 rfl rfl (tab_hdr hm)) rfl ?_
              refine w_val (v_assign rfl) rfl ?_
              refine w_nil ?_
              refine e_seq ?_
              refine e_region ?_
              refine w_val (v_move rfl) rfl ?_
              refine w_val (v_is (v' := .int .i64 (m : Int)) (v_move rfl) (by rw [hjm])) rfl ?_
              refine w_op rfl ?_
              refine x_call (dst := some 166) (mc := []) (σ := Value) (fun _ => True) (fun s => s) (fun s => [Own s 132 4 (T m).length (slotCells (T m))]) rfl rfl rfl Try.call59 (fun w hw => by have := tabSlots_spec p hs T m w (hw.tbV 0 rfl rfl) hnT; rw [if_pos hk, Int.toNat_natCast] at this; exact this) rfl (fun sl _ => ?_)
              refine w_val (v_move rfl) rfl ?_
              refine w_op rfl ?_
              refine x_call0 (v := .bool true) rfl rfl rfl Try.call58 rfl (fun w hw => Calls.boolT rfl (sameSlots_spec _ _ (T m) (T m) w (own_rds (hw.mem (i := 0) rfl)) ((hw.tbV 3 rfl rfl).row m hm) (by have := hnT m hm; omega))) ?_
              refine w_val (v_is (v' := .bool false) (v_not rfl) (by rfl)) rfl ?_
              refine w_nil ?_
              refine e_condF rfl ?_
              refine e_skip ?_
              refine e_blk ?_
              refine e_region ?_
              refine w_val (v_move rfl) rfl ?_
              refine w_val (v_is (v' := .int .i64 (((m + 1 + 1 : Nat) : Int) - 1)) (v_add rfl rfl (by omega)) (by congr 1; omega)) rfl ?_
              refine w_val (v_assign rfl) rfl ?_
              refine w_nil ?_
              exact e_round (m + 1 + 1) (by omega) (by omega) (by repeat (first | exact Sub.nil _ | refine Sub.cons rfl ?_)) (fun _ hw => hw.sub (List.sublist_cons_self _ _))
            · refine e_skip ?_
              refine e_seq ?_
              refine e_block ?_
              refine e_seq ?_
              refine e_region ?_
              refine w_val (v_assign rfl) rfl ?_
              refine w_nil ?_
              refine e_seq ?_
              refine e_seq ?_
              refine e_region ?_
              refine w_val (v_move rfl) rfl ?_
              refine w_op rfl ?_
              refine x_call0 (v := .bool false) rfl rfl rfl Try.call31 rfl (fun w hw => by have := isKey_spec ((j : Int) - 1) w; rwa [decide_eq_false hk] at this) ?_
              refine w_nil ?_
              refine e_condF rfl ?_
              refine e_skip ?_
              refine e_seq ?_
              refine e_region ?_
              refine w_val (v_move rfl) rfl ?_
              refine w_val (v_move rfl) rfl ?_
              refine w_op rfl ?_
              refine x_call (dst := some 166) (mc := []) (σ := Value) (fun _ => True) (fun s => s) (fun s => [Own s 132 4 0 (slotCells [])]) rfl rfl rfl Try.call59 (fun w hw => by have := tabSlots_spec p hs T ((j : Int) - 1) w (hw.tbV 0 rfl rfl) hnT; rw [if_neg hk] at this; exact this) rfl (fun sl _ => ?_)
              refine w_val (v_move rfl) rfl ?_
              refine w_op rfl ?_
              refine x_call0 (v := .bool true) rfl rfl rfl Try.call58 rfl (fun w hw => Calls.boolT rfl (sameSlots_spec _ _ [] [] w (own_rds (hw.mem (i := 0) rfl)) ⟨none, 0, rfl, Nat.le_refl _, rfl, fun h => absurd h (Nat.lt_irrefl _)⟩ (by simp))) ?_
              refine w_val (v_is (v' := .bool false) (v_not rfl) (by rfl)) rfl ?_
              refine w_nil ?_
              refine e_condF rfl ?_
              refine e_skip ?_
              refine e_blk ?_
              refine e_region ?_
              refine w_val (v_move rfl) rfl ?_
              refine w_val (v_is (v' := .int .i64 (((j + 1 : Nat) : Int) - 1)) (v_add rfl rfl (by omega)) (by congr 1; omega)) rfl ?_
              refine w_val (v_assign rfl) rfl ?_
              refine w_nil ?_
              exact e_round (j + 1) (by omega) (by omega) (by repeat (first | exact Sub.nil _ | refine Sub.cons rfl ?_)) (fun _ hw => hw.sub (List.sublist_cons_self _ _))
          · refine e_exit rfl ?_
            refine e_seq ?_
            refine e_region ?_
            refine w_val (v_assign rfl) rfl ?_
            refine w_nil ?_
            refine e_retQ (q_ret1 rfl (.tmp rfl) ?_)
            exact fun w' hw' => ⟨rfl, hw'.res.nil⟩
      · refine e_skip ?_
        refine e_seq ?_
        refine e_region ?_
        refine w_val (v_loadBA 0 rfl Try.underlying70 rfl Try.hi70 (Try.cz70.trans hlz.symm) rfl) rfl ?_
        refine w_val (v_move rfl) rfl ?_
        refine w_op rfl ?_
        refine x_call0 (v := .tuple #[.pointer none, .int .i64 (roundFaultL r)]) rfl rfl rfl Try.call45 rfl (fun w hw => tabNew_bad s _ r w (hsr.mono hw.off) hs10 hf) ?_
        refine w_val (v_move rfl) rfl ?_
        refine w_val (v_extract rfl rfl) rfl ?_
        refine w_val (v_extract rfl rfl) rfl ?_
        refine w_val (v_assign rfl) rfl ?_
        refine w_val (v_assign rfl) rfl ?_
        refine w_nil ?_
        refine e_seq ?_
        refine e_seq ?_
        refine e_region ?_
        refine w_val (v_move rfl) rfl ?_
        refine w_op rfl ?_
        refine x_call0 (v := .int .i64 (roundFaultL r)) rfl rfl rfl Try.call41 rfl (fun w hw => RoundFault_spec _ r w (hsr.mono hw.off)) ?_
        refine w_val (v_assign rfl) rfl ?_
        refine w_nil ?_
        refine e_seq ?_
        refine e_region ?_
        refine w_val (v_move rfl) rfl ?_
        refine w_val (v_is (v' := .bool true) (v_neq rfl rfl) (by rw [decide_eq_true hf])) rfl ?_
        refine w_val (v_move rfl) rfl ?_
        refine w_skip rfl rfl rfl rfl ?_
        refine w_skip rfl rfl rfl rfl ?_
        refine w_val (v_pickT rfl rfl) rfl ?_
        refine w_nil ?_
        refine e_condT rfl ?_
        refine e_seq ?_
        refine e_region ?_
        refine w_val (v_move rfl) rfl ?_
        refine w_val (v_move rfl) rfl ?_
        refine w_val (v_is (v' := .bool true) (v_eql rfl rfl) (by rw [decide_eq_true rfl])) rfl ?_
        refine w_val (v_move rfl) rfl ?_
        refine w_want rfl rfl ?_
        refine w_val (v_move rfl) rfl ?_
        refine w_want rfl rfl ?_
        refine w_val (v_is (v' := .bool true) (v_eqlPtr Try.underlying72 rfl rfl) (by rfl)) rfl ?_
        refine w_val (v_pickT rfl rfl) rfl ?_
        refine w_val (v_move rfl) rfl ?_
        refine w_want rfl rfl ?_
        refine w_val (v_move rfl) rfl ?_
        refine w_want rfl rfl ?_
        refine w_val (v_is (v' := .bool true) (v_neq rfl rfl) (by rw [decide_eq_true hf])) rfl ?_
        refine w_val (v_pickT rfl rfl) rfl ?_
        refine w_val (v_assign rfl) rfl ?_
        refine w_nil ?_
        refine e_retQ (q_ret1 rfl (.tmp rfl) ?_)
        exact fun w' hw' => ⟨rfl, hw'.res.nil⟩
end Go.SL

