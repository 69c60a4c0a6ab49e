/- Ytebdkaadbakhlab: part BA of this seat's own texts. -/
import Derived.Test.YtebdkaadbakhlabB9
import Derived.Test.YtebdkaadbakhlabP5
set_option linter.unusedVariables false
set_option linter.unusedSimpArgs false
open Go Go.Proofs Go.SL
set_option maxRecDepth 100000
set_option maxHeartbeats 4000000
namespace Go.SL
theorem OkT.good {T : TabL} (h : OkT T) : GoodT T := fun k _ s hs ho => (h k).opn s hs ho |>.2
theorem TableOnce_spec (s : List Int) (v vl : Value) (r : RoundL) (l : List TStepL) (k by_ : Int) (w : World) (h : IsRound w.cell? v r) (hb : ∀ d ∈ r, d.length ≤ 4398046511104) (hs10 : s.length = 10) (hl : IsTst w.cell? vl l) :
    Calls Try.prog 9 #[intsV s, v, vl, .int .i64 k, .int .i64 by_] w fun e w' => e = .returned (.bool true) ∧ Res w [] [] w' := by
  have hsr := h
  rw [← off_none w] at h hsr hl
  obtain ⟨A, kp, rfl, hle, hlc⟩ := hl.form
  have hlz : (intCells s).length = 10 := by rw [intCells, List.length_map]; exact hs10
  refine enter0 (N := 125) Try.func9 rfl rfl rfl ?_
  refine e_seq ?_
  refine e_region ?_
  refine w_op rfl ?_
  refine x_box rfl rfl (fun b5 => ?_)
  refine w_val (v_assign rfl) rfl ?_
  refine w_nil ?_
  refine e_seq ?_
  refine e_seq ?_
  refine e_region ?_
  refine w_op rfl ?_
  refine x_call0 (v := .bool true) rfl rfl rfl Try.call44 rfl (fun w hw => tableBegun_spec w) ?_
  refine w_val (v_not rfl) rfl ?_
  refine w_nil ?_
  refine e_condF rfl ?_
  by_cases hg : greatL r = true
  · refine e_skip ?_
    refine e_seq ?_
    refine e_seq ?_
    refine e_region ?_
    refine w_val (v_move rfl) rfl ?_
    refine w_op rfl ?_
    refine x_call0 (v := .bool true) rfl rfl rfl Try.call32 rfl (fun w hw => by have := great_spec _ r w (hsr.mono hw.off) hb; rwa [hg] at this) ?_
    refine w_val (v_move rfl) rfl ?_
    refine w_skip rfl rfl rfl rfl ?_
    refine w_skip rfl rfl rfl rfl ?_
    refine w_skip rfl rfl rfl rfl ?_
    refine w_val (v_pickT rfl rfl) rfl ?_
    refine w_nil ?_
    refine e_condT rfl ?_
    refine e_seq ?_
    refine e_region ?_
    refine w_val (v_assign rfl) rfl ?_
    refine w_nil ?_
    refine e_retQ (q_ret1 rfl (.tmp rfl) ?_)
    exact fun w' hw' => ⟨rfl, hw'.res.nil⟩
  · have hg : greatL r = false := by cases h : greatL r with | true => exact absurd h hg | false => rfl
    by_cases h200 : 200 < l.length
    · refine e_skip ?_
      refine e_seq ?_
      refine e_seq ?_
      refine e_region ?_
      refine w_val (v_move rfl) rfl ?_
      refine w_op rfl ?_
      refine x_call0 (v := .bool false) rfl rfl rfl Try.call32 rfl (fun w hw => by have := great_spec _ r w (hsr.mono hw.off) hb; rwa [hg] at this) ?_
      refine w_val (v_move rfl) rfl ?_
      refine w_want rfl rfl ?_
      refine w_val (v_move rfl) rfl ?_
      refine w_want rfl rfl ?_
      refine w_val (v_lenS Try.underlying71 rfl) rfl ?_
      refine w_want rfl rfl ?_
      refine w_val (v_is (v' := .bool true) (v_gtr rfl rfl) (by rw [decide_eq_true (by omega)])) rfl ?_
      refine w_val (v_pickF rfl rfl) rfl ?_
      refine w_nil ?_
      refine e_condT rfl ?_
      refine e_seq ?_
      refine e_region ?_
      refine w_val (v_assign rfl) rfl ?_
      refine w_nil ?_
      refine e_retQ (q_ret1 rfl (.tmp rfl) ?_)
      exact fun w' hw' => ⟨rfl, hw'.res.nil⟩
    · refine e_skip ?_
      refine e_seq ?_
      refine e_seq ?_
      refine e_region ?_
      refine w_val (v_move rfl) rfl ?_
      refine w_op rfl ?_
      refine x_call0 (v := .bool false) rfl rfl rfl Try.call32 rfl (fun w hw => by have := great_spec _ r w (hsr.mono hw.off) hb; rwa [hg] at this) ?_
      refine w_val (v_move rfl) rfl ?_
      refine w_want rfl rfl ?_
      refine w_val (v_move rfl) rfl ?_
      refine w_want rfl rfl ?_
      refine w_val (v_lenS Try.underlying71 rfl) rfl ?_
      refine w_want rfl rfl ?_
      refine w_val (v_is (v' := .bool false) (v_gtr rfl rfl) (by rw [decide_eq_false (by omega)])) rfl ?_
      refine w_val (v_pickF rfl rfl) rfl ?_
      refine w_nil ?_
      refine e_condF rfl ?_
      by_cases hf : roundFaultL r = 0
      · have h60 := great_not hg
        have hok := roundFault_ok hf
        refine e_skip ?_
        refine e_seq ?_
        refine e_region ?_
        refine w_val (v_loadBA 0 rfl Try.underlying70 rfl Try.hi70 (Try.cz70.trans hlz.symm) rfl) rfl ?_
        refine w_val (v_move rfl) rfl ?_
        refine w_op rfl ?_
        refine x_call (dst := some 32) (mc := []) (σ := Nat × (Nat → Value)) (fun _ => True) (fun x => .tuple #[.pointer (some ⟨x.1, 0, none⟩), .int .i64 0]) (fun x => tbH x.1 130 x.2 (newT s r)) rfl rfl rfl Try.call45 (fun w hw => tabNew_ok s _ r w (hsr.mono hw.off) hs10 hf) rfl (fun x _ => ?_)
        obtain ⟨p, hs⟩ := x
        dsimp only
        refine w_val (v_move rfl) rfl ?_
        refine w_val (v_extract rfl rfl) rfl ?_
        refine w_val (v_extract rfl rfl) rfl ?_
        refine w_val (v_assign rfl) rfl ?_
        refine w_val (v_assign rfl) rfl ?_
        refine w_nil ?_
        refine e_seq ?_
        refine e_seq ?_
        refine e_region ?_
        refine w_val (v_move rfl) rfl ?_
        refine w_val (v_is (v' := .bool false) (v_neq rfl rfl) (by rfl)) rfl ?_
        refine w_val (v_move rfl) rfl ?_
        refine w_want rfl rfl ?_
        refine w_val (v_move rfl) rfl ?_
        refine w_want rfl rfl ?_
        refine w_val (v_is (v' := .bool false) (v_eqlPtr Try.underlying72 rfl rfl) (by rfl)) rfl ?_
        refine w_val (v_pickF rfl rfl) rfl ?_
        refine w_nil ?_
        refine e_condF rfl ?_
        have hn0 : ∀ k, k < 10 → (newT s r k).length ≤ 1000 := fun k _ => newT_len (by omega) k
        have hok0 := newT_ok s r
        generalize newT s r = T0 at *
        refine g_heap (m' := tbH p 130 hs T0) (fun _ hw => hw.sub (.cons_cons _ (.cons_cons _ (List.nil_sublist _)))) ?_
        refine e_skip ?_
        refine e_seq ?_
        refine e_region ?_
        refine w_val (v_assign rfl) rfl ?_
        refine w_val (v_assign rfl) rfl ?_
        refine w_nil ?_
        refine e_seq ?_
        refine e_seq ?_
        refine e_region ?_
        refine w_val (v_assign rfl) rfl ?_
        refine w_nil ?_
        refine e_cutH (σ := Unit) [] .nil (fun _ => []) (fun _ => []) (fun _ => True) ?_ ?_
        · refine e_block ?_
          refine e_loopH (σ := Nat × TabL × Bool × Int) [1, 2, 3, 4, 11] (.cons rfl (.cons rfl (.cons rfl (.cons rfl (.cons rfl .nil))))) (fun x => [(13, .bool x.2.2.1), (14, .int .i64 x.2.2.2), (15, .int .i64 (x.1 : Int))]) (fun x => tbH p 130 hs x.2.1) (fun x => x.1 ≤ l.length ∧ OkT x.2.1 ∧ (∀ k, k < 10 → (x.2.1 k).length ≤ 1000) ∧ (x.2.2.1 = true → (befT x.2.1 k by_).2 = -1 ∧ (befT x.2.1 k by_).1 = x.2.2.2)) (fun x => l.length - x.1) (0, T0, false, 0) ⟨Nat.zero_le _, hok0, hn0, fun h => by cases h⟩ (by repeat (first | exact Sub.nil _ | refine Sub.cons rfl ?_)) (fun _ hw => hw) ?_
          rintro ⟨i, T, kn, n⟩ ⟨hi, hokT, hnT, hkn⟩
          dsimp only at hi hokT hnT hkn ⊢
          have hwho := befT_who (k := k) (by_ := by_) hokT
          refine e_seq ?_
          refine e_seq ?_
          refine e_region ?_
          refine w_val (v_move rfl) rfl ?_
          refine w_val (v_move rfl) rfl ?_
          refine w_val (v_lenS Try.underlying71 rfl) rfl ?_
          refine w_val (v_is (v' := .bool true) (v_leq rfl rfl) (by rw [decide_eq_true (by omega)])) rfl ?_
          refine w_nil ?_
          refine e_condT rfl ?_
          refine e_skip ?_
          refine e_seq ?_
          refine e_block ?_
          refine e_seq ?_
          refine e_region ?_
          refine w_val (v_move rfl) rfl ?_
          refine w_val (v_move rfl) rfl ?_
          refine w_val (v_move rfl) rfl ?_
          refine w_op rfl ?_
          refine x_call0 (v := .tuple #[.int .i64 (befT T k by_).1, .int .i64 (befT T k by_).2]) rfl rfl rfl Try.call47 rfl (fun w hw => tabBefore_spec p hs T k by_ w (hw.tbV 0 rfl rfl) hnT) ?_
          refine w_val (v_move rfl) rfl ?_
          refine w_val (v_extract rfl rfl) rfl ?_
          refine w_val (v_extract rfl rfl) rfl ?_
          refine w_val (v_assign rfl) rfl ?_
          refine w_val (v_assign rfl) rfl ?_
          refine w_nil ?_
          refine e_seq ?_
          refine e_seq ?_
          refine e_cutK (σ := Unit) [1, 2, 3, 4, 11, 15, 16, 17] (.cons rfl (.cons rfl (.cons rfl (.cons rfl (.cons rfl (.cons rfl (.cons rfl (.cons rfl .nil)))))))) (fun _ => [(76, .bool false)]) (fun _ => True) ?_ ?_
          · by_cases hge : by_ ≤ (befT T k by_).2
            · cases kn with
              | true =>
                obtain ⟨h1, h2⟩ := hkn rfl
                refine e_region ?_
                refine w_val (v_move rfl) rfl ?_
                refine w_val (v_is (v' := .bool false) (v_lss rfl rfl) (by rw [decide_eq_false (by omega)])) rfl ?_
                refine w_val (v_move rfl) rfl ?_
                refine w_want rfl rfl ?_
                refine w_val (v_move rfl) rfl ?_
                refine w_want rfl rfl ?_
                refine w_val (v_move rfl) rfl ?_
                refine w_want rfl rfl ?_
                refine w_val (v_is (v' := .bool true) (v_geq rfl rfl) (by rw [decide_eq_true (by omega)])) rfl ?_
                refine w_want rfl rfl ?_
                refine w_val (v_move rfl) rfl ?_
                refine w_want rfl rfl ?_
                refine w_val (v_move rfl) rfl ?_
                refine w_want rfl rfl ?_
                refine w_val (v_is (v' := .bool false) (v_geq rfl rfl) (by rw [decide_eq_false (by omega)])) rfl ?_
                refine w_want rfl rfl ?_
                refine w_val (v_pickT rfl rfl) rfl ?_
                refine w_val (v_pickF rfl rfl) rfl ?_
                refine w_val (v_move rfl) rfl ?_
                refine w_want rfl rfl ?_
                refine w_val (v_move rfl) rfl ?_
                refine w_want rfl rfl ?_
                refine w_val (v_move rfl) rfl ?_
                refine w_want rfl rfl ?_
                refine w_val (v_move rfl) rfl ?_
                refine w_want rfl rfl ?_
                refine w_val (v_is (v' := .bool false) (v_neq rfl rfl) (by rw [decide_eq_false (fun h => h h1)])) rfl ?_
                refine w_want rfl rfl ?_
                refine w_val (v_move rfl) rfl ?_
                refine w_want rfl rfl ?_
                refine w_val (v_move rfl) rfl ?_
                refine w_want rfl rfl ?_
                refine w_val (v_move rfl) rfl ?_
                refine w_want rfl rfl ?_
                refine w_val (v_is (v' := .bool false) (v_neq rfl rfl) (by rw [decide_eq_false (fun h => h h2)])) rfl ?_
                refine w_want rfl rfl ?_
                refine w_val (v_pickF rfl rfl) rfl ?_
                refine w_want rfl rfl ?_
                refine w_val (v_pickT rfl rfl) rfl ?_
                refine w_val (v_pickF rfl rfl) rfl ?_
                refine w_nil ?_
                exact e_cutEnd (()) (trivial) (by repeat (first | exact Sub.nil _ | refine Sub.cons rfl ?_)) (fun _ hw => hw)
              | false =>
                refine e_region ?_
                refine w_val (v_move rfl) rfl ?_
                refine w_val (v_is (v' := .bool false) (v_lss rfl rfl) (by rw [decide_eq_false (by omega)])) rfl ?_
                refine w_val (v_move rfl) rfl ?_
                refine w_want rfl rfl ?_
                refine w_val (v_move rfl) rfl ?_
                refine w_want rfl rfl ?_
                refine w_val (v_move rfl) rfl ?_
                refine w_want rfl rfl ?_
                refine w_val (v_is (v' := .bool true) (v_geq rfl rfl) (by rw [decide_eq_true (by omega)])) rfl ?_
                refine w_want rfl rfl ?_
                refine w_val (v_move rfl) rfl ?_
                refine w_want rfl rfl ?_
                refine w_val (v_move rfl) rfl ?_
                refine w_want rfl rfl ?_
                refine w_val (v_is (v' := .bool false) (v_geq rfl rfl) (by rw [decide_eq_false (by omega)])) rfl ?_
                refine w_want rfl rfl ?_
                refine w_val (v_pickT rfl rfl) rfl ?_
                refine w_val (v_pickF rfl rfl) rfl ?_
                refine w_val (v_move rfl) rfl ?_
                refine w_want rfl rfl ?_
                refine w_val (v_move rfl) rfl ?_
                refine w_want rfl rfl ?_
                refine w_val (v_move rfl) rfl ?_
                refine w_skip rfl rfl rfl rfl ?_
                refine w_skip rfl rfl rfl rfl ?_
                refine w_skip rfl rfl rfl rfl ?_
                refine w_skip rfl rfl rfl rfl ?_
                refine w_skip rfl rfl rfl rfl ?_
                refine w_skip rfl rfl rfl rfl ?_
                refine w_skip rfl rfl rfl rfl ?_
                refine w_want rfl rfl ?_
                refine w_val (v_pickF rfl rfl) rfl ?_
                refine w_val (v_pickF rfl rfl) rfl ?_
                refine w_nil ?_
                exact e_cutEnd (()) (trivial) (by repeat (first | exact Sub.nil _ | refine Sub.cons rfl ?_)) (fun _ hw => hw)
            · cases kn with
              | true =>
                obtain ⟨h1, h2⟩ := hkn rfl
                refine e_region ?_
                refine w_val (v_move rfl) rfl ?_
                refine w_val (v_is (v' := .bool false) (v_lss rfl rfl) (by rw [decide_eq_false (by omega)])) rfl ?_
                refine w_val (v_move rfl) rfl ?_
                refine w_want rfl rfl ?_
                refine w_val (v_move rfl) rfl ?_
                refine w_want rfl rfl ?_
                refine w_val (v_move rfl) rfl ?_
                refine w_want rfl rfl ?_
                refine w_val (v_is (v' := .bool false) (v_geq rfl rfl) (by rw [decide_eq_false (by omega)])) rfl ?_
                refine w_want rfl rfl ?_
                refine w_val (v_move rfl) rfl ?_
                refine w_skip rfl rfl rfl rfl ?_
                refine w_skip rfl rfl rfl rfl ?_
                refine w_want rfl rfl ?_
                refine w_val (v_pickF rfl rfl) rfl ?_
                refine w_val (v_pickF rfl rfl) rfl ?_
                refine w_val (v_move rfl) rfl ?_
                refine w_want rfl rfl ?_
                refine w_val (v_move rfl) rfl ?_
                refine w_want rfl rfl ?_
                refine w_val (v_move rfl) rfl ?_
                refine w_want rfl rfl ?_
                refine w_val (v_move rfl) rfl ?_
                refine w_want rfl rfl ?_
                refine w_val (v_is (v' := .bool false) (v_neq rfl rfl) (by rw [decide_eq_false (fun h => h h1)])) rfl ?_
                refine w_want rfl rfl ?_
                refine w_val (v_move rfl) rfl ?_
                refine w_want rfl rfl ?_
                refine w_val (v_move rfl) rfl ?_
                refine w_want rfl rfl ?_
                refine w_val (v_move rfl) rfl ?_
                refine w_want rfl rfl ?_
                refine w_val (v_is (v' := .bool false) (v_neq rfl rfl) (by rw [decide_eq_false (fun h => h h2)])) rfl ?_
                refine w_want rfl rfl ?_
                refine w_val (v_pickF rfl rfl) rfl ?_
                refine w_want rfl rfl ?_
                refine w_val (v_pickT rfl rfl) rfl ?_
                refine w_val (v_pickF rfl rfl) rfl ?_
                refine w_nil ?_
                exact e_cutEnd (()) (trivial) (by repeat (first | exact Sub.nil _ | refine Sub.cons rfl ?_)) (fun _ hw => hw)
              | false =>
                refine e_region ?_
                refine w_val (v_move rfl) rfl ?_
                refine w_val (v_is (v' := .bool false) (v_lss rfl rfl) (by rw [decide_eq_false (by omega)])) rfl ?_
                refine w_val (v_move rfl) rfl ?_
                refine w_want rfl rfl ?_
                refine w_val (v_move rfl) rfl ?_
                refine w_want rfl rfl ?_
                refine w_val (v_move rfl) rfl ?_
                refine w_want rfl rfl ?_
                refine w_val (v_is (v' := .bool false) (v_geq rfl rfl) (by rw [decide_eq_false (by omega)])) rfl ?_
                refine w_want rfl rfl ?_
                refine w_val (v_move rfl) rfl ?_
                refine w_skip rfl rfl rfl rfl ?_
                refine w_skip rfl rfl rfl rfl ?_
                refine w_want rfl rfl ?_
                refine w_val (v_pickF rfl rfl) rfl ?_
                refine w_val (v_pickF rfl rfl) rfl ?_
                refine w_val (v_move rfl) rfl ?_
                refine w_want rfl rfl ?_
                refine w_val (v_move rfl) rfl ?_
                refine w_want rfl rfl ?_
                refine w_val (v_move rfl) rfl ?_
                refine w_skip rfl rfl rfl rfl ?_
                refine w_skip rfl rfl rfl rfl ?_
                refine w_skip rfl rfl rfl rfl ?_
                refine w_skip rfl rfl rfl rfl ?_
                refine w_skip rfl rfl rfl rfl ?_
                refine w_skip rfl rfl rfl rfl ?_
                refine w_skip rfl rfl rfl rfl ?_
                refine w_want rfl rfl ?_
                refine w_val (v_pickF rfl rfl) rfl ?_
                refine w_val (v_pickF rfl rfl) rfl ?_
                refine w_nil ?_
                exact e_cutEnd (()) (trivial) (by repeat (first | exact Sub.nil _ | refine Sub.cons rfl ?_)) (fun _ hw => hw)
          · rintro - -
            refine e_condF rfl ?_
            refine e_skip ?_
            refine e_seq ?_
            refine e_region ?_
            refine w_val (v_move rfl) rfl ?_
            refine w_val (v_eql rfl rfl) rfl ?_
            refine w_val (v_move rfl) rfl ?_
            refine w_val (v_assign rfl) rfl ?_
            refine w_val (v_assign rfl) rfl ?_
            refine w_nil ?_
            refine e_seq ?_
            refine e_seq ?_
            refine e_region ?_
            refine w_val (v_move rfl) rfl ?_
            refine w_val (v_move rfl) rfl ?_
            refine w_val (v_lenS Try.underlying71 rfl) rfl ?_
            refine w_val (v_eql rfl rfl) rfl ?_
            refine w_nil ?_
            refine e_condD rfl (fun heq => ?_) (fun heq => ?_)
            · refine e_exit rfl ?_
              exact e_cutEnd (()) (trivial) (by repeat (first | exact Sub.nil _ | refine Sub.cons rfl ?_)) (fun _ hw => hw.sub (List.nil_sublist _))
            · have hi' : i < l.length := by omega
              obtain ⟨ad, rfl, hcell⟩ := hlc i hi'
              generalize l[i] = z at *
              have hk1 : ∀ x : SlotL, x.by_ = z.by_ → x.opn = false → (decide ((befT T k by_).2 = -1) = true → (befT (chgT T z.k z.by_ x) k by_).2 = -1 ∧ (befT (chgT T z.k z.by_ x) k by_).1 = (befT T k by_).1) := fun x hx ho hd => by
                rw [befT_known hokT hx ho (of_decide_eq_true hd)]
                exact ⟨of_decide_eq_true hd, rfl⟩
              have hk0 : (decide ((befT T k by_).2 = -1) = true → (befT T k by_).2 = -1 ∧ (befT T k by_).1 = (befT T k by_).1) := fun hd => ⟨of_decide_eq_true hd, rfl⟩
              refine e_skip ?_
              refine e_seq ?_
              refine e_region ?_
              refine w_val (v_move rfl) rfl ?_
              refine w_val (v_move rfl) rfl ?_
              refine w_val (v_indexS Try.underlying71 Try.hi81 Try.cz81 rfl rfl (by first | omega | decide)) rfl ?_
              refine w_val (v_loadON Try.underlying81 rfl Try.hi81 rfl (hcell) Try.cz81) rfl ?_
              refine w_op rfl ?_
              refine x_alloc (z := .agg #[.int .i64 0, .int .i64 0, .int .i64 0, .int .i64 0]) (by intro w; exact Try.zeroValue81 w) rfl (fun b18 => ?_)
              refine w_op rfl ?_
              refine x_storeA 0 rfl rfl rfl Try.hi81 Try.cz81 rfl (one_tstC z) ?_
              refine w_nil ?_
              refine e_seq ?_
              refine e_region ?_
              refine w_val (v_assign rfl) rfl ?_
              refine w_nil ?_
              refine e_seq ?_
              refine e_seq ?_
              refine e_region ?_
              refine w_val (v_fieldAddrB (o := 0) Try.underlying81 rfl rfl Try.nz3 rfl) rfl ?_
              refine w_val (v_loadB 0 rfl Try.underlying3 rfl rfl rfl) rfl ?_
              refine w_nil ?_
              refine e_cutH (σ := TabL × Bool) [1, 2, 3, 4, 11, 13, 14, 15, 18] (.cons rfl (.cons rfl (.cons rfl (.cons rfl (.cons rfl (.cons rfl (.cons rfl (.cons rfl (.cons rfl .nil))))))))) (fun x => [(19, .bool x.2)]) (fun x => [Chunk.blk b18 81 (tstC z)] ++ tbH p 130 hs x.1) (fun x => OkT x.1 ∧ (∀ k, k < 10 → (x.1 k).length ≤ 1000) ∧ (decide ((befT T k by_).2 = -1) = true → (befT x.1 k by_).2 = -1 ∧ (befT x.1 k by_).1 = (befT T k by_).1) ∧ (x.2 = true → hasT x.1 z.k z.by_ = false)) ?_ ?_
              · by_cases h0 : z.do_ = 0
                · refine e_block ?_
                  refine e_seq ?_
                  refine e_region ?_
                  refine w_val (v_is (v' := .bool true) (v_eql rfl rfl) (by rw [decide_eq_true h0])) rfl ?_
                  refine w_val (v_assign rfl) rfl ?_
                  refine w_nil ?_
                  refine e_condT rfl ?_
                  refine e_region ?_
                  refine w_val (v_move rfl) rfl ?_
                  refine w_val (v_fieldAddrB (o := 1) Try.underlying81 rfl rfl Try.nz3 rfl) rfl ?_
                  refine w_val (v_loadB 0 rfl Try.underlying3 rfl rfl rfl) rfl ?_
                  refine w_val (v_fieldAddrB (o := 2) Try.underlying81 rfl rfl Try.nz3 rfl) rfl ?_
                  refine w_val (v_loadB 0 rfl Try.underlying3 rfl rfl rfl) rfl ?_
                  refine w_val (v_fieldAddrB (o := 3) Try.underlying81 rfl rfl Try.nz2 rfl) rfl ?_
                  refine w_val (v_loadB 0 rfl Try.underlying2 rfl rfl rfl) rfl ?_
                  refine w_op rfl ?_
                  refine x_callM (dst := some 99) (tbH p 130 hs T) [Chunk.blk b18 81 (tstC z)] (σ := Unit) (fun _ => True) (fun _ => .bool (hasT T z.k z.by_)) (fun _ => tbH p 130 hs (chgT T z.k z.by_ ⟨z.by_, false, false, z.n⟩)) (pair_front [_] []) rfl rfl rfl Try.call54 (fun w hw => tabSet_spec p hs T z.k z.by_ z.n w (res_part hw).1 (res_part hw).2 hnT hokT.good) rfl (fun _ _ => ?_)
                  refine w_val (v_assign rfl) rfl ?_
                  refine w_nil ?_
                  refine e_blk ?_
                  exact e_cutEnd ((chgT T z.k z.by_ ⟨z.by_, false, false, z.n⟩, hasT T z.k z.by_)) (⟨chgT_ok hokT rfl rfl, fun j hj => by rw [chgT_len]; exact hnT j hj, hk1 _ rfl rfl, fun ht => chgT_told hokT rfl ht⟩) (by repeat (first | exact Sub.nil _ | refine Sub.cons rfl ?_)) (fun _ hw => hw.perm (pair_front [_] []).symm)
                · by_cases h1 : z.do_ = 1
                  · refine e_block ?_
                    refine e_seq ?_
                    refine e_region ?_
                    refine w_val (v_is (v' := .bool false) (v_eql rfl rfl) (by rw [decide_eq_false h0])) rfl ?_
                    refine w_val (v_assign rfl) rfl ?_
                    refine w_nil ?_
                    refine e_condF rfl ?_
                    refine e_seq ?_
                    refine e_region ?_
                    refine w_val (v_is (v' := .bool true) (v_eql rfl rfl) (by rw [decide_eq_true h1])) rfl ?_
                    refine w_val (v_assign rfl) rfl ?_
                    refine w_nil ?_
                    refine e_condT rfl ?_
                    refine e_region ?_
                    refine w_val (v_move rfl) rfl ?_
                    refine w_val (v_fieldAddrB (o := 1) Try.underlying81 rfl rfl Try.nz3 rfl) rfl ?_
                    refine w_val (v_loadB 0 rfl Try.underlying3 rfl rfl rfl) rfl ?_
                    refine w_val (v_fieldAddrB (o := 2) Try.underlying81 rfl rfl Try.nz3 rfl) rfl ?_
                    refine w_val (v_loadB 0 rfl Try.underlying3 rfl rfl rfl) rfl ?_
                    refine w_op rfl ?_
                    refine x_callM (dst := some 107) (tbH p 130 hs T) [Chunk.blk b18 81 (tstC z)] (σ := Unit) (fun _ => True) (fun _ => .bool (hasT T z.k z.by_)) (fun _ => tbH p 130 hs (chgT T z.k z.by_ ⟨z.by_, false, true, 0⟩)) (pair_front [_] []) rfl rfl rfl Try.call56 (fun w hw => tabVoid_spec p hs T z.k z.by_ w (res_part hw).1 (res_part hw).2 hnT hokT.good) rfl (fun _ _ => ?_)
                    refine w_val (v_assign rfl) rfl ?_
                    refine w_nil ?_
                    refine e_blk ?_
                    exact e_cutEnd ((chgT T z.k z.by_ ⟨z.by_, false, true, 0⟩, hasT T z.k z.by_)) (⟨chgT_ok hokT rfl rfl, fun j hj => by rw [chgT_len]; exact hnT j hj, hk1 _ rfl rfl, fun ht => chgT_told hokT rfl ht⟩) (by repeat (first | exact Sub.nil _ | refine Sub.cons rfl ?_)) (fun _ hw => hw.perm (pair_front [_] []).symm)
                  · refine e_block ?_
                    refine e_seq ?_
                    refine e_region ?_
                    refine w_val (v_is (v' := .bool false) (v_eql rfl rfl) (by rw [decide_eq_false h0])) rfl ?_
                    refine w_val (v_assign rfl) rfl ?_
                    refine w_nil ?_
                    refine e_condF rfl ?_
                    refine e_seq ?_
                    refine e_region ?_
                    refine w_val (v_is (v' := .bool false) (v_eql rfl rfl) (by rw [decide_eq_false h1])) rfl ?_
                    refine w_val (v_assign rfl) rfl ?_
                    refine w_nil ?_
                    refine e_condF rfl ?_
                    refine e_skip ?_
                    refine e_blk ?_
                    exact e_cutEnd ((T, false)) (⟨hokT, hnT, hk0, fun h => by cases h⟩) (by repeat (first | exact Sub.nil _ | refine Sub.cons rfl ?_)) (fun _ hw => hw)
              · rintro ⟨T1, told⟩ ⟨hok1, hn1, hkk1, htold⟩
                dsimp only at hok1 hn1 hkk1 htold ⊢
                cases told with
                | true =>
                  have hht := htold rfl
                  refine e_seq ?_
                  refine e_region ?_
                  refine w_val (v_move rfl) rfl ?_
                  refine w_val (v_move rfl) rfl ?_
                  refine w_want rfl rfl ?_
                  refine w_val (v_move rfl) rfl ?_
                  refine w_want rfl rfl ?_
                  refine w_val (v_fieldAddrB (o := 1) Try.underlying81 rfl rfl Try.nz3 rfl) rfl ?_
                  refine w_want rfl rfl ?_
                  refine w_val (v_loadB 0 rfl Try.underlying3 rfl rfl rfl) rfl ?_
                  refine w_want rfl rfl ?_
                  refine w_val (v_fieldAddrB (o := 2) Try.underlying81 rfl rfl Try.nz3 rfl) rfl ?_
                  refine w_want rfl rfl ?_
                  refine w_val (v_loadB 0 rfl Try.underlying3 rfl rfl rfl) rfl ?_
                  refine w_want rfl rfl ?_
                  refine w_op rfl ?_
                  refine x_callM (dst := some 115) (tbH p 130 hs T1) [Chunk.blk b18 81 (tstC z)] (σ := Unit) (fun _ => True) (fun _ => .bool false) (fun _ => tbH p 130 hs T1) (pair_front [_] []) rfl rfl rfl Try.call54 (fun w hw => by have := tabSet_spec p hs T1 z.k z.by_ 1 w (res_part hw).1 (res_part hw).2 hn1 hok1.good; rwa [hht, chgT_none hht] at this) rfl (fun _ _ => ?_); refine w_heap (fun _ hw => hw.perm (pair_front [Chunk.blk b18 81 (tstC z)] []).symm) ?_
                  refine w_want rfl rfl ?_
                  refine w_val (v_move rfl) rfl ?_
                  refine w_want rfl rfl ?_
                  refine w_val (v_move rfl) rfl ?_
                  refine w_want rfl rfl ?_
                  refine w_val (v_fieldAddrB (o := 1) Try.underlying81 rfl rfl Try.nz3 rfl) rfl ?_
                  refine w_want rfl rfl ?_
                  refine w_val (v_loadB 0 rfl Try.underlying3 rfl rfl rfl) rfl ?_
                  refine w_want rfl rfl ?_
                  refine w_val (v_fieldAddrB (o := 2) Try.underlying81 rfl rfl Try.nz3 rfl) rfl ?_
                  refine w_want rfl rfl ?_
                  refine w_val (v_loadB 0 rfl Try.underlying3 rfl rfl rfl) rfl ?_
                  refine w_want rfl rfl ?_
                  refine w_op rfl ?_
                  refine x_callM (dst := some 122) (tbH p 130 hs T1) [Chunk.blk b18 81 (tstC z)] (σ := Unit) (fun _ => True) (fun _ => .bool false) (fun _ => tbH p 130 hs T1) (pair_front [_] []) rfl rfl rfl Try.call56 (fun w hw => by have := tabVoid_spec p hs T1 z.k z.by_ w (res_part hw).1 (res_part hw).2 hn1 hok1.good; rwa [hht, chgT_none hht] at this) rfl (fun _ _ => ?_)
                  refine w_want rfl rfl ?_
                  refine w_val (v_pickF rfl rfl) rfl ?_
                  refine w_val (v_pickT rfl rfl) rfl ?_
                  refine w_nil ?_
                  refine e_condF rfl ?_
                  refine e_skip ?_
                  refine e_blk ?_
                  refine e_region ?_
                  refine w_val (v_move rfl) rfl ?_
                  refine w_val (v_add rfl rfl (by omega)) rfl ?_
                  refine w_val (v_assign rfl) rfl ?_
                  refine w_nil ?_
                  exact e_round ((i + 1, T1, decide ((befT T k by_).2 = -1), (befT T k by_).1)) (⟨by dsimp only; omega, hok1, hn1, hkk1⟩) (by dsimp only; omega) (by repeat (first | exact Sub.nil _ | refine Sub.cons rfl ?_)) (fun _ hw => hw.sub (.cons_cons _ (.cons_cons _ (List.nil_sublist _))))
                | false =>
                  refine e_seq ?_
                  refine e_region ?_
                  refine w_val (v_move rfl) rfl ?_
                  refine w_val (v_move rfl) rfl ?_
                  refine w_skip rfl rfl rfl rfl ?_
                  refine w_skip rfl rfl rfl rfl ?_
                  refine w_skip rfl rfl rfl rfl ?_
                  refine w_skip rfl rfl rfl rfl ?_
                  refine w_skip rfl rfl rfl rfl ?_
                  refine w_skip rfl rfl rfl rfl ?_
                  refine w_skip rfl rfl rfl rfl ?_
                  refine w_skip rfl rfl rfl rfl ?_
                  refine w_skip rfl rfl rfl rfl ?_
                  refine w_skip rfl rfl rfl rfl ?_
                  refine w_skip rfl rfl rfl rfl ?_
                  refine w_skip rfl rfl rfl rfl ?_
                  refine w_skip rfl rfl rfl rfl ?_
                  refine w_skip rfl rfl rfl rfl ?_
                  refine w_val (v_pickF rfl rfl) rfl ?_
                  refine w_nil ?_
                  refine e_condF rfl ?_
                  refine e_skip ?_
                  refine e_blk ?_
                  refine e_region ?_
                  refine w_val (v_move rfl) rfl ?_
                  refine w_val (v_add rfl rfl (by omega)) rfl ?_
                  refine w_val (v_assign rfl) rfl ?_
                  refine w_nil ?_
                  exact e_round ((i + 1, T1, decide ((befT T k by_).2 = -1), (befT T k by_).1)) (⟨by dsimp only; omega, hok1, hn1, hkk1⟩) (by dsimp only; omega) (by repeat (first | exact Sub.nil _ | refine Sub.cons rfl ?_)) (fun _ hw => hw.sub (List.sublist_cons_self _ _))
        · rintro - -
          refine e_seq ?_
          refine e_region ?_
          refine w_val (v_assign rfl) rfl ?_
          refine w_nil ?_
          refine e_retQ (q_ret1 rfl (.tmp rfl) ?_)
          exact fun w' hw' => ⟨rfl, hw'.res.nil⟩
      · refine e_skip ?_
        refine e_seq ?_
        refine e_region ?_
        refine w_val (v_loadBA 0 rfl Try.underlying70 rfl Try.hi70 (Try.cz70.trans hlz.symm) rfl) rfl ?_
        refine w_val (v_move rfl) rfl ?_
        refine w_op rfl ?_
        refine x_call0 (v := .tuple #[.pointer none, .int .i64 (roundFaultL r)]) rfl rfl rfl Try.call45 rfl (fun w hw => tabNew_bad s _ r w (hsr.mono hw.off) hs10 hf) ?_
        refine w_val (v_move rfl) rfl ?_
        refine w_val (v_extract rfl rfl) rfl ?_
        refine w_val (v_extract rfl rfl) rfl ?_
        refine w_val (v_assign rfl) rfl ?_
        refine w_val (v_assign rfl) rfl ?_
        refine w_nil ?_
        refine e_seq ?_
        refine e_seq ?_
        refine e_region ?_
        refine w_val (v_move rfl) rfl ?_
        refine w_val (v_is (v' := .bool true) (v_neq rfl rfl) (by rw [decide_eq_true hf])) rfl ?_
        refine w_val (v_move rfl) rfl ?_
        refine w_skip rfl rfl rfl rfl ?_
        refine w_skip rfl rfl rfl rfl ?_
        refine w_val (v_pickT rfl rfl) rfl ?_
        refine w_nil ?_
        refine e_condT rfl ?_
        refine e_seq ?_
        refine e_region ?_
        refine w_val (v_assign rfl) rfl ?_
        refine w_nil ?_
        refine e_retQ (q_ret1 rfl (.tmp rfl) ?_)
        exact fun w' hw' => ⟨rfl, hw'.res.nil⟩
end Go.SL

