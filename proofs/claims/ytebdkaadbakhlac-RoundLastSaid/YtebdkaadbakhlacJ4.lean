/- Ytebdkaadbakhlac: part J4 of this seat's own texts. -/
import Derived.Test.YtebdkaadbakhlacJ3
set_option linter.unusedVariables false
set_option linter.unusedSimpArgs false

open Go Go.Proofs Go.SL
set_option maxRecDepth 100000
set_option maxHeartbeats 4000000
namespace Go.SL
theorem state_at {s : List Int} (h : s.length = 10) {k : Int} (hk : 0 ≤ k ∧ k < 10) : (intCells s)[0 + k.toNat * 1]? = some (.int .i64 (gt s k)) := by
  have : k.toNat < s.length := by omega
  simp [intCells, gt, List.getD, this]
theorem state_gt {T : TabL} {k : Int} (hk : 0 ≤ k ∧ k < 10) : gt (stateT T) k = valL (T k.toNat) := by
  unfold gt stateT
  rw [List.getD_eq_getElem?_getD, tab_get (by omega)]
  rfl
theorem own_slot {w : World} {ad : Addr} {n k e : Nat} {a : List SlotL} (h : (Own (.slice (some ad) n k) e 4 n (slotCells a)).holds w) (hl : a.length = n) {i : Nat} (hi : i < a.length) {j : Nat} {v : Value} (hj : (slotC a[i])[j]? = some v) : w.cell? ((ad.add (((i : Nat) : Int).toNat * 4)).add j) = some v := by
  obtain ⟨A, k', he, _, _, hc⟩ := own_rds h
  injection he with e1
  subst e1
  obtain ⟨ad', h1, h2⟩ := hc (by omega)
  injection h1 with h1
  subst h1
  rw [add_add, Int.toNat_natCast]
  exact h2 _ _ (slotCells_at a i _ (List.getElem?_eq_getElem hi) j v hj)
theorem valL_take {l : List SlotL} {i : Nat} (h : i < l.length) : valL (l.take (i + 1)) = valStep (valL (l.take i)) l[i] := by
  rw [List.take_succ_eq_append_getElem h, valL_snoc]
theorem RoundLast_spec (s : List Int) (v vp : Value) (r : RoundL) (p : List Int) (k : Int) (w : World) (h : IsRound w.cell? v r) (hb : ∀ d ∈ r, d.length ≤ 4398046511104) (hs10 : s.length = 10) (hp : IsInts w.cell? vp p) :
    Calls Try.prog 6 #[intsV s, v, vp, .int .i64 k] w fun e w' => e = .returned (.bool true) ∧ Res w [] [] w' := by
  have hsr := h
  rw [← off_none w] at hsr hp
  obtain ⟨A, ka, rfl, hle, hvc⟩ := hsr.form
  obtain ⟨Ap, kp, rfl, hlep, hpc⟩ := hp.form
  have hlz : (intCells s).length = 10 := by rw [intCells, List.length_map]; exact hs10
  refine enter0 (N := 128) Try.func6 rfl rfl rfl ?_
  refine e_seq ?_
  refine e_region ?_
  refine w_op rfl ?_
  refine x_box rfl rfl (fun b4 => ?_)
  refine w_val (v_assign rfl) rfl ?_
  refine w_nil ?_
  refine e_seq ?_
  refine e_seq ?_
  refine e_region ?_
  refine w_op rfl ?_
  refine x_call0 (v := .bool true) rfl rfl rfl Try.call23 rfl (fun w hw => roundBegun_spec w) ?_
  refine w_val (v_not rfl) rfl ?_
  refine w_nil ?_
  refine e_condF rfl ?_
  by_cases hg : greatL r = true
  · refine e_skip ?_
    refine e_seq ?_
    refine e_seq ?_
    refine e_region ?_
    refine w_val (v_move rfl) rfl ?_
    refine w_op rfl ?_
    refine x_call0 (v := .bool true) rfl rfl rfl Try.call24 rfl (fun w hw => by have := great_spec _ r w (hsr.mono hw.off) hb; rwa [hg] at this) ?_
    refine w_val (v_move rfl) rfl ?_
    refine w_skip rfl rfl rfl rfl ?_
    refine w_skip rfl rfl rfl rfl ?_
    refine w_skip rfl rfl rfl rfl ?_
    refine w_val (v_pickT rfl rfl) rfl ?_
    refine w_val (v_move rfl) rfl ?_
    refine w_skip rfl rfl rfl rfl ?_
    refine w_skip rfl rfl rfl rfl ?_
    refine w_skip rfl rfl rfl rfl ?_
    refine w_val (v_pickT rfl rfl) rfl ?_
    refine w_nil ?_
    refine e_condT rfl ?_
    refine e_seq ?_
    refine e_region ?_
    refine w_val (v_assign rfl) rfl ?_
    refine w_nil ?_
    refine e_retQ (q_ret1 rfl (.tmp rfl) ?_)
    exact fun w' hw' => ⟨rfl, hw'.res.nil⟩
  · have hg : greatL r = false := by cases h : greatL r with | true => exact absurd h hg | false => rfl
    by_cases h300 : 300 < p.length
    · refine e_skip ?_
      refine e_seq ?_
      refine e_seq ?_
      refine e_region ?_
      refine w_val (v_move rfl) rfl ?_
      refine w_op rfl ?_
      refine x_call0 (v := .bool false) rfl rfl rfl Try.call24 rfl (fun w hw => by have := great_spec _ r w (hsr.mono hw.off) hb; rwa [hg] at this) ?_
      refine w_val (v_move rfl) rfl ?_
      refine w_want rfl rfl ?_
      refine w_val (v_move rfl) rfl ?_
      refine w_want rfl rfl ?_
      refine w_val (v_lenS Try.underlying51 rfl) rfl ?_
      refine w_want rfl rfl ?_
      refine w_val (v_is (v' := .bool true) (v_gtr rfl rfl) (by rw [decide_eq_true (by omega)])) rfl ?_
      refine w_val (v_pickF rfl rfl) rfl ?_
      refine w_val (v_move rfl) rfl ?_
      refine w_skip rfl rfl rfl rfl ?_
      refine w_skip rfl rfl rfl rfl ?_
      refine w_skip rfl rfl rfl rfl ?_
      refine w_val (v_pickT rfl rfl) rfl ?_
      refine w_nil ?_
      refine e_condT rfl ?_
      refine e_seq ?_
      refine e_region ?_
      refine w_val (v_assign rfl) rfl ?_
      refine w_nil ?_
      refine e_retQ (q_ret1 rfl (.tmp rfl) ?_)
      exact fun w' hw' => ⟨rfl, hw'.res.nil⟩
    · by_cases hk : 0 ≤ k ∧ k < 10
      · by_cases hf : roundFaultL r = 0
        · obtain ⟨h8, hck⟩ := roundFault_ok hf
          have hzl := stAt_len (r := r) hs10 r.length
          have hrun := fun (w1 : World) (hl : Le (off w (feet [])) w1.cell?) => rdRun_ok s _ _ r p w1 (hsr.mono hl) hs10 (Rds.mono hl hp) hf (by omega)
          refine e_skip ?_
          refine e_seq ?_
          refine e_seq ?_
          refine e_region ?_
          refine w_val (v_move rfl) rfl ?_
          refine w_op rfl ?_
          refine x_call0 (v := .bool false) rfl rfl rfl Try.call24 rfl (fun w hw => by have := great_spec _ r w (hsr.mono hw.off) hb; rwa [hg] at this) ?_
          refine w_val (v_move rfl) rfl ?_
          refine w_want rfl rfl ?_
          refine w_val (v_move rfl) rfl ?_
          refine w_want rfl rfl ?_
          refine w_val (v_lenS Try.underlying51 rfl) rfl ?_
          refine w_want rfl rfl ?_
          refine w_val (v_is (v' := .bool false) (v_gtr rfl rfl) (by rw [decide_eq_false (by omega)])) rfl ?_
          refine w_val (v_pickF rfl rfl) rfl ?_
          refine w_val (v_move rfl) rfl ?_
          refine w_want rfl rfl ?_
          refine w_val (v_move rfl) rfl ?_
          refine w_want rfl rfl ?_
          refine w_op rfl ?_
          refine x_call0 (v := .bool true) rfl rfl rfl Try.call36 rfl (fun w hw => by have := isKey_spec k w; rwa [decide_eq_true hk] at this) ?_
          refine w_want rfl rfl ?_
          refine w_val (v_not rfl) rfl ?_
          refine w_val (v_pickF rfl rfl) rfl ?_
          refine w_nil ?_
          refine e_condF rfl ?_
          refine e_skip ?_
          refine e_seq ?_
          refine e_region ?_
          refine w_val (v_loadBA 0 rfl Try.underlying23 rfl Try.hi23 (Try.cz23.trans hlz.symm) rfl) rfl ?_
          refine w_val (v_move rfl) rfl ?_
          refine w_val (v_move rfl) rfl ?_
          refine w_op rfl ?_
          refine x_call (dst := some 40) (mc := []) (σ := Option Addr × Nat) (fun x => r.length ≤ x.2) (fun x => .tuple #[intsV (stAt s r r.length), .slice x.1 r.length r.length, .int .i64 0]) (fun x => [Own (.slice x.1 r.length x.2) 30 5 r.length (resL (resAll s r))]) rfl rfl rfl Try.call29 (fun w hw => hrun w hw.off) rfl (fun x hx => ?_); obtain ⟨A1, k1⟩ := x; dsimp only at hx; dsimp only
          refine w_val (v_move rfl) rfl ?_
          refine w_val (v_extract rfl rfl) rfl ?_
          refine w_val (v_extract rfl rfl) rfl ?_
          refine w_val (v_extract rfl rfl) rfl ?_
          refine w_op rfl ?_
          refine x_alloc (z := .agg #[.int .i64 0, .int .i64 0, .int .i64 0, .int .i64 0, .int .i64 0, .int .i64 0, .int .i64 0, .int .i64 0, .int .i64 0, .int .i64 0]) (by intro w; exact Try.zeroValue23 w) rfl (fun b9 => ?_)
          refine w_op rfl ?_
          refine x_storeA 0 rfl rfl rfl Try.hi23 (Try.cz23.trans (by simp [Value.cells, intsV, resCells, intCells, hs10, hzl])) (by simp [Value.cells, intsV, resCells, intCells, hs10, hzl]) (by first | exact one_intCells _ | exact one_resCells _ _) ?_
          refine w_val (v_assign rfl) rfl ?_
          refine w_val (v_assign rfl) rfl ?_
          refine w_nil ?_
          refine e_seq ?_
          refine e_seq ?_
          refine e_region ?_
          refine w_val (v_move rfl) rfl ?_
          refine w_val (v_is (v' := .bool false) (v_neq rfl rfl) (by rfl)) rfl ?_
          refine w_nil ?_
          refine e_condF rfl ?_
          refine e_skip ?_
          refine e_seq ?_
          refine e_region ?_
          refine w_val (v_move rfl) rfl ?_
          refine w_val (v_indexAB Try.underlying23 Try.hi2 Try.cz2 rfl rfl (by first | omega | decide)) rfl ?_
          refine w_val (v_loadB 2 rfl Try.underlying2 rfl rfl (state_at hs10 hk)) rfl ?_
          refine w_val (v_assign rfl) rfl ?_
          refine w_nil ?_
          refine e_seq ?_
          refine e_region ?_
          refine w_val (v_loadBA 2 rfl Try.underlying23 rfl Try.hi23 (Try.cz23.trans (by simp [Value.cells, intsV, resCells, intCells, hs10, hzl])) rfl) rfl ?_
          refine w_op rfl ?_
          refine x_alloc (z := .agg #[.int .i64 0, .int .i64 0, .int .i64 0, .int .i64 0, .int .i64 0, .int .i64 0, .int .i64 0, .int .i64 0, .int .i64 0, .int .i64 0]) (by intro w; exact Try.zeroValue23 w) rfl (fun b13 => ?_)
          refine w_op rfl ?_
          refine x_storeA 0 rfl rfl rfl Try.hi23 (Try.cz23.trans (by simp [Value.cells, intsV, resCells, intCells, hs10, hzl])) (by simp [Value.cells, intsV, resCells, intCells, hs10, hzl]) (by first | exact one_intCells _ | exact one_resCells _ _) ?_
          refine w_nil ?_
          refine e_seq ?_
          refine e_seq ?_
          refine e_region ?_
          refine w_val (v_assign rfl) rfl ?_
          refine w_nil ?_
          refine e_block ?_
          refine e_loopH (σ := Nat) [1, 3, 4, 9, 13] (.cons rfl (.cons rfl (.cons rfl (.cons rfl (.cons rfl .nil))))) (fun i => [(12, .int .i64 (gt (stAt s r i) k)), (14, .int .i64 (i : Int))]) (fun i => [.blk b13 23 (intCells (stAt s r i)), .blk b9 23 (intCells (stAt s r r.length)), .blk b4 23 (intCells s)]) (fun i => i ≤ r.length) (fun i => r.length - i) 0 (Nat.zero_le _) (by repeat (first | exact Sub.nil _ | refine Sub.cons rfl ?_)) (fun _ hw => hw.pick [0, 1, 3] (by decide)) ?_
          rintro j hj
          dsimp only at hj ⊢
          have hz2 := stAt_len (r := r) hs10 j
          refine e_seq ?_
          refine e_seq ?_
          refine e_region ?_
          refine w_val (v_move rfl) rfl ?_
          refine w_val (v_move rfl) rfl ?_
          refine w_val (v_lenS Try.underlying38 rfl) rfl ?_
          refine w_val (v_lss rfl rfl) rfl ?_
          refine w_nil ?_
          refine e_condD rfl (fun hlt => ?_) (fun hlt => ?_)
          · have hj' : j < r.length := by omega
            obtain ⟨ad, u, rfl, hcell, hud⟩ := hvc j hj'
            have hgd : r.getD j [] = r[j] := by simp [List.getD, hj']
            have hckj := hck _ (List.getElem_mem hj')
            have hcall := fun (w1 : World) (hl : Le (off w (feet [])) w1.cell?) => refDo_spec (stAt s r j) u r[j] w1 (hud.mono hl) hz2 hckj
            have hdo : doL arithL (stAt s r j) r[j] = (stAt s r (j + 1), rsAt s r j) := by rw [← hgd]; rfl
            have hrl : (rsAt s r j).2.length = 4 := (do_len (stAt_len hs10 j)).2
            have hx10 := stAt_len (r := r) hs10 (j + 1)
            rw [hdo] at hcall
            dsimp only at hcall
            generalize hxx : stAt s r (j + 1) = x at *
            generalize rsAt s r j = cg at *
            obtain ⟨c, g⟩ := cg
            dsimp only at hrl hcall
            refine e_skip ?_
            refine e_seq ?_
            refine e_block ?_
            refine e_seq ?_
            refine e_cutH (σ := Nat × Nat) [1, 3, 4, 9, 13, 14] (.cons rfl (.cons rfl (.cons rfl (.cons rfl (.cons rfl (.cons rfl .nil)))))) (fun y => [(15, .pointer (some ⟨y.1, 0, none⟩)), (16, .pointer (some ⟨y.2, 0, none⟩))]) (fun y => [.blk y.1 23 (intCells x), .blk y.2 30 (resCells c g), .blk b13 23 (intCells (stAt s r j)), .blk b9 23 (intCells (stAt s r r.length)), .blk b4 23 (intCells s)]) (fun _ => True) ?_ ?_
            · refine e_draw ([.blk b13 23 (intCells (stAt s r j))]) Try.mixed ?_
              refine a_take 0 pan_cx (by kernel_rfl) (fun _ hw => hw.sub (by repeat (first | exact List.Sublist.slnil | exact List.Sublist.refl _ | apply List.Sublist.cons_cons | apply List.Sublist.cons))) rfl (by kernel_rfl) (by kernel_rfl) (v_loadBA 0 rfl Try.underlying23 rfl Try.hi23 (Try.cz23.trans (by simp [Value.cells, intsV, resCells, intCells, hz2, hx10, hrl])) rfl) rfl ?_
              refine a_take 1 pan_cx (by kernel_rfl) (fun _ hw => hw.sub (by repeat (first | exact List.Sublist.slnil | exact List.Sublist.refl _ | apply List.Sublist.cons_cons | apply List.Sublist.cons))) rfl (by kernel_rfl) (by kernel_rfl) (v_move rfl) rfl ?_
              refine a_take 2 pan_cx (by kernel_rfl) (fun _ hw => hw.sub (by repeat (first | exact List.Sublist.slnil | exact List.Sublist.refl _ | apply List.Sublist.cons_cons | apply List.Sublist.cons))) rfl (by kernel_rfl) (by kernel_rfl) (v_move rfl) rfl ?_
              refine a_take 3 pan_cx (by kernel_rfl) (fun _ hw => hw.sub (by repeat (first | exact List.Sublist.slnil | exact List.Sublist.refl _ | apply List.Sublist.cons_cons | apply List.Sublist.cons))) rfl (by kernel_rfl) (by kernel_rfl) (v_indexS Try.underlying38 Try.hi25 Try.cz25 rfl rfl (by first | omega | decide)) rfl ?_
              refine a_take 4 pan_cx (by kernel_rfl) (fun _ hw => hw.sub (by repeat (first | exact List.Sublist.slnil | exact List.Sublist.refl _ | apply List.Sublist.cons_cons | apply List.Sublist.cons))) rfl (by kernel_rfl) (by kernel_rfl) (v_loadO Try.underlying25 rfl rfl (hcell)) rfl ?_
              refine a_all [5, 9, 10] (by kernel_rfl) rfl ?_
              intro i hi
              simp only [List.mem_cons, List.not_mem_nil, or_false] at hi
              rcases hi with rfl | rfl | rfl
              · refine a_op rfl rfl ?_
                refine x_call0 (v := .tuple #[intsV x, .agg (resCells c g).toArray]) rfl rfl rfl Try.call37 rfl (fun w hw => hcall w hw.off) ?_
                refine a_and (fun _ hw => hw.sub (by repeat (first | exact List.Sublist.slnil | exact List.Sublist.refl _ | apply List.Sublist.cons_cons | apply List.Sublist.cons))) ?_
                refine a_take 6 pan_cx (by kernel_rfl) (fun _ hw => hw.sub (by repeat (first | exact List.Sublist.slnil | exact List.Sublist.refl _ | apply List.Sublist.cons_cons | apply List.Sublist.cons))) rfl (by kernel_rfl) (by kernel_rfl) (v_move rfl) rfl ?_
                refine a_take 7 pan_cx (by kernel_rfl) (fun _ hw => hw.sub (by repeat (first | exact List.Sublist.slnil | exact List.Sublist.refl _ | apply List.Sublist.cons_cons | apply List.Sublist.cons))) rfl (by kernel_rfl) (by kernel_rfl) (v_extract rfl rfl) rfl ?_
                refine a_take 8 pan_cx (by kernel_rfl) (fun _ hw => hw.sub (by repeat (first | exact List.Sublist.slnil | exact List.Sublist.refl _ | apply List.Sublist.cons_cons | apply List.Sublist.cons))) rfl (by kernel_rfl) (by kernel_rfl) (v_extract rfl rfl) rfl ?_
                refine a_all [9, 10] (by kernel_rfl) rfl ?_
                intro i hi
                simp only [List.mem_cons, List.not_mem_nil, or_false] at hi
                rcases hi with rfl | rfl
                · refine a_op rfl rfl ?_
                  refine x_alloc (z := .agg #[.int .i64 0, .int .i64 0, .int .i64 0, .int .i64 0, .int .i64 0, .int .i64 0, .int .i64 0, .int .i64 0, .int .i64 0, .int .i64 0]) (by intro w; exact Try.zeroValue23 w) rfl (fun b15 => ?_)
                  refine a_and (fun _ hw => hw.sub (by repeat (first | exact List.Sublist.slnil | exact List.Sublist.refl _ | apply List.Sublist.cons_cons | apply List.Sublist.cons))) ?_
                  refine a_one 10 (by kernel_rfl) rfl rfl ?_
                  refine x_alloc (z := .agg #[.int .i64 0, .int .i64 0, .int .i64 0, .int .i64 0, .int .i64 0]) (by intro w; exact Try.zeroValue30 w) rfl (fun b16 => ?_)
                  refine a_and (fun _ hw => hw.sub (by repeat (first | exact List.Sublist.slnil | exact List.Sublist.refl _ | apply List.Sublist.cons_cons | apply List.Sublist.cons))) ?_
                  refine a_one 11 (by kernel_rfl) rfl rfl ?_
                  refine x_storeA 1 rfl rfl rfl Try.hi23 (Try.cz23.trans (by simp [Value.cells, intsV, resCells, intCells, hz2, hx10, hrl])) (by simp [Value.cells, intsV, resCells, intCells, hz2, hx10, hrl]) (by first | exact one_intCells _ | exact one_resCells _ _) ?_
                  refine a_and (fun _ hw => hw.sub (by repeat (first | exact List.Sublist.slnil | exact List.Sublist.refl _ | apply List.Sublist.cons_cons | apply List.Sublist.cons))) ?_
                  refine a_one 12 (by kernel_rfl) rfl rfl ?_
                  refine x_storeA 0 rfl rfl rfl Try.hi30 (Try.cz30.trans (by simp [Value.cells, intsV, resCells, intCells, hz2, hx10, hrl])) (by simp [Value.cells, intsV, resCells, intCells, hz2, hx10, hrl]) (by first | exact one_intCells _ | exact one_resCells _ _) ?_
                  refine a_and (fun _ hw => hw.sub (by repeat (first | exact List.Sublist.slnil | exact List.Sublist.refl _ | apply List.Sublist.cons_cons | apply List.Sublist.cons))) ?_
                  refine a_done (by kernel_rfl) ?_
                  exact e_cutEnd (b15, b16) trivial (by repeat (first | exact Sub.nil _ | refine Sub.cons rfl ?_)) (fun _ hw => by first | exact hw | exact hw.perm (.swap _ _ _))
                · refine a_op rfl rfl ?_
                  refine x_alloc (z := .agg #[.int .i64 0, .int .i64 0, .int .i64 0, .int .i64 0, .int .i64 0]) (by intro w; exact Try.zeroValue30 w) rfl (fun b16 => ?_)
                  refine a_and (fun _ hw => hw.sub (by repeat (first | exact List.Sublist.slnil | exact List.Sublist.refl _ | apply List.Sublist.cons_cons | apply List.Sublist.cons))) ?_
                  refine a_one 9 (by kernel_rfl) rfl rfl ?_
                  refine x_alloc (z := .agg #[.int .i64 0, .int .i64 0, .int .i64 0, .int .i64 0, .int .i64 0, .int .i64 0, .int .i64 0, .int .i64 0, .int .i64 0, .int .i64 0]) (by intro w; exact Try.zeroValue23 w) rfl (fun b15 => ?_)
                  refine a_and (fun _ hw => hw.sub (by repeat (first | exact List.Sublist.slnil | exact List.Sublist.refl _ | apply List.Sublist.cons_cons | apply List.Sublist.cons))) ?_
                  refine a_one 11 (by kernel_rfl) rfl rfl ?_
                  refine x_storeA 0 rfl rfl rfl Try.hi23 (Try.cz23.trans (by simp [Value.cells, intsV, resCells, intCells, hz2, hx10, hrl])) (by simp [Value.cells, intsV, resCells, intCells, hz2, hx10, hrl]) (by first | exact one_intCells _ | exact one_resCells _ _) ?_
                  refine a_and (fun _ hw => hw.sub (by repeat (first | exact List.Sublist.slnil | exact List.Sublist.refl _ | apply List.Sublist.cons_cons | apply List.Sublist.cons))) ?_
                  refine a_one 12 (by kernel_rfl) rfl rfl ?_
                  refine x_storeA 1 rfl rfl rfl Try.hi30 (Try.cz30.trans (by simp [Value.cells, intsV, resCells, intCells, hz2, hx10, hrl])) (by simp [Value.cells, intsV, resCells, intCells, hz2, hx10, hrl]) (by first | exact one_intCells _ | exact one_resCells _ _) ?_
                  refine a_and (fun _ hw => hw.sub (by repeat (first | exact List.Sublist.slnil | exact List.Sublist.refl _ | apply List.Sublist.cons_cons | apply List.Sublist.cons))) ?_
                  refine a_done (by kernel_rfl) ?_
                  exact e_cutEnd (b15, b16) trivial (by repeat (first | exact Sub.nil _ | refine Sub.cons rfl ?_)) (fun _ hw => by first | exact hw | exact hw.perm (.swap _ _ _))
              · refine a_op rfl rfl ?_
                refine x_alloc (z := .agg #[.int .i64 0, .int .i64 0, .int .i64 0, .int .i64 0, .int .i64 0, .int .i64 0, .int .i64 0, .int .i64 0, .int .i64 0, .int .i64 0]) (by intro w; exact Try.zeroValue23 w) rfl (fun b15 => ?_)
                refine a_and (fun _ hw => hw.sub (by repeat (first | exact List.Sublist.slnil | exact List.Sublist.refl _ | apply List.Sublist.cons_cons | apply List.Sublist.cons))) ?_
                refine a_all [5, 10] (by kernel_rfl) rfl ?_
                intro i hi
                simp only [List.mem_cons, List.not_mem_nil, or_false] at hi
                rcases hi with rfl | rfl
                · refine a_op rfl rfl ?_
                  refine x_call0 (v := .tuple #[intsV x, .agg (resCells c g).toArray]) rfl rfl rfl Try.call37 rfl (fun w hw => hcall w hw.off) ?_
                  refine a_and (fun _ hw => hw.sub (by repeat (first | exact List.Sublist.slnil | exact List.Sublist.refl _ | apply List.Sublist.cons_cons | apply List.Sublist.cons))) ?_
                  refine a_take 6 pan_cx (by kernel_rfl) (fun _ hw => hw.sub (by repeat (first | exact List.Sublist.slnil | exact List.Sublist.refl _ | apply List.Sublist.cons_cons | apply List.Sublist.cons))) rfl (by kernel_rfl) (by kernel_rfl) (v_move rfl) rfl ?_
                  refine a_take 7 pan_cx (by kernel_rfl) (fun _ hw => hw.sub (by repeat (first | exact List.Sublist.slnil | exact List.Sublist.refl _ | apply List.Sublist.cons_cons | apply List.Sublist.cons))) rfl (by kernel_rfl) (by kernel_rfl) (v_extract rfl rfl) rfl ?_
                  refine a_take 8 pan_cx (by kernel_rfl) (fun _ hw => hw.sub (by repeat (first | exact List.Sublist.slnil | exact List.Sublist.refl _ | apply List.Sublist.cons_cons | apply List.Sublist.cons))) rfl (by kernel_rfl) (by kernel_rfl) (v_extract rfl rfl) rfl ?_
                  refine a_one 10 (by kernel_rfl) rfl rfl ?_
                  refine x_alloc (z := .agg #[.int .i64 0, .int .i64 0, .int .i64 0, .int .i64 0, .int .i64 0]) (by intro w; exact Try.zeroValue30 w) rfl (fun b16 => ?_)
                  refine a_and (fun _ hw => hw.sub (by repeat (first | exact List.Sublist.slnil | exact List.Sublist.refl _ | apply List.Sublist.cons_cons | apply List.Sublist.cons))) ?_
                  refine a_one 11 (by kernel_rfl) rfl rfl ?_
                  refine x_storeA 1 rfl rfl rfl Try.hi23 (Try.cz23.trans (by simp [Value.cells, intsV, resCells, intCells, hz2, hx10, hrl])) (by simp [Value.cells, intsV, resCells, intCells, hz2, hx10, hrl]) (by first | exact one_intCells _ | exact one_resCells _ _) ?_
                  refine a_and (fun _ hw => hw.sub (by repeat (first | exact List.Sublist.slnil | exact List.Sublist.refl _ | apply List.Sublist.cons_cons | apply List.Sublist.cons))) ?_
                  refine a_one 12 (by kernel_rfl) rfl rfl ?_
                  refine x_storeA 0 rfl rfl rfl Try.hi30 (Try.cz30.trans (by simp [Value.cells, intsV, resCells, intCells, hz2, hx10, hrl])) (by simp [Value.cells, intsV, resCells, intCells, hz2, hx10, hrl]) (by first | exact one_intCells _ | exact one_resCells _ _) ?_
                  refine a_and (fun _ hw => hw.sub (by repeat (first | exact List.Sublist.slnil | exact List.Sublist.refl _ | apply List.Sublist.cons_cons | apply List.Sublist.cons))) ?_
                  refine a_done (by kernel_rfl) ?_
                  exact e_cutEnd (b15, b16) trivial (by repeat (first | exact Sub.nil _ | refine Sub.cons rfl ?_)) (fun _ hw => by first | exact hw | exact hw.perm (.swap _ _ _))
                · refine a_op rfl rfl ?_
                  refine x_alloc (z := .agg #[.int .i64 0, .int .i64 0, .int .i64 0, .int .i64 0, .int .i64 0]) (by intro w; exact Try.zeroValue30 w) rfl (fun b16 => ?_)
                  refine a_and (fun _ hw => hw.sub (by repeat (first | exact List.Sublist.slnil | exact List.Sublist.refl _ | apply List.Sublist.cons_cons | apply List.Sublist.cons))) ?_
                  refine a_one 5 (by kernel_rfl) rfl rfl ?_
                  refine x_call0 (v := .tuple #[intsV x, .agg (resCells c g).toArray]) rfl rfl rfl Try.call37 rfl (fun w hw => hcall w hw.off) ?_
                  refine a_and (fun _ hw => hw.sub (by repeat (first | exact List.Sublist.slnil | exact List.Sublist.refl _ | apply List.Sublist.cons_cons | apply List.Sublist.cons))) ?_
                  refine a_take 6 pan_cx (by kernel_rfl) (fun _ hw => hw.sub (by repeat (first | exact List.Sublist.slnil | exact List.Sublist.refl _ | apply List.Sublist.cons_cons | apply List.Sublist.cons))) rfl (by kernel_rfl) (by kernel_rfl) (v_move rfl) rfl ?_
                  refine a_take 7 pan_cx (by kernel_rfl) (fun _ hw => hw.sub (by repeat (first | exact List.Sublist.slnil | exact List.Sublist.refl _ | apply List.Sublist.cons_cons | apply List.Sublist.cons))) rfl (by kernel_rfl) (by kernel_rfl) (v_extract rfl rfl) rfl ?_
                  refine a_take 8 pan_cx (by kernel_rfl) (fun _ hw => hw.sub (by repeat (first | exact List.Sublist.slnil | exact List.Sublist.refl _ | apply List.Sublist.cons_cons | apply List.Sublist.cons))) rfl (by kernel_rfl) (by kernel_rfl) (v_extract rfl rfl) rfl ?_
                  refine a_one 11 (by kernel_rfl) rfl rfl ?_
                  refine x_storeA 1 rfl rfl rfl Try.hi23 (Try.cz23.trans (by simp [Value.cells, intsV, resCells, intCells, hz2, hx10, hrl])) (by simp [Value.cells, intsV, resCells, intCells, hz2, hx10, hrl]) (by first | exact one_intCells _ | exact one_resCells _ _) ?_
                  refine a_and (fun _ hw => hw.sub (by repeat (first | exact List.Sublist.slnil | exact List.Sublist.refl _ | apply List.Sublist.cons_cons | apply List.Sublist.cons))) ?_
                  refine a_one 12 (by kernel_rfl) rfl rfl ?_
                  refine x_storeA 0 rfl rfl rfl Try.hi30 (Try.cz30.trans (by simp [Value.cells, intsV, resCells, intCells, hz2, hx10, hrl])) (by simp [Value.cells, intsV, resCells, intCells, hz2, hx10, hrl]) (by first | exact one_intCells _ | exact one_resCells _ _) ?_
                  refine a_and (fun _ hw => hw.sub (by repeat (first | exact List.Sublist.slnil | exact List.Sublist.refl _ | apply List.Sublist.cons_cons | apply List.Sublist.cons))) ?_
                  refine a_done (by kernel_rfl) ?_
                  exact e_cutEnd (b15, b16) trivial (by repeat (first | exact Sub.nil _ | refine Sub.cons rfl ?_)) (fun _ hw => by first | exact hw | exact hw.perm (.swap _ _ _))
              · refine a_op rfl rfl ?_
                refine x_alloc (z := .agg #[.int .i64 0, .int .i64 0, .int .i64 0, .int .i64 0, .int .i64 0]) (by intro w; exact Try.zeroValue30 w) rfl (fun b16 => ?_)
                refine a_and (fun _ hw => hw.sub (by repeat (first | exact List.Sublist.slnil | exact List.Sublist.refl _ | apply List.Sublist.cons_cons | apply List.Sublist.cons))) ?_
                refine a_all [5, 9] (by kernel_rfl) rfl ?_
                intro i hi
                simp only [List.mem_cons, List.not_mem_nil, or_false] at hi
                rcases hi with rfl | rfl
                · refine a_op rfl rfl ?_
                  refine x_call0 (v := .tuple #[intsV x, .agg (resCells c g).toArray]) rfl rfl rfl Try.call37 rfl (fun w hw => hcall w hw.off) ?_
                  refine a_and (fun _ hw => hw.sub (by repeat (first | exact List.Sublist.slnil | exact List.Sublist.refl _ | apply List.Sublist.cons_cons | apply List.Sublist.cons))) ?_
                  refine a_take 6 pan_cx (by kernel_rfl) (fun _ hw => hw.sub (by repeat (first | exact List.Sublist.slnil | exact List.Sublist.refl _ | apply List.Sublist.cons_cons | apply List.Sublist.cons))) rfl (by kernel_rfl) (by kernel_rfl) (v_move rfl) rfl ?_
                  refine a_take 7 pan_cx (by kernel_rfl) (fun _ hw => hw.sub (by repeat (first | exact List.Sublist.slnil | exact List.Sublist.refl _ | apply List.Sublist.cons_cons | apply List.Sublist.cons))) rfl (by kernel_rfl) (by kernel_rfl) (v_extract rfl rfl) rfl ?_
                  refine a_take 8 pan_cx (by kernel_rfl) (fun _ hw => hw.sub (by repeat (first | exact List.Sublist.slnil | exact List.Sublist.refl _ | apply List.Sublist.cons_cons | apply List.Sublist.cons))) rfl (by kernel_rfl) (by kernel_rfl) (v_extract rfl rfl) rfl ?_
                  refine a_one 9 (by kernel_rfl) rfl rfl ?_
                  refine x_alloc (z := .agg #[.int .i64 0, .int .i64 0, .int .i64 0, .int .i64 0, .int .i64 0, .int .i64 0, .int .i64 0, .int .i64 0, .int .i64 0, .int .i64 0]) (by intro w; exact Try.zeroValue23 w) rfl (fun b15 => ?_)
                  refine a_and (fun _ hw => hw.sub (by repeat (first | exact List.Sublist.slnil | exact List.Sublist.refl _ | apply List.Sublist.cons_cons | apply List.Sublist.cons))) ?_
                  refine a_one 11 (by kernel_rfl) rfl rfl ?_
                  refine x_storeA 0 rfl rfl rfl Try.hi23 (Try.cz23.trans (by simp [Value.cells, intsV, resCells, intCells, hz2, hx10, hrl])) (by simp [Value.cells, intsV, resCells, intCells, hz2, hx10, hrl]) (by first | exact one_intCells _ | exact one_resCells _ _) ?_
                  refine a_and (fun _ hw => hw.sub (by repeat (first | exact List.Sublist.slnil | exact List.Sublist.refl _ | apply List.Sublist.cons_cons | apply List.Sublist.cons))) ?_
                  refine a_one 12 (by kernel_rfl) rfl rfl ?_
                  refine x_storeA 1 rfl rfl rfl Try.hi30 (Try.cz30.trans (by simp [Value.cells, intsV, resCells, intCells, hz2, hx10, hrl])) (by simp [Value.cells, intsV, resCells, intCells, hz2, hx10, hrl]) (by first | exact one_intCells _ | exact one_resCells _ _) ?_
                  refine a_and (fun _ hw => hw.sub (by repeat (first | exact List.Sublist.slnil | exact List.Sublist.refl _ | apply List.Sublist.cons_cons | apply List.Sublist.cons))) ?_
                  refine a_done (by kernel_rfl) ?_
                  exact e_cutEnd (b15, b16) trivial (by repeat (first | exact Sub.nil _ | refine Sub.cons rfl ?_)) (fun _ hw => by first | exact hw | exact hw.perm (.swap _ _ _))
                · refine a_op rfl rfl ?_
                  refine x_alloc (z := .agg #[.int .i64 0, .int .i64 0, .int .i64 0, .int .i64 0, .int .i64 0, .int .i64 0, .int .i64 0, .int .i64 0, .int .i64 0, .int .i64 0]) (by intro w; exact Try.zeroValue23 w) rfl (fun b15 => ?_)
                  refine a_and (fun _ hw => hw.sub (by repeat (first | exact List.Sublist.slnil | exact List.Sublist.refl _ | apply List.Sublist.cons_cons | apply List.Sublist.cons))) ?_
                  refine a_one 5 (by kernel_rfl) rfl rfl ?_
                  refine x_call0 (v := .tuple #[intsV x, .agg (resCells c g).toArray]) rfl rfl rfl Try.call37 rfl (fun w hw => hcall w hw.off) ?_
                  refine a_and (fun _ hw => hw.sub (by repeat (first | exact List.Sublist.slnil | exact List.Sublist.refl _ | apply List.Sublist.cons_cons | apply List.Sublist.cons))) ?_
                  refine a_take 6 pan_cx (by kernel_rfl) (fun _ hw => hw.sub (by repeat (first | exact List.Sublist.slnil | exact List.Sublist.refl _ | apply List.Sublist.cons_cons | apply List.Sublist.cons))) rfl (by kernel_rfl) (by kernel_rfl) (v_move rfl) rfl ?_
                  refine a_take 7 pan_cx (by kernel_rfl) (fun _ hw => hw.sub (by repeat (first | exact List.Sublist.slnil | exact List.Sublist.refl _ | apply List.Sublist.cons_cons | apply List.Sublist.cons))) rfl (by kernel_rfl) (by kernel_rfl) (v_extract rfl rfl) rfl ?_
                  refine a_take 8 pan_cx (by kernel_rfl) (fun _ hw => hw.sub (by repeat (first | exact List.Sublist.slnil | exact List.Sublist.refl _ | apply List.Sublist.cons_cons | apply List.Sublist.cons))) rfl (by kernel_rfl) (by kernel_rfl) (v_extract rfl rfl) rfl ?_
                  refine a_one 11 (by kernel_rfl) rfl rfl ?_
                  refine x_storeA 0 rfl rfl rfl Try.hi23 (Try.cz23.trans (by simp [Value.cells, intsV, resCells, intCells, hz2, hx10, hrl])) (by simp [Value.cells, intsV, resCells, intCells, hz2, hx10, hrl]) (by first | exact one_intCells _ | exact one_resCells _ _) ?_
                  refine a_and (fun _ hw => hw.sub (by repeat (first | exact List.Sublist.slnil | exact List.Sublist.refl _ | apply List.Sublist.cons_cons | apply List.Sublist.cons))) ?_
                  refine a_one 12 (by kernel_rfl) rfl rfl ?_
                  refine x_storeA 1 rfl rfl rfl Try.hi30 (Try.cz30.trans (by simp [Value.cells, intsV, resCells, intCells, hz2, hx10, hrl])) (by simp [Value.cells, intsV, resCells, intCells, hz2, hx10, hrl]) (by first | exact one_intCells _ | exact one_resCells _ _) ?_
                  refine a_and (fun _ hw => hw.sub (by repeat (first | exact List.Sublist.slnil | exact List.Sublist.refl _ | apply List.Sublist.cons_cons | apply List.Sublist.cons))) ?_
                  refine a_done (by kernel_rfl) ?_
                  exact e_cutEnd (b15, b16) trivial (by repeat (first | exact Sub.nil _ | refine Sub.cons rfl ?_)) (fun _ hw => by first | exact hw | exact hw.perm (.swap _ _ _))
            · rintro ⟨b15, b16⟩ -
              dsimp only
              refine e_seq ?_
              refine e_region ?_
              refine w_val (v_loadBA 0 rfl Try.underlying23 rfl Try.hi23 (Try.cz23.trans (by rw [intCells, List.length_map, hx10])) rfl) rfl ?_
              refine w_op rfl ?_
              refine x_storeA 2 rfl rfl rfl Try.hi23 (Try.cz23.trans (by simp [Value.cells, intsV, resCells, intCells, hz2, hx10, hrl])) (by simp [Value.cells, intsV, resCells, intCells, hz2, hx10, hrl]) (by first | exact one_intCells _ | exact one_resCells _ _) ?_
              refine w_nil ?_
              refine e_region ?_
              refine w_val (v_move rfl) rfl ?_
              refine w_val (v_indexAB Try.underlying23 Try.hi2 Try.cz2 rfl rfl (by first | omega | decide)) rfl ?_
              refine w_val (v_loadB 2 rfl Try.underlying2 rfl rfl (state_at hx10 hk)) rfl ?_
              refine w_val (v_assign rfl) rfl ?_
              refine w_nil ?_
              refine e_blk ?_
              refine e_region ?_
              refine w_val (v_move rfl) rfl ?_
              refine w_val (v_add rfl rfl (by omega)) rfl ?_
              refine w_val (v_assign rfl) rfl ?_
              refine w_nil ?_
              subst hxx
              exact e_round (j + 1) (by omega) (by omega) (by repeat (first | exact Sub.nil _ | refine Sub.cons rfl ?_)) (fun _ hw => hw.pick [2, 3, 4] (by decide))
          · have e : j = r.length := by omega
            subst e
            refine e_exit rfl ?_
            refine e_seq ?_
            refine e_region ?_
            refine w_val (v_loadBA 2 rfl Try.underlying23 rfl Try.hi23 (Try.cz23.trans hlz.symm) rfl) rfl ?_
            refine w_val (v_move rfl) rfl ?_
            refine w_op rfl ?_
            refine x_call (dst := some 72) (mc := []) (σ := RdP) (fun _ => True) (fun y => .tuple #[.pointer (some ⟨y.pr, 0, none⟩), .int .i64 0]) (fun y => rnH y r.length (newP s r)) rfl rfl rfl Try.call31 (fun w hw => rdNew_ok s _ r w (hsr.mono hw.off) hs10 hf) rfl (fun y _ => ?_); obtain ⟨pr, pt, ht, pw, dvw, wv⟩ := y; dsimp only
            refine w_val (v_move rfl) rfl ?_
            refine w_val (v_extract rfl rfl) rfl ?_
            refine w_val (v_extract rfl rfl) rfl ?_
            refine w_val (v_assign rfl) rfl ?_
            refine w_val (v_assign rfl) rfl ?_
            refine w_nil ?_
            refine e_seq ?_
            refine e_seq ?_
            refine e_region ?_
            refine w_val (v_move rfl) rfl ?_
            refine w_val (v_is (v' := .bool false) (v_neq rfl rfl) (by rfl)) rfl ?_
            refine w_val (v_move rfl) rfl ?_
            refine w_want rfl rfl ?_
            refine w_val (v_move rfl) rfl ?_
            refine w_want rfl rfl ?_
            refine w_val (v_is (v' := .bool false) (v_eqlPtr Try.underlying62 rfl rfl) (by rfl)) rfl ?_
            refine w_val (v_pickF rfl rfl) rfl ?_
            refine w_nil ?_
            refine e_condF rfl ?_
            refine e_skip ?_
            refine e_seq ?_
            refine e_region ?_
            refine w_val (v_move rfl) rfl ?_
            refine w_op rfl ?_
            refine x_call (dst := some 82) (mc := rnH ⟨pr, pt, ht, pw, dvw, wv⟩ r.length (newP s r)) (mr := [.blk b13 23 (intCells (stAt s r r.length)), .blk b9 23 (intCells (stAt s r r.length)), .blk b4 23 (intCells s)]) (σ := RunS) (fun P' => InvR s r P'.1 P'.2 ∧ AllO r.length P'.1) (fun _ => .tuple #[]) (fun P' => rnH ⟨pr, pt, ht, pw, dvw, wv⟩ r.length P') rfl rfl rfl Try.call35 (fun w hw => rdFinish_spec s r ⟨pr, pt, ht, pw, dvw, wv⟩ (newP s r) w (res_part hw).1 (res_part hw).2 (inv_new hs10 hf)) rfl (fun P' hP' => ?_)
            refine w_nil ?_
            obtain ⟨hinv, ho⟩ := hP'
            have hst := (hinv.state ho).1
            have hval := state_gt (T := P'.2) hk
            rw [hst] at hval
            have htold := hinv.told ho k.toNat
            have hn := hinv.short
            have hlen := hinv.len k.toNat
            obtain ⟨l, hl⟩ := hinv.head k.toNat
            have hl0 : valL ((P'.2 k.toNat).take 1) = s.getD k.toNat 0 := by rw [hl]; rfl
            have h00 : (slotC (slot0 s k.toNat))[3]? = some (.int .i64 (s.getD k.toNat 0)) := rfl
            have hpos : 0 < (P'.2 k.toNat).length := by rw [hl]; simp
            have hz0 : (P'.2 k.toNat)[0] = slot0 s k.toNat := by simp only [hl, List.getElem_cons_zero]
            rw [← hz0] at h00
            refine e_seq ?_
            refine e_region ?_
            refine w_val (v_move rfl) rfl ?_
            refine w_val (v_nilCheck rfl) rfl ?_
            refine w_val (v_fieldAddrB (o := 0) Try.underlying70 rfl rfl Try.nz40 rfl) rfl ?_
            refine w_val (v_loadB 3 rfl Try.underlying40 rfl rfl rfl) rfl ?_
            refine w_val (v_move rfl) rfl ?_
            refine w_op rfl ?_
            refine x_call (dst := some 88) (mc := []) (σ := Value) (fun _ => True) (fun s => s) (fun sl => [Own sl 77 4 (P'.2 k.toNat).length (slotCells (P'.2 k.toNat))]) rfl rfl rfl Try.call38 (fun w hw => by have := tabSlots_spec pt ht P'.2 k w (hw.tbV 1 rfl rfl) hn; rwa [if_pos hk] at this) rfl (fun sl _ => ?_)
            refine g_heap (m' := [Own sl 77 4 (P'.2 k.toNat).length (slotCells (P'.2 k.toNat)), .blk b9 23 (intCells (stAt s r r.length))]) (fun _ hw => hw.pick [0, 7] (by decide)) ?_
            generalize P'.2 k.toNat = L at *
            refine g_shape2 0 rfl fun A3 k3 hv3 hk3 hA3 => ?_
            subst hv3
            obtain ⟨ad3, rfl⟩ := hA3 (by omega)
            refine w_val (v_assign rfl) rfl ?_
            refine w_nil ?_
            refine e_seq ?_
            refine e_seq ?_
            refine e_region ?_
            refine w_val (v_move rfl) rfl ?_
            refine w_val (v_lenS Try.underlying74 rfl) rfl ?_
            refine w_val (v_is (v' := .bool false) (v_eql rfl rfl) (by rw [decide_eq_false (by omega)])) rfl ?_
            refine w_nil ?_
            refine e_condF rfl ?_
            refine e_skip ?_
            refine e_seq ?_
            refine e_region ?_
            refine w_val (v_move rfl) rfl ?_
            refine w_val (v_indexS Try.underlying74 Try.hi77 Try.cz77 rfl rfl (by first | omega | decide)) rfl ?_
            refine w_val (v_fieldAddr (o := 3) Try.underlying77 rfl rfl Try.nz2 rfl) rfl ?_
            refine w_val (v_load1 Try.underlying2 rfl rfl (fun w hw => own_slot (i := 0) (hw.mem (i := 0) rfl) rfl hpos h00)) rfl ?_
            refine w_val (v_assign rfl) rfl ?_
            refine w_nil ?_
            refine e_seq ?_
            refine e_seq ?_
            refine e_region ?_
            refine w_val (v_assign rfl) rfl ?_
            refine w_nil ?_
            refine e_block ?_
            refine e_loopH (σ := Nat × Int) [3, 9, 12, 19] (.cons rfl (.cons rfl (.cons rfl (.cons rfl .nil)))) (fun x => [(20, .int .i64 x.2), (21, .int .i64 (x.1 : Int))]) (fun _ => [Own (.slice (some ad3) L.length k3) 77 4 L.length (slotCells L), .blk b9 23 (intCells (stAt s r r.length))]) (fun x => x.1 ≤ L.length ∧ x.2 = valL (L.take x.1)) (fun x => L.length - x.1) (1, s.getD k.toNat 0) ⟨hpos, hl0.symm⟩ (by repeat (first | exact Sub.nil _ | refine Sub.cons rfl ?_)) (fun _ hw => hw) ?_
            rintro ⟨i, n⟩ ⟨hi, hvn⟩
            dsimp only at hi hvn ⊢
            refine e_seq ?_
            refine e_seq ?_
            refine e_region ?_
            refine w_val (v_move rfl) rfl ?_
            refine w_val (v_move rfl) rfl ?_
            refine w_val (v_lenS Try.underlying74 rfl) rfl ?_
            refine w_val (v_lss rfl rfl) rfl ?_
            refine w_nil ?_
            refine e_condD rfl (fun hlt2 => ?_) (fun hlt2 => ?_)
            · have hi' : i < L.length := by omega
              have hvt := valL_take hi'
              have hop := htold _ (List.getElem_mem hi')
              have hc1 : (slotC L[i])[1]? = some (.bool L[i].opn) := rfl
              have hc2 : (slotC L[i])[2]? = some (.bool L[i].vd) := rfl
              have hc3 : (slotC L[i])[3]? = some (.int .i64 L[i].n) := rfl
              rw [val_step, hop] at hvt
              rw [hop] at hc1
              refine e_skip ?_
              refine e_seq ?_
              refine e_block ?_
              refine e_seq ?_
              refine e_seq ?_
              refine e_region ?_
              refine w_val (v_move rfl) rfl ?_
              refine w_val (v_move rfl) rfl ?_
              refine w_val (v_indexS Try.underlying74 Try.hi77 Try.cz77 rfl rfl (by first | omega | decide)) rfl ?_
              refine w_val (v_fieldAddr (o := 1) Try.underlying77 rfl rfl Try.nz4 rfl) rfl ?_
              refine w_val (v_load1 Try.underlying4 rfl rfl (fun w hw => own_slot (hw.mem (i := 0) rfl) rfl hi' hc1)) rfl ?_
              refine w_nil ?_
              refine e_condF rfl ?_
              refine e_skip ?_
              refine e_seq ?_
              refine e_region ?_
              refine w_val (v_move rfl) rfl ?_
              refine w_val (v_move rfl) rfl ?_
              refine w_val (v_indexS Try.underlying74 Try.hi77 Try.cz77 rfl rfl (by first | omega | decide)) rfl ?_
              refine w_val (v_fieldAddr (o := 2) Try.underlying77 rfl rfl Try.nz4 rfl) rfl ?_
              cases hvd : L[i].vd with
              | true =>
                rw [hvd] at hc2 hvt
                rw [if_neg (by simp)] at hvt
                refine w_val (v_load1 Try.underlying4 rfl rfl (fun w hw => own_slot (hw.mem (i := 0) rfl) rfl hi' hc2)) rfl ?_
                refine w_val (v_not rfl) rfl ?_
                refine w_nil ?_
                refine e_condF rfl ?_
                refine e_skip ?_
                refine e_blk ?_
                refine e_region ?_
                refine w_val (v_move rfl) rfl ?_
                refine w_val (v_add rfl rfl (by omega)) rfl ?_
                refine w_val (v_assign rfl) rfl ?_
                refine w_nil ?_
                exact e_round ((i + 1, n)) (⟨by dsimp only; omega, by dsimp only; rw [hvt]; exact hvn⟩) (by dsimp only; omega) (by repeat (first | exact Sub.nil _ | refine Sub.cons rfl ?_)) (fun _ hw => hw)
              | false =>
                rw [hvd] at hc2 hvt
                rw [if_pos ⟨rfl, rfl⟩] at hvt
                refine w_val (v_load1 Try.underlying4 rfl rfl (fun w hw => own_slot (hw.mem (i := 0) rfl) rfl hi' hc2)) rfl ?_
                refine w_val (v_not rfl) rfl ?_
                refine w_nil ?_
                refine e_condT rfl ?_
                refine e_region ?_
                refine w_val (v_move rfl) rfl ?_
                refine w_val (v_move rfl) rfl ?_
                refine w_val (v_indexS Try.underlying74 Try.hi77 Try.cz77 rfl rfl (by first | omega | decide)) rfl ?_
                refine w_val (v_fieldAddr (o := 3) Try.underlying77 rfl rfl Try.nz2 rfl) rfl ?_
                refine w_val (v_load1 Try.underlying2 rfl rfl (fun w hw => own_slot (hw.mem (i := 0) rfl) rfl hi' hc3)) rfl ?_
                refine w_val (v_assign rfl) rfl ?_
                refine w_nil ?_
                refine e_blk ?_
                refine e_region ?_
                refine w_val (v_move rfl) rfl ?_
                refine w_val (v_add rfl rfl (by omega)) rfl ?_
                refine w_val (v_assign rfl) rfl ?_
                refine w_nil ?_
                exact e_round ((i + 1, L[i].n)) (⟨by dsimp only; omega, hvt.symm⟩) (by dsimp only; omega) (by repeat (first | exact Sub.nil _ | refine Sub.cons rfl ?_)) (fun _ hw => hw)
            · have e : i = L.length := by omega
              subst e
              rw [List.take_length, ← hval] at hvn
              subst hvn
              refine e_exit rfl ?_
              refine e_seq ?_
              refine e_region ?_
              refine w_val (v_move rfl) rfl ?_
              refine w_val (v_indexAB Try.underlying23 Try.hi2 Try.cz2 rfl rfl (by first | omega | decide)) rfl ?_
              refine w_val (v_loadB 1 rfl Try.underlying2 rfl rfl (state_at hzl hk)) rfl ?_
              refine w_val (v_move rfl) rfl ?_
              refine w_val (v_is (v' := .bool true) (v_eql rfl rfl) (by rw [decide_eq_true rfl])) rfl ?_
              refine w_val (v_move rfl) rfl ?_
              refine w_want rfl rfl ?_
              refine w_val (v_move rfl) rfl ?_
              refine w_want rfl rfl ?_
              refine w_val (v_move rfl) rfl ?_
              refine w_want rfl rfl ?_
              refine w_val (v_is (v' := .bool true) (v_eql rfl rfl) (by rw [decide_eq_true rfl])) rfl ?_
              refine w_val (v_pickT rfl rfl) rfl ?_
              refine w_val (v_assign rfl) rfl ?_
              refine w_nil ?_
              refine e_retQ (q_ret1 rfl (.tmp rfl) ?_)
              exact fun w' hw' => ⟨rfl, hw'.res.nil⟩
        · have e : runC r p.length = roundFaultL r := by unfold runC; rw [if_pos hf]
          have hrun := fun (w1 : World) (hl : Le (off w (feet [])) w1.cell?) => rdRun_bad s _ _ r p w1 (hsr.mono hl) hs10 (Rds.mono hl hp) (by rw [e]; exact hf)
          rw [e] at hrun
          refine e_skip ?_
          refine e_seq ?_
          refine e_seq ?_
          refine e_region ?_
          refine w_val (v_move rfl) rfl ?_
          refine w_op rfl ?_
          refine x_call0 (v := .bool false) rfl rfl rfl Try.call24 rfl (fun w hw => by have := great_spec _ r w (hsr.mono hw.off) hb; rwa [hg] at this) ?_
          refine w_val (v_move rfl) rfl ?_
          refine w_want rfl rfl ?_
          refine w_val (v_move rfl) rfl ?_
          refine w_want rfl rfl ?_
          refine w_val (v_lenS Try.underlying51 rfl) rfl ?_
          refine w_want rfl rfl ?_
          refine w_val (v_is (v' := .bool false) (v_gtr rfl rfl) (by rw [decide_eq_false (by omega)])) rfl ?_
          refine w_val (v_pickF rfl rfl) rfl ?_
          refine w_val (v_move rfl) rfl ?_
          refine w_want rfl rfl ?_
          refine w_val (v_move rfl) rfl ?_
          refine w_want rfl rfl ?_
          refine w_op rfl ?_
          refine x_call0 (v := .bool true) rfl rfl rfl Try.call36 rfl (fun w hw => by have := isKey_spec k w; rwa [decide_eq_true hk] at this) ?_
          refine w_want rfl rfl ?_
          refine w_val (v_not rfl) rfl ?_
          refine w_val (v_pickF rfl rfl) rfl ?_
          refine w_nil ?_
          refine e_condF rfl ?_
          refine e_skip ?_
          refine e_seq ?_
          refine e_region ?_
          refine w_val (v_loadBA 0 rfl Try.underlying23 rfl Try.hi23 (Try.cz23.trans hlz.symm) rfl) rfl ?_
          refine w_val (v_move rfl) rfl ?_
          refine w_val (v_move rfl) rfl ?_
          refine w_op rfl ?_
          refine x_call0 (v := .tuple #[intsV zero10, .slice none 0 0, .int .i64 (roundFaultL r)]) rfl rfl rfl Try.call29 rfl (fun w hw => hrun w hw.off) ?_
          refine w_val (v_move rfl) rfl ?_
          refine w_val (v_extract rfl rfl) rfl ?_
          refine w_val (v_extract rfl rfl) rfl ?_
          refine w_val (v_extract rfl rfl) rfl ?_
          refine w_op rfl ?_
          refine x_alloc (z := .agg #[.int .i64 0, .int .i64 0, .int .i64 0, .int .i64 0, .int .i64 0, .int .i64 0, .int .i64 0, .int .i64 0, .int .i64 0, .int .i64 0]) (by intro w; exact Try.zeroValue23 w) rfl (fun b9 => ?_)
          refine w_op rfl ?_
          refine x_storeA 0 rfl rfl rfl Try.hi23 (Try.cz23.trans (by simp [Value.cells, intsV, resCells, intCells, hs10, zero10_len])) (by simp [Value.cells, intsV, resCells, intCells, hs10, zero10_len]) (by first | exact one_intCells _ | exact one_resCells _ _) ?_
          refine w_val (v_assign rfl) rfl ?_
          refine w_val (v_assign rfl) rfl ?_
          refine w_nil ?_
          refine e_seq ?_
          refine e_seq ?_
          refine e_region ?_
          refine w_val (v_move rfl) rfl ?_
          refine w_val (v_is (v' := .bool true) (v_neq rfl rfl) (by rw [decide_eq_true hf])) rfl ?_
          refine w_nil ?_
          refine e_condT rfl ?_
          refine e_seq ?_
          refine e_region ?_
          refine w_val (v_assign rfl) rfl ?_
          refine w_nil ?_
          refine e_retQ (q_ret1 rfl (.tmp rfl) ?_)
          exact fun w' hw' => ⟨rfl, hw'.res.nil⟩
      · refine e_skip ?_
        refine e_seq ?_
        refine e_seq ?_
        refine e_region ?_
        refine w_val (v_move rfl) rfl ?_
        refine w_op rfl ?_
        refine x_call0 (v := .bool false) rfl rfl rfl Try.call24 rfl (fun w hw => by have := great_spec _ r w (hsr.mono hw.off) hb; rwa [hg] at this) ?_
        refine w_val (v_move rfl) rfl ?_
        refine w_want rfl rfl ?_
        refine w_val (v_move rfl) rfl ?_
        refine w_want rfl rfl ?_
        refine w_val (v_lenS Try.underlying51 rfl) rfl ?_
        refine w_want rfl rfl ?_
        refine w_val (v_is (v' := .bool false) (v_gtr rfl rfl) (by rw [decide_eq_false (by omega)])) rfl ?_
        refine w_val (v_pickF rfl rfl) rfl ?_
        refine w_val (v_move rfl) rfl ?_
        refine w_want rfl rfl ?_
        refine w_val (v_move rfl) rfl ?_
        refine w_want rfl rfl ?_
        refine w_op rfl ?_
        refine x_call0 (v := .bool false) rfl rfl rfl Try.call36 rfl (fun w hw => by have := isKey_spec k w; rwa [decide_eq_false hk] at this) ?_
        refine w_want rfl rfl ?_
        refine w_val (v_not rfl) rfl ?_
        refine w_val (v_pickF rfl rfl) rfl ?_
        refine w_nil ?_
        refine e_condT rfl ?_
        refine e_seq ?_
        refine e_region ?_
        refine w_val (v_assign rfl) rfl ?_
        refine w_nil ?_
        refine e_retQ (q_ret1 rfl (.tmp rfl) ?_)
        exact fun w' hw' => ⟨rfl, hw'.res.nil⟩
end Go.SL

