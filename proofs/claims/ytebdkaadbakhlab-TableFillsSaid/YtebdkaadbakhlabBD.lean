/- Ytebdkaadbakhlab: part BD of this seat's own texts. -/
import Derived.Test.YtebdkaadbakhlabBC
set_option linter.unusedVariables false
set_option linter.unusedSimpArgs false

open Go Go.Proofs Go.SL
set_option maxRecDepth 100000
set_option maxHeartbeats 4000000
namespace Go.SL
theorem res_view {w0 w : World} {F : Nat → Prop} {mc mr : Hp} (h : St w0 F (mc ++ mr) w) {b e : Nat} {v : Value} (hm : Chunk.blk b e [v] ∈ mr) : off w (feet mc) ⟨b, 0, none⟩ = some v := by
  refine h.apart _ _ ?_
  rw [blk_cell (h.partR _ hm)]
  rfl
theorem own_view {w0 w : World} {F : Nat → Prop} {mc mr : Hp} (h : St w0 F (mc ++ mr) w) {v : Value} {e size n : Nat} {xs : List Value} (hm : Own v e size n xs ∈ mr) : Rds (off w (feet mc)) v size n xs := (own_rds (h.partR _ hm)).mono h.apart
theorem TableFills_spec (s : List Int) (v vp : Value) (r : RoundL) (p : List Int) (w : World) (h : IsRound w.cell? v r) (hb : ∀ d ∈ r, d.length ≤ 4398046511104) (hs10 : s.length = 10) (hp : IsInts w.cell? vp p) :
    Calls Try.prog 10 #[intsV s, v, vp] w fun e w' => e = .returned (.bool true) ∧ Res w [] [] w' := by
  have hsr := h
  rw [← off_none w] at hsr hp
  obtain ⟨vs, hv, hds⟩ := h
  rw [← off_none w] at hv hds
  obtain ⟨Ap, kp, rfl, hlep, hpc⟩ := hp.form
  obtain ⟨A, ka, rfl, hle, hvl, hvc⟩ := hv
  have hlz : (intCells s).length = 10 := by rw [intCells, List.length_map]; exact hs10
  refine enter0 (N := 110) Try.func10 rfl rfl rfl ?_
  refine e_seq ?_
  refine e_region ?_
  refine w_op rfl ?_
  refine x_box rfl rfl (fun b3 => ?_)
  refine w_val (v_assign rfl) rfl ?_
  refine w_nil ?_
  refine e_seq ?_
  refine e_seq ?_
  refine e_region ?_
  refine w_op rfl ?_
  refine x_call0 (v := .bool true) rfl rfl rfl Try.call44 rfl (fun w hw => tableBegun_spec w) ?_
  refine w_val (v_not rfl) rfl ?_
  refine w_nil ?_
  refine e_condF rfl ?_
  by_cases hg : greatL r = true
  · refine e_skip ?_
    refine e_seq ?_
    refine e_seq ?_
    refine e_region ?_
    refine w_val (v_move rfl) rfl ?_
    refine w_op rfl ?_
    refine x_call0 (v := .bool true) rfl rfl rfl Try.call32 rfl (fun w hw => by have := great_spec _ r w (hsr.mono hw.off) hb; rwa [hg] at this) ?_
    refine w_val (v_move rfl) rfl ?_
    refine w_skip rfl rfl rfl rfl ?_
    refine w_skip rfl rfl rfl rfl ?_
    refine w_skip rfl rfl rfl rfl ?_
    refine w_val (v_pickT rfl rfl) rfl ?_
    refine w_val (v_move rfl) rfl ?_
    refine w_skip rfl rfl rfl rfl ?_
    refine w_skip rfl rfl rfl rfl ?_
    refine w_skip rfl rfl rfl rfl ?_
    refine w_val (v_pickT rfl rfl) rfl ?_
    refine w_nil ?_
    refine e_condT rfl ?_
    refine e_seq ?_
    refine e_region ?_
    refine w_val (v_assign rfl) rfl ?_
    refine w_nil ?_
    refine e_retQ (q_ret1 rfl (.tmp rfl) ?_)
    exact fun w' hw' => ⟨rfl, hw'.res.nil⟩
  · have hg : greatL r = false := by cases h : greatL r with | true => exact absurd h hg | false => rfl
    by_cases h200 : 200 < p.length
    · refine e_skip ?_
      refine e_seq ?_
      refine e_seq ?_
      refine e_region ?_
      refine w_val (v_move rfl) rfl ?_
      refine w_op rfl ?_
      refine x_call0 (v := .bool false) rfl rfl rfl Try.call32 rfl (fun w hw => by have := great_spec _ r w (hsr.mono hw.off) hb; rwa [hg] at this) ?_
      refine w_val (v_move rfl) rfl ?_
      refine w_want rfl rfl ?_
      refine w_val (v_move rfl) rfl ?_
      refine w_want rfl rfl ?_
      refine w_val (v_lenS Try.underlying53 rfl) rfl ?_
      refine w_want rfl rfl ?_
      refine w_val (v_is (v' := .bool true) (v_gtr rfl rfl) (by rw [decide_eq_true (by omega)])) rfl ?_
      refine w_val (v_pickF rfl rfl) rfl ?_
      refine w_val (v_move rfl) rfl ?_
      refine w_skip rfl rfl rfl rfl ?_
      refine w_skip rfl rfl rfl rfl ?_
      refine w_skip rfl rfl rfl rfl ?_
      refine w_val (v_pickT rfl rfl) rfl ?_
      refine w_nil ?_
      refine e_condT rfl ?_
      refine e_seq ?_
      refine e_region ?_
      refine w_val (v_assign rfl) rfl ?_
      refine w_nil ?_
      refine e_retQ (q_ret1 rfl (.tmp rfl) ?_)
      exact fun w' hw' => ⟨rfl, hw'.res.nil⟩
    · by_cases hf : roundFaultL r = 0
      · refine e_skip ?_
        refine e_seq ?_
        refine e_seq ?_
        refine e_region ?_
        refine w_val (v_move rfl) rfl ?_
        refine w_op rfl ?_
        refine x_call0 (v := .bool false) rfl rfl rfl Try.call32 rfl (fun w hw => by have := great_spec _ r w (hsr.mono hw.off) hb; rwa [hg] at this) ?_
        refine w_val (v_move rfl) rfl ?_
        refine w_want rfl rfl ?_
        refine w_val (v_move rfl) rfl ?_
        refine w_want rfl rfl ?_
        refine w_val (v_lenS Try.underlying53 rfl) rfl ?_
        refine w_want rfl rfl ?_
        refine w_val (v_is (v' := .bool false) (v_gtr rfl rfl) (by rw [decide_eq_false (by omega)])) rfl ?_
        refine w_val (v_pickF rfl rfl) rfl ?_
        refine w_val (v_move rfl) rfl ?_
        refine w_want rfl rfl ?_
        refine w_val (v_move rfl) rfl ?_
        refine w_want rfl rfl ?_
        refine w_op rfl ?_
        refine x_call0 (v := .int .i64 (roundFaultL r)) rfl rfl rfl Try.call41 rfl (fun w hw => RoundFault_spec _ r w (hsr.mono hw.off)) ?_
        refine w_want rfl rfl ?_
        refine w_val (v_is (v' := .bool false) (v_neq rfl rfl) (by rw [decide_eq_false (fun h => h hf)])) rfl ?_
        refine w_val (v_pickF rfl rfl) rfl ?_
        refine w_nil ?_
        refine e_condF rfl ?_
        have h8 := (roundFault_ok hf).1
        have hck := (roundFault_ok hf).2
        refine e_skip ?_
        refine e_seq ?_
        refine e_region ?_
        refine w_val (v_loadBA 0 rfl Try.underlying70 rfl Try.hi70 (Try.cz70.trans hlz.symm) rfl) rfl ?_
        refine w_val (v_move rfl) rfl ?_
        refine w_op rfl ?_
        refine x_call (dst := some 35) (mc := []) (σ := Nat × (Nat → Value)) (fun _ => True) (fun x => .tuple #[.pointer (some ⟨x.1, 0, none⟩), .int .i64 0]) (fun x => tbH x.1 130 x.2 (newT s r)) rfl rfl rfl Try.call45 (fun w hw => tabNew_ok s _ r w (hsr.mono hw.off) hs10 hf) rfl (fun x _ => ?_)
        obtain ⟨pt, ht⟩ := x
        dsimp only
        rw [← filT_none s r]
        refine w_val (v_move rfl) rfl ?_
        refine w_val (v_extract rfl rfl) rfl ?_
        refine w_val (v_extract rfl rfl) rfl ?_
        refine w_op rfl ?_
        refine x_alloc (z := .pointer none) (by intro w; exact Try.zeroValue72 w) rfl (fun b7 => ?_)
        refine w_op rfl ?_
        refine x_store1 0 rfl rfl rfl Try.hi72 Try.cz72 rfl (by first | (simp; done) | (simp [intCells_len]; omega) | exact Nat.zero_lt_succ _) rfl ?_
        refine w_val (v_assign rfl) rfl ?_
        refine w_nil ?_
        refine e_seq ?_
        refine e_seq ?_
        refine e_region ?_
        refine w_val (v_move rfl) rfl ?_
        refine w_val (v_is (v' := .bool false) (v_neq rfl rfl) (by rfl)) rfl ?_
        refine w_val (v_move rfl) rfl ?_
        refine w_want rfl rfl ?_
        refine w_val (v_loadB 0 rfl Try.underlying72 rfl rfl rfl) rfl ?_
        refine w_want rfl rfl ?_
        refine w_val (v_is (v' := .bool false) (v_eqlPtr Try.underlying72 rfl rfl) (by rfl)) rfl ?_
        refine w_val (v_pickF rfl rfl) rfl ?_
        refine w_nil ?_
        refine e_condF rfl ?_
        refine e_skip ?_
        refine e_seq ?_
        refine e_region ?_
        refine w_op rfl ?_
        refine x_alloc (z := .slice none 0 0) (by intro w; exact Try.zeroValue88 w) rfl (fun b9 => ?_)
        refine w_nil ?_
        refine e_seq ?_
        refine e_region ?_
        refine w_op rfl ?_
        refine x_alloc (z := .slice none 0 0) (by intro w; exact Try.zeroValue89 w) rfl (fun b10 => ?_)
        refine w_nil ?_
        refine e_seq ?_
        refine e_region ?_
        refine w_val (v_loadBA 5 rfl Try.underlying70 rfl Try.hi70 (Try.cz70.trans hlz.symm) rfl) rfl ?_
        refine w_op rfl ?_
        refine x_alloc (z := .agg #[.int .i64 0, .int .i64 0, .int .i64 0, .int .i64 0, .int .i64 0, .int .i64 0, .int .i64 0, .int .i64 0, .int .i64 0, .int .i64 0]) (by intro w; exact Try.zeroValue70 w) rfl (fun b11 => ?_)
        refine w_op rfl ?_
        refine x_storeA 0 rfl rfl rfl Try.hi70 (Try.cz70.trans (by simp [Value.cells, intsV, resCells, intCells, hs10])) (by simp [Value.cells, intsV, resCells, intCells, hs10]) (by first | exact one_intCells _ | exact one_resCells _ _) ?_
        refine w_nil ?_
        refine e_seq ?_
        refine e_seq ?_
        refine e_region ?_
        refine w_heap (m' := .blk b9 88 [nilS] :: .blk b10 89 [nilS] :: .blk b11 70 (intCells s) :: Own nilS 70 10 0 [] :: Own nilS 93 5 0 [] :: .blk b7 72 [ptrV pt] :: tbH pt 130 ht (filT s r fun _ => false)) (fun _ hw => ((hw.ownNil 93 5).ownNil 70 10).pick [4, 3, 2, 0, 1, 5, 6, 7] (by decide)) ?_
        refine w_val (v_assign rfl) rfl ?_
        refine w_nil ?_
        refine e_block ?_
        refine e_loopH (σ := Nat × Value × Value) [1, 2, 7, 9, 10, 11] (.cons rfl (.cons rfl (.cons rfl (.cons rfl (.cons rfl (.cons rfl .nil)))))) (fun x => [(12, .int .i64 (x.1 : Int))]) (fun x => (Chunk.blk b9 88 [x.2.1] :: Chunk.blk b10 89 [x.2.2] :: Chunk.blk b11 70 (intCells (stAt s r (x.1))) :: Own (x.2.1) 70 10 (x.1) (stsC s r (x.1)) :: Own (x.2.2) 93 5 (x.1) (resL (resTo s r (x.1))) :: Chunk.blk b7 72 [ptrV pt] :: tbH pt 130 ht (filT s r (fun _ => false)))) (fun x => x.1 ≤ r.length) (fun x => r.length - x.1) (0, nilS, nilS) (Nat.zero_le _) (by repeat (first | exact Sub.nil _ | refine Sub.cons rfl ?_)) (fun _ hw => hw) ?_
        rintro ⟨i, sv, rv⟩ hi
        dsimp only at hi ⊢
        refine e_seq ?_
        refine e_seq ?_
        refine e_region ?_
        refine w_val (v_move rfl) rfl ?_
        refine w_val (v_move rfl) rfl ?_
        refine w_val (v_lenS Try.underlying34 rfl) rfl ?_
        refine w_val (v_lss rfl rfl) rfl ?_
        refine w_nil ?_
        refine e_condD rfl (fun hlt => ?_) (fun hlt => ?_)
        · have hi' : i < r.length := by omega
          obtain ⟨u, hu, hud⟩ := hds i hi'
          obtain ⟨ad, rfl, hcells⟩ := hvc (by omega)
          have hcell := hcells (((i : Nat) : Int).toNat * 1) _ (by simpa using hu)
          have hcki := hck _ (List.getElem_mem hi')
          have hgd : r.getD i [] = r[i] := by simp [List.getD, hi']
          have hsi := stAt_len (r := r) hs10 i
          have hsi1 := stAt_len (r := r) hs10 (i + 1)
          have e1 : (doL arithL (stAt s r i) r[i]).1 = stAt s r (i + 1) := by rw [← hgd]; rfl
          have e2 : (doL arithL (stAt s r i) r[i]).2 = rsAt s r i := by rw [← hgd]; rfl
          have hgi : (rsAt s r i).2.length = 4 := (do_len (d := r.getD i []) hsi).2
          have hcall := fun (w1 : World) (hl : Le (off w (feet [])) w1.cell?) => refDo_spec (stAt s r i) u r[i] w1 (hud.mono hl) hsi hcki
          rw [e1, e2] at hcall
          have hst := stsC_succ s r i
          have hrs := resTo_succ s r i
          generalize hx1 : stAt s r (i + 1) = x1 at *
          generalize hri : rsAt s r i = ri at *
          obtain ⟨c, g⟩ := ri
          dsimp only at hgi hcall
          generalize hsx : stAt s r i = sx at *
          refine e_skip ?_
          refine e_seq ?_
          refine e_block ?_
          refine e_seq ?_
          refine e_cutH (σ := Nat × Nat) [1, 2, 7, 9, 10, 11, 12] (.cons rfl (.cons rfl (.cons rfl (.cons rfl (.cons rfl (.cons rfl (.cons rfl .nil))))))) (fun y => [(13, .pointer (some ⟨y.1, 0, none⟩)), (14, .pointer (some ⟨y.2, 0, none⟩))]) (fun y => .blk y.1 70 (intCells x1) :: .blk y.2 93 (resCells c g) :: (Chunk.blk b9 88 [sv] :: Chunk.blk b10 89 [rv] :: Chunk.blk b11 70 (intCells (sx)) :: Own (sv) 70 10 (i) (stsC s r (i)) :: Own (rv) 93 5 (i) (resL (resTo s r (i))) :: Chunk.blk b7 72 [ptrV pt] :: tbH pt 130 ht (filT s r (fun _ => false)))) (fun _ => True) ?_ ?_
          · refine e_draw ([.blk b11 70 (intCells sx)]) Try.mixed ?_
            refine a_take 0 pan_cx (by kernel_rfl) (fun _ hw => hw.sub (by repeat (first | exact List.Sublist.slnil | exact List.Sublist.refl _ | apply List.Sublist.cons_cons | apply List.Sublist.cons))) rfl (by kernel_rfl) (by kernel_rfl) (v_loadBA 0 rfl Try.underlying70 rfl Try.hi70 (Try.cz70.trans (by simp [Value.cells, intsV, resCells, intCells, hsi, hsi1, hgi])) rfl) rfl ?_
            refine a_take 1 pan_cx (by kernel_rfl) (fun _ hw => hw.sub (by repeat (first | exact List.Sublist.slnil | exact List.Sublist.refl _ | apply List.Sublist.cons_cons | apply List.Sublist.cons))) rfl (by kernel_rfl) (by kernel_rfl) (v_move rfl) rfl ?_
            refine a_take 2 pan_cx (by kernel_rfl) (fun _ hw => hw.sub (by repeat (first | exact List.Sublist.slnil | exact List.Sublist.refl _ | apply List.Sublist.cons_cons | apply List.Sublist.cons))) rfl (by kernel_rfl) (by kernel_rfl) (v_move rfl) rfl ?_
            refine a_take 3 pan_cx (by kernel_rfl) (fun _ hw => hw.sub (by repeat (first | exact List.Sublist.slnil | exact List.Sublist.refl _ | apply List.Sublist.cons_cons | apply List.Sublist.cons))) rfl (by kernel_rfl) (by kernel_rfl) (v_indexS Try.underlying34 Try.hi52 Try.cz52 rfl rfl (by first | omega | decide)) rfl ?_
            refine a_take 4 pan_cx (by kernel_rfl) (fun _ hw => hw.sub (by repeat (first | exact List.Sublist.slnil | exact List.Sublist.refl _ | apply List.Sublist.cons_cons | apply List.Sublist.cons))) rfl (by kernel_rfl) (by kernel_rfl) (v_loadO Try.underlying52 rfl rfl (hcell)) rfl ?_
            refine a_all [5, 9, 10] (by kernel_rfl) rfl ?_
            intro i hi
            simp only [List.mem_cons, List.not_mem_nil, or_false] at hi
            rcases hi with rfl | rfl | rfl
            · refine a_op rfl rfl ?_
              refine x_call0 (v := .tuple #[intsV x1, .agg (resCells c g).toArray]) rfl rfl rfl Try.call60 rfl (fun w hw => hcall w hw.off) ?_
              refine a_and (fun _ hw => hw.sub (by repeat (first | exact List.Sublist.slnil | exact List.Sublist.refl _ | apply List.Sublist.cons_cons | apply List.Sublist.cons))) ?_
              refine a_take 6 pan_cx (by kernel_rfl) (fun _ hw => hw.sub (by repeat (first | exact List.Sublist.slnil | exact List.Sublist.refl _ | apply List.Sublist.cons_cons | apply List.Sublist.cons))) rfl (by kernel_rfl) (by kernel_rfl) (v_move rfl) rfl ?_
              refine a_take 7 pan_cx (by kernel_rfl) (fun _ hw => hw.sub (by repeat (first | exact List.Sublist.slnil | exact List.Sublist.refl _ | apply List.Sublist.cons_cons | apply List.Sublist.cons))) rfl (by kernel_rfl) (by kernel_rfl) (v_extract rfl rfl) rfl ?_
              refine a_take 8 pan_cx (by kernel_rfl) (fun _ hw => hw.sub (by repeat (first | exact List.Sublist.slnil | exact List.Sublist.refl _ | apply List.Sublist.cons_cons | apply List.Sublist.cons))) rfl (by kernel_rfl) (by kernel_rfl) (v_extract rfl rfl) rfl ?_
              refine a_all [9, 10] (by kernel_rfl) rfl ?_
              intro i hi
              simp only [List.mem_cons, List.not_mem_nil, or_false] at hi
              rcases hi with rfl | rfl
              · refine a_op rfl rfl ?_
                refine x_alloc (z := .agg #[.int .i64 0, .int .i64 0, .int .i64 0, .int .i64 0, .int .i64 0, .int .i64 0, .int .i64 0, .int .i64 0, .int .i64 0, .int .i64 0]) (by intro w; exact Try.zeroValue70 w) rfl (fun b13 => ?_)
                refine a_and (fun _ hw => hw.sub (by repeat (first | exact List.Sublist.slnil | exact List.Sublist.refl _ | apply List.Sublist.cons_cons | apply List.Sublist.cons))) ?_
                refine a_one 10 (by kernel_rfl) rfl rfl ?_
                refine x_alloc (z := .agg #[.int .i64 0, .int .i64 0, .int .i64 0, .int .i64 0, .int .i64 0]) (by intro w; exact Try.zeroValue93 w) rfl (fun b14 => ?_)
                refine a_and (fun _ hw => hw.sub (by repeat (first | exact List.Sublist.slnil | exact List.Sublist.refl _ | apply List.Sublist.cons_cons | apply List.Sublist.cons))) ?_
                refine a_one 11 (by kernel_rfl) rfl rfl ?_
                refine x_storeA 1 rfl rfl rfl Try.hi70 (Try.cz70.trans (by simp [Value.cells, intsV, resCells, intCells, hsi, hsi1, hgi])) (by simp [Value.cells, intsV, resCells, intCells, hsi, hsi1, hgi]) (by first | exact one_intCells _ | exact one_resCells _ _) ?_
                refine a_and (fun _ hw => hw.sub (by repeat (first | exact List.Sublist.slnil | exact List.Sublist.refl _ | apply List.Sublist.cons_cons | apply List.Sublist.cons))) ?_
                refine a_one 12 (by kernel_rfl) rfl rfl ?_
                refine x_storeA 0 rfl rfl rfl Try.hi93 (Try.cz93.trans (by simp [Value.cells, intsV, resCells, intCells, hsi, hsi1, hgi])) (by simp [Value.cells, intsV, resCells, intCells, hsi, hsi1, hgi]) (by first | exact one_intCells _ | exact one_resCells _ _) ?_
                refine a_and (fun _ hw => hw.sub (by repeat (first | exact List.Sublist.slnil | exact List.Sublist.refl _ | apply List.Sublist.cons_cons | apply List.Sublist.cons))) ?_
                refine a_done (by kernel_rfl) ?_
                exact e_cutEnd (b13, b14) trivial (by repeat (first | exact Sub.nil _ | refine Sub.cons rfl ?_)) (fun _ hw => by first | exact hw | exact hw.pick [1, 0, 2, 3, 4, 5, 6, 7, 8, 9] (by decide))
              · refine a_op rfl rfl ?_
                refine x_alloc (z := .agg #[.int .i64 0, .int .i64 0, .int .i64 0, .int .i64 0, .int .i64 0]) (by intro w; exact Try.zeroValue93 w) rfl (fun b14 => ?_)
                refine a_and (fun _ hw => hw.sub (by repeat (first | exact List.Sublist.slnil | exact List.Sublist.refl _ | apply List.Sublist.cons_cons | apply List.Sublist.cons))) ?_
                refine a_one 9 (by kernel_rfl) rfl rfl ?_
                refine x_alloc (z := .agg #[.int .i64 0, .int .i64 0, .int .i64 0, .int .i64 0, .int .i64 0, .int .i64 0, .int .i64 0, .int .i64 0, .int .i64 0, .int .i64 0]) (by intro w; exact Try.zeroValue70 w) rfl (fun b13 => ?_)
                refine a_and (fun _ hw => hw.sub (by repeat (first | exact List.Sublist.slnil | exact List.Sublist.refl _ | apply List.Sublist.cons_cons | apply List.Sublist.cons))) ?_
                refine a_one 11 (by kernel_rfl) rfl rfl ?_
                refine x_storeA 0 rfl rfl rfl Try.hi70 (Try.cz70.trans (by simp [Value.cells, intsV, resCells, intCells, hsi, hsi1, hgi])) (by simp [Value.cells, intsV, resCells, intCells, hsi, hsi1, hgi]) (by first | exact one_intCells _ | exact one_resCells _ _) ?_
                refine a_and (fun _ hw => hw.sub (by repeat (first | exact List.Sublist.slnil | exact List.Sublist.refl _ | apply List.Sublist.cons_cons | apply List.Sublist.cons))) ?_
                refine a_one 12 (by kernel_rfl) rfl rfl ?_
                refine x_storeA 1 rfl rfl rfl Try.hi93 (Try.cz93.trans (by simp [Value.cells, intsV, resCells, intCells, hsi, hsi1, hgi])) (by simp [Value.cells, intsV, resCells, intCells, hsi, hsi1, hgi]) (by first | exact one_intCells _ | exact one_resCells _ _) ?_
                refine a_and (fun _ hw => hw.sub (by repeat (first | exact List.Sublist.slnil | exact List.Sublist.refl _ | apply List.Sublist.cons_cons | apply List.Sublist.cons))) ?_
                refine a_done (by kernel_rfl) ?_
                exact e_cutEnd (b13, b14) trivial (by repeat (first | exact Sub.nil _ | refine Sub.cons rfl ?_)) (fun _ hw => by first | exact hw | exact hw.pick [1, 0, 2, 3, 4, 5, 6, 7, 8, 9] (by decide))
            · refine a_op rfl rfl ?_
              refine x_alloc (z := .agg #[.int .i64 0, .int .i64 0, .int .i64 0, .int .i64 0, .int .i64 0, .int .i64 0, .int .i64 0, .int .i64 0, .int .i64 0, .int .i64 0]) (by intro w; exact Try.zeroValue70 w) rfl (fun b13 => ?_)
              refine a_and (fun _ hw => hw.sub (by repeat (first | exact List.Sublist.slnil | exact List.Sublist.refl _ | apply List.Sublist.cons_cons | apply List.Sublist.cons))) ?_
              refine a_all [5, 10] (by kernel_rfl) rfl ?_
              intro i hi
              simp only [List.mem_cons, List.not_mem_nil, or_false] at hi
              rcases hi with rfl | rfl
              · refine a_op rfl rfl ?_
                refine x_call0 (v := .tuple #[intsV x1, .agg (resCells c g).toArray]) rfl rfl rfl Try.call60 rfl (fun w hw => hcall w hw.off) ?_
                refine a_and (fun _ hw => hw.sub (by repeat (first | exact List.Sublist.slnil | exact List.Sublist.refl _ | apply List.Sublist.cons_cons | apply List.Sublist.cons))) ?_
                refine a_take 6 pan_cx (by kernel_rfl) (fun _ hw => hw.sub (by repeat (first | exact List.Sublist.slnil | exact List.Sublist.refl _ | apply List.Sublist.cons_cons | apply List.Sublist.cons))) rfl (by kernel_rfl) (by kernel_rfl) (v_move rfl) rfl ?_
                refine a_take 7 pan_cx (by kernel_rfl) (fun _ hw => hw.sub (by repeat (first | exact List.Sublist.slnil | exact List.Sublist.refl _ | apply List.Sublist.cons_cons | apply List.Sublist.cons))) rfl (by kernel_rfl) (by kernel_rfl) (v_extract rfl rfl) rfl ?_
                refine a_take 8 pan_cx (by kernel_rfl) (fun _ hw => hw.sub (by repeat (first | exact List.Sublist.slnil | exact List.Sublist.refl _ | apply List.Sublist.cons_cons | apply List.Sublist.cons))) rfl (by kernel_rfl) (by kernel_rfl) (v_extract rfl rfl) rfl ?_
                refine a_one 10 (by kernel_rfl) rfl rfl ?_
                refine x_alloc (z := .agg #[.int .i64 0, .int .i64 0, .int .i64 0, .int .i64 0, .int .i64 0]) (by intro w; exact Try.zeroValue93 w) rfl (fun b14 => ?_)
                refine a_and (fun _ hw => hw.sub (by repeat (first | exact List.Sublist.slnil | exact List.Sublist.refl _ | apply List.Sublist.cons_cons | apply List.Sublist.cons))) ?_
                refine a_one 11 (by kernel_rfl) rfl rfl ?_
                refine x_storeA 1 rfl rfl rfl Try.hi70 (Try.cz70.trans (by simp [Value.cells, intsV, resCells, intCells, hsi, hsi1, hgi])) (by simp [Value.cells, intsV, resCells, intCells, hsi, hsi1, hgi]) (by first | exact one_intCells _ | exact one_resCells _ _) ?_
                refine a_and (fun _ hw => hw.sub (by repeat (first | exact List.Sublist.slnil | exact List.Sublist.refl _ | apply List.Sublist.cons_cons | apply List.Sublist.cons))) ?_
                refine a_one 12 (by kernel_rfl) rfl rfl ?_
                refine x_storeA 0 rfl rfl rfl Try.hi93 (Try.cz93.trans (by simp [Value.cells, intsV, resCells, intCells, hsi, hsi1, hgi])) (by simp [Value.cells, intsV, resCells, intCells, hsi, hsi1, hgi]) (by first | exact one_intCells _ | exact one_resCells _ _) ?_
                refine a_and (fun _ hw => hw.sub (by repeat (first | exact List.Sublist.slnil | exact List.Sublist.refl _ | apply List.Sublist.cons_cons | apply List.Sublist.cons))) ?_
                refine a_done (by kernel_rfl) ?_
                exact e_cutEnd (b13, b14) trivial (by repeat (first | exact Sub.nil _ | refine Sub.cons rfl ?_)) (fun _ hw => by first | exact hw | exact hw.pick [1, 0, 2, 3, 4, 5, 6, 7, 8, 9] (by decide))
              · refine a_op rfl rfl ?_
                refine x_alloc (z := .agg #[.int .i64 0, .int .i64 0, .int .i64 0, .int .i64 0, .int .i64 0]) (by intro w; exact Try.zeroValue93 w) rfl (fun b14 => ?_)
                refine a_and (fun _ hw => hw.sub (by repeat (first | exact List.Sublist.slnil | exact List.Sublist.refl _ | apply List.Sublist.cons_cons | apply List.Sublist.cons))) ?_
                refine a_one 5 (by kernel_rfl) rfl rfl ?_
                refine x_call0 (v := .tuple #[intsV x1, .agg (resCells c g).toArray]) rfl rfl rfl Try.call60 rfl (fun w hw => hcall w hw.off) ?_
                refine a_and (fun _ hw => hw.sub (by repeat (first | exact List.Sublist.slnil | exact List.Sublist.refl _ | apply List.Sublist.cons_cons | apply List.Sublist.cons))) ?_
                refine a_take 6 pan_cx (by kernel_rfl) (fun _ hw => hw.sub (by repeat (first | exact List.Sublist.slnil | exact List.Sublist.refl _ | apply List.Sublist.cons_cons | apply List.Sublist.cons))) rfl (by kernel_rfl) (by kernel_rfl) (v_move rfl) rfl ?_
                refine a_take 7 pan_cx (by kernel_rfl) (fun _ hw => hw.sub (by repeat (first | exact List.Sublist.slnil | exact List.Sublist.refl _ | apply List.Sublist.cons_cons | apply List.Sublist.cons))) rfl (by kernel_rfl) (by kernel_rfl) (v_extract rfl rfl) rfl ?_
                refine a_take 8 pan_cx (by kernel_rfl) (fun _ hw => hw.sub (by repeat (first | exact List.Sublist.slnil | exact List.Sublist.refl _ | apply List.Sublist.cons_cons | apply List.Sublist.cons))) rfl (by kernel_rfl) (by kernel_rfl) (v_extract rfl rfl) rfl ?_
                refine a_one 11 (by kernel_rfl) rfl rfl ?_
                refine x_storeA 1 rfl rfl rfl Try.hi70 (Try.cz70.trans (by simp [Value.cells, intsV, resCells, intCells, hsi, hsi1, hgi])) (by simp [Value.cells, intsV, resCells, intCells, hsi, hsi1, hgi]) (by first | exact one_intCells _ | exact one_resCells _ _) ?_
                refine a_and (fun _ hw => hw.sub (by repeat (first | exact List.Sublist.slnil | exact List.Sublist.refl _ | apply List.Sublist.cons_cons | apply List.Sublist.cons))) ?_
                refine a_one 12 (by kernel_rfl) rfl rfl ?_
                refine x_storeA 0 rfl rfl rfl Try.hi93 (Try.cz93.trans (by simp [Value.cells, intsV, resCells, intCells, hsi, hsi1, hgi])) (by simp [Value.cells, intsV, resCells, intCells, hsi, hsi1, hgi]) (by first | exact one_intCells _ | exact one_resCells _ _) ?_
                refine a_and (fun _ hw => hw.sub (by repeat (first | exact List.Sublist.slnil | exact List.Sublist.refl _ | apply List.Sublist.cons_cons | apply List.Sublist.cons))) ?_
                refine a_done (by kernel_rfl) ?_
                exact e_cutEnd (b13, b14) trivial (by repeat (first | exact Sub.nil _ | refine Sub.cons rfl ?_)) (fun _ hw => by first | exact hw | exact hw.pick [1, 0, 2, 3, 4, 5, 6, 7, 8, 9] (by decide))
            · refine a_op rfl rfl ?_
              refine x_alloc (z := .agg #[.int .i64 0, .int .i64 0, .int .i64 0, .int .i64 0, .int .i64 0]) (by intro w; exact Try.zeroValue93 w) rfl (fun b14 => ?_)
              refine a_and (fun _ hw => hw.sub (by repeat (first | exact List.Sublist.slnil | exact List.Sublist.refl _ | apply List.Sublist.cons_cons | apply List.Sublist.cons))) ?_
              refine a_all [5, 9] (by kernel_rfl) rfl ?_
              intro i hi
              simp only [List.mem_cons, List.not_mem_nil, or_false] at hi
              rcases hi with rfl | rfl
              · refine a_op rfl rfl ?_
                refine x_call0 (v := .tuple #[intsV x1, .agg (resCells c g).toArray]) rfl rfl rfl Try.call60 rfl (fun w hw => hcall w hw.off) ?_
                refine a_and (fun _ hw => hw.sub (by repeat (first | exact List.Sublist.slnil | exact List.Sublist.refl _ | apply List.Sublist.cons_cons | apply List.Sublist.cons))) ?_
                refine a_take 6 pan_cx (by kernel_rfl) (fun _ hw => hw.sub (by repeat (first | exact List.Sublist.slnil | exact List.Sublist.refl _ | apply List.Sublist.cons_cons | apply List.Sublist.cons))) rfl (by kernel_rfl) (by kernel_rfl) (v_move rfl) rfl ?_
                refine a_take 7 pan_cx (by kernel_rfl) (fun _ hw => hw.sub (by repeat (first | exact List.Sublist.slnil | exact List.Sublist.refl _ | apply List.Sublist.cons_cons | apply List.Sublist.cons))) rfl (by kernel_rfl) (by kernel_rfl) (v_extract rfl rfl) rfl ?_
                refine a_take 8 pan_cx (by kernel_rfl) (fun _ hw => hw.sub (by repeat (first | exact List.Sublist.slnil | exact List.Sublist.refl _ | apply List.Sublist.cons_cons | apply List.Sublist.cons))) rfl (by kernel_rfl) (by kernel_rfl) (v_extract rfl rfl) rfl ?_
                refine a_one 9 (by kernel_rfl) rfl rfl ?_
                refine x_alloc (z := .agg #[.int .i64 0, .int .i64 0, .int .i64 0, .int .i64 0, .int .i64 0, .int .i64 0, .int .i64 0, .int .i64 0, .int .i64 0, .int .i64 0]) (by intro w; exact Try.zeroValue70 w) rfl (fun b13 => ?_)
                refine a_and (fun _ hw => hw.sub (by repeat (first | exact List.Sublist.slnil | exact List.Sublist.refl _ | apply List.Sublist.cons_cons | apply List.Sublist.cons))) ?_
                refine a_one 11 (by kernel_rfl) rfl rfl ?_
                refine x_storeA 0 rfl rfl rfl Try.hi70 (Try.cz70.trans (by simp [Value.cells, intsV, resCells, intCells, hsi, hsi1, hgi])) (by simp [Value.cells, intsV, resCells, intCells, hsi, hsi1, hgi]) (by first | exact one_intCells _ | exact one_resCells _ _) ?_
                refine a_and (fun _ hw => hw.sub (by repeat (first | exact List.Sublist.slnil | exact List.Sublist.refl _ | apply List.Sublist.cons_cons | apply List.Sublist.cons))) ?_
                refine a_one 12 (by kernel_rfl) rfl rfl ?_
                refine x_storeA 1 rfl rfl rfl Try.hi93 (Try.cz93.trans (by simp [Value.cells, intsV, resCells, intCells, hsi, hsi1, hgi])) (by simp [Value.cells, intsV, resCells, intCells, hsi, hsi1, hgi]) (by first | exact one_intCells _ | exact one_resCells _ _) ?_
                refine a_and (fun _ hw => hw.sub (by repeat (first | exact List.Sublist.slnil | exact List.Sublist.refl _ | apply List.Sublist.cons_cons | apply List.Sublist.cons))) ?_
                refine a_done (by kernel_rfl) ?_
                exact e_cutEnd (b13, b14) trivial (by repeat (first | exact Sub.nil _ | refine Sub.cons rfl ?_)) (fun _ hw => by first | exact hw | exact hw.pick [1, 0, 2, 3, 4, 5, 6, 7, 8, 9] (by decide))
              · refine a_op rfl rfl ?_
                refine x_alloc (z := .agg #[.int .i64 0, .int .i64 0, .int .i64 0, .int .i64 0, .int .i64 0, .int .i64 0, .int .i64 0, .int .i64 0, .int .i64 0, .int .i64 0]) (by intro w; exact Try.zeroValue70 w) rfl (fun b13 => ?_)
                refine a_and (fun _ hw => hw.sub (by repeat (first | exact List.Sublist.slnil | exact List.Sublist.refl _ | apply List.Sublist.cons_cons | apply List.Sublist.cons))) ?_
                refine a_one 5 (by kernel_rfl) rfl rfl ?_
                refine x_call0 (v := .tuple #[intsV x1, .agg (resCells c g).toArray]) rfl rfl rfl Try.call60 rfl (fun w hw => hcall w hw.off) ?_
                refine a_and (fun _ hw => hw.sub (by repeat (first | exact List.Sublist.slnil | exact List.Sublist.refl _ | apply List.Sublist.cons_cons | apply List.Sublist.cons))) ?_
                refine a_take 6 pan_cx (by kernel_rfl) (fun _ hw => hw.sub (by repeat (first | exact List.Sublist.slnil | exact List.Sublist.refl _ | apply List.Sublist.cons_cons | apply List.Sublist.cons))) rfl (by kernel_rfl) (by kernel_rfl) (v_move rfl) rfl ?_
                refine a_take 7 pan_cx (by kernel_rfl) (fun _ hw => hw.sub (by repeat (first | exact List.Sublist.slnil | exact List.Sublist.refl _ | apply List.Sublist.cons_cons | apply List.Sublist.cons))) rfl (by kernel_rfl) (by kernel_rfl) (v_extract rfl rfl) rfl ?_
                refine a_take 8 pan_cx (by kernel_rfl) (fun _ hw => hw.sub (by repeat (first | exact List.Sublist.slnil | exact List.Sublist.refl _ | apply List.Sublist.cons_cons | apply List.Sublist.cons))) rfl (by kernel_rfl) (by kernel_rfl) (v_extract rfl rfl) rfl ?_
                refine a_one 11 (by kernel_rfl) rfl rfl ?_
                refine x_storeA 0 rfl rfl rfl Try.hi70 (Try.cz70.trans (by simp [Value.cells, intsV, resCells, intCells, hsi, hsi1, hgi])) (by simp [Value.cells, intsV, resCells, intCells, hsi, hsi1, hgi]) (by first | exact one_intCells _ | exact one_resCells _ _) ?_
                refine a_and (fun _ hw => hw.sub (by repeat (first | exact List.Sublist.slnil | exact List.Sublist.refl _ | apply List.Sublist.cons_cons | apply List.Sublist.cons))) ?_
                refine a_one 12 (by kernel_rfl) rfl rfl ?_
                refine x_storeA 1 rfl rfl rfl Try.hi93 (Try.cz93.trans (by simp [Value.cells, intsV, resCells, intCells, hsi, hsi1, hgi])) (by simp [Value.cells, intsV, resCells, intCells, hsi, hsi1, hgi]) (by first | exact one_intCells _ | exact one_resCells _ _) ?_
                refine a_and (fun _ hw => hw.sub (by repeat (first | exact List.Sublist.slnil | exact List.Sublist.refl _ | apply List.Sublist.cons_cons | apply List.Sublist.cons))) ?_
                refine a_done (by kernel_rfl) ?_
                exact e_cutEnd (b13, b14) trivial (by repeat (first | exact Sub.nil _ | refine Sub.cons rfl ?_)) (fun _ hw => by first | exact hw | exact hw.pick [1, 0, 2, 3, 4, 5, 6, 7, 8, 9] (by decide))
          · rintro ⟨b13, b14⟩ -
            dsimp only
            obtain ⟨x0, x1, x2, x3, x4, x5, x6, x7, x8, x9, rfl⟩ := list10 hsi1
            obtain ⟨g0, g1, g2, g3, rfl⟩ := list4 hgi
            refine e_seq ?_
            refine e_region ?_
            refine w_val (v_loadBA 0 rfl Try.underlying70 rfl Try.hi70 Try.cz70 rfl) rfl ?_
            refine w_op rfl ?_
            refine x_storeA 4 rfl rfl rfl Try.hi70 (Try.cz70.trans rfl) (by simp [intCells, hsi]) (one_intCells _) ?_
            refine w_nil ?_
            refine g_heap (m' := .blk b13 70 (intCells [x0, x1, x2, x3, x4, x5, x6, x7, x8, x9]) :: .blk b14 93 (resCells c [g0, g1, g2, g3]) :: (Chunk.blk b9 88 [sv] :: Chunk.blk b10 89 [rv] :: Chunk.blk b11 70 (intCells ([x0, x1, x2, x3, x4, x5, x6, x7, x8, x9])) :: Own (sv) 70 10 (i) (stsC s r (i)) :: Own (rv) 93 5 (i) (resL (resTo s r (i))) :: Chunk.blk b7 72 [ptrV pt] :: tbH pt 130 ht (filT s r (fun _ => false)))) (fun _ hw => hw) ?_
            refine e_cutH (σ := Value × Value) [1, 2, 7, 9, 10, 11, 12] (.cons rfl (.cons rfl (.cons rfl (.cons rfl (.cons rfl (.cons rfl (.cons rfl .nil))))))) (fun _ => []) (fun y => (Chunk.blk b9 88 [y.1] :: Chunk.blk b10 89 [y.2] :: Chunk.blk b11 70 (intCells ([x0, x1, x2, x3, x4, x5, x6, x7, x8, x9])) :: Own (y.1) 70 10 (i + 1) (stsC s r (i + 1)) :: Own (y.2) 93 5 (i + 1) (resL (resTo s r (i + 1))) :: Chunk.blk b7 72 [ptrV pt] :: tbH pt 130 ht (filT s r (fun _ => false)))) (fun _ => True) ?_ ?_
            · refine e_draw ([.blk b13 70 (intCells [x0, x1, x2, x3, x4, x5, x6, x7, x8, x9]), .blk b14 93 (resCells c [g0, g1, g2, g3])]) Try.mixed ?_
              refine a_take 1 pan_cx (by kernel_rfl) (fun _ hw => hw.sub (by repeat (first | exact List.Sublist.slnil | exact List.Sublist.refl _ | apply List.Sublist.cons_cons | apply List.Sublist.cons))) rfl (by kernel_rfl) (by kernel_rfl) (v_loadBA 0 rfl Try.underlying70 rfl Try.hi70 Try.cz70 rfl) rfl ?_
              refine a_take 5 pan_cx (by kernel_rfl) (fun _ hw => hw.sub (by repeat (first | exact List.Sublist.slnil | exact List.Sublist.refl _ | apply List.Sublist.cons_cons | apply List.Sublist.cons))) rfl (by kernel_rfl) (by kernel_rfl) (v_loadBA 1 rfl Try.underlying93 rfl Try.hi93 Try.cz93 rfl) rfl ?_
              refine a_all [0, 2, 4, 6] (by kernel_rfl) rfl ?_
              intro i hi
              simp only [List.mem_cons, List.not_mem_nil, or_false] at hi
              rcases hi with rfl | rfl | rfl | rfl
              · refine a_op rfl rfl ?_
                refine x_val (v_loadB 2 rfl Try.underlying88 rfl rfl rfl) rfl ?_
                refine a_and (fun _ hw => hw.sub (by repeat (first | exact List.Sublist.slnil | exact List.Sublist.refl _ | apply List.Sublist.cons_cons | apply List.Sublist.cons))) ?_
                refine a_all [2, 4, 6] (by kernel_rfl) rfl ?_
                intro i hi
                simp only [List.mem_cons, List.not_mem_nil, or_false] at hi
                rcases hi with rfl | rfl | rfl
                · refine a_op rfl rfl ?_
                  refine x_buildSlice _ (intCells [x0, x1, x2, x3, x4, x5, x6, x7, x8, x9]) rfl (run_buildSlice Try.underlying88 Try.hi70 Try.cz70 Try.zeroValue70 rfl (by kernel_rfl)) rfl (fun b63 => ?_)
                  refine a_and (fun _ hw => hw.sub (by repeat (first | exact List.Sublist.slnil | exact List.Sublist.refl _ | apply List.Sublist.cons_cons | apply List.Sublist.cons))) ?_
                  refine a_all [3, 4, 6] (by kernel_rfl) rfl ?_
                  intro i hi
                  simp only [List.mem_cons, List.not_mem_nil, or_false] at hi
                  rcases hi with rfl | rfl | rfl
                  · refine a_op rfl rfl ?_
                    refine x_appendIS (z := .agg #[.int .i64 0, .int .i64 0, .int .i64 0, .int .i64 0, .int .i64 0, .int .i64 0, .int .i64 0, .int .i64 0, .int .i64 0, .int .i64 0]) (n := i) (xs := stsC s r i) (size := 10) (bytes := 80) (k := 1) (news := intCells [x0, x1, x2, x3, x4, x5, x6, x7, x8, x9]) 6 rfl rfl rfl Try.underlying88 (by kernel_rfl) rfl (by decide) (fun w hw => blk_rds (hw.hold (Chunk.blk b63 70 (intCells [x0, x1, x2, x3, x4, x5, x6, x7, x8, x9])) (by first | exact List.mem_cons_self | exact List.mem_cons_of_mem _ List.mem_cons_self)) rfl) (by intro u hu; exact one_intCells _ u (by simpa using hu)) (by omega) (by simp only [maxLen]; omega) rfl (fun A4 cap4 _ => ?_)
                    refine a_and (fun _ hw => hw.sub (by repeat (first | exact List.Sublist.slnil | exact List.Sublist.refl _ | apply List.Sublist.cons_cons | apply List.Sublist.cons))) ?_
                    refine a_all [4, 6] (by kernel_rfl) rfl ?_
                    intro i hi
                    simp only [List.mem_cons, List.not_mem_nil, or_false] at hi
                    rcases hi with rfl | rfl
                    · refine a_op rfl rfl ?_
                      refine x_val (v_loadB 4 rfl Try.underlying89 rfl rfl rfl) rfl ?_
                      refine a_and (fun _ hw => hw.sub (by repeat (first | exact List.Sublist.slnil | exact List.Sublist.refl _ | apply List.Sublist.cons_cons | apply List.Sublist.cons))) ?_
                      refine a_one 6 (by kernel_rfl) rfl rfl ?_
                      refine x_buildSlice _ (resCells c [g0, g1, g2, g3]) rfl (run_buildSlice Try.underlying89 Try.hi93 Try.cz93 Try.zeroValue93 rfl (by kernel_rfl)) rfl (fun b67 => ?_)
                      refine a_and (fun _ hw => hw.sub (by repeat (first | exact List.Sublist.slnil | exact List.Sublist.refl _ | apply List.Sublist.cons_cons | apply List.Sublist.cons))) ?_
                      refine a_one 7 (by kernel_rfl) rfl rfl ?_
                      refine x_appendIS (z := .agg #[.int .i64 0, .int .i64 0, .int .i64 0, .int .i64 0, .int .i64 0]) (n := i) (xs := resL (resTo s r i)) (size := 5) (bytes := 40) (k := 1) (news := resCells c [g0, g1, g2, g3]) 8 rfl rfl rfl Try.underlying89 (by kernel_rfl) rfl (by decide) (fun w hw => blk_rds (hw.hold (Chunk.blk b67 93 (resCells c [g0, g1, g2, g3])) (by first | exact List.mem_cons_self | exact List.mem_cons_of_mem _ List.mem_cons_self)) rfl) (by intro u hu; exact one_resCells c [g0, g1, g2, g3] u (by simpa using hu)) (by omega) (by simp only [maxLen]; omega) rfl (fun A5 cap5 _ => ?_)
                      refine a_and (fun _ hw => hw.sub (by repeat (first | exact List.Sublist.slnil | exact List.Sublist.refl _ | apply List.Sublist.cons_cons | apply List.Sublist.cons))) ?_
                      refine a_one 8 (by kernel_rfl) rfl rfl ?_
                      refine x_store1 4 rfl rfl rfl Try.hi88 Try.cz88 rfl (by first | (simp; done) | (simp [intCells_len]; omega) | exact Nat.zero_lt_succ _) rfl ?_
                      refine a_and (fun _ hw => hw.sub (by repeat (first | exact List.Sublist.slnil | exact List.Sublist.refl _ | apply List.Sublist.cons_cons | apply List.Sublist.cons))) ?_
                      refine a_one 9 (by kernel_rfl) rfl rfl ?_
                      refine x_store1 5 rfl rfl rfl Try.hi89 Try.cz89 rfl (by first | (simp; done) | (simp [intCells_len]; omega) | exact Nat.zero_lt_succ _) rfl ?_
                      refine a_and (fun _ hw => hw.sub (by repeat (first | exact List.Sublist.slnil | exact List.Sublist.refl _ | apply List.Sublist.cons_cons | apply List.Sublist.cons))) ?_
                      refine a_done (by kernel_rfl) ?_
                      exact e_cutEnd (Value.slice A4 (i + 1) cap4, Value.slice A5 (i + 1) cap5) trivial (by repeat (first | exact Sub.nil _ | refine Sub.cons rfl ?_)) (fun _ hw => by rw [hst, hrs, resL_app, resL_one]; exact hw.pick [4, 5, 6, 7, 8, 9, 10, 11] (by decide))
                    · refine a_op rfl rfl ?_
                      refine x_buildSlice _ (resCells c [g0, g1, g2, g3]) rfl (run_buildSlice Try.underlying89 Try.hi93 Try.cz93 Try.zeroValue93 rfl (by kernel_rfl)) rfl (fun b67 => ?_)
                      refine a_and (fun _ hw => hw.sub (by repeat (first | exact List.Sublist.slnil | exact List.Sublist.refl _ | apply List.Sublist.cons_cons | apply List.Sublist.cons))) ?_
                      refine a_one 4 (by kernel_rfl) rfl rfl ?_
                      refine x_val (v_loadB 5 rfl Try.underlying89 rfl rfl rfl) rfl ?_
                      refine a_and (fun _ hw => hw.sub (by repeat (first | exact List.Sublist.slnil | exact List.Sublist.refl _ | apply List.Sublist.cons_cons | apply List.Sublist.cons))) ?_
                      refine a_one 7 (by kernel_rfl) rfl rfl ?_
                      refine x_appendIS (z := .agg #[.int .i64 0, .int .i64 0, .int .i64 0, .int .i64 0, .int .i64 0]) (n := i) (xs := resL (resTo s r i)) (size := 5) (bytes := 40) (k := 1) (news := resCells c [g0, g1, g2, g3]) 8 rfl rfl rfl Try.underlying89 (by kernel_rfl) rfl (by decide) (fun w hw => blk_rds (hw.hold (Chunk.blk b67 93 (resCells c [g0, g1, g2, g3])) (by first | exact List.mem_cons_self | exact List.mem_cons_of_mem _ List.mem_cons_self)) rfl) (by intro u hu; exact one_resCells c [g0, g1, g2, g3] u (by simpa using hu)) (by omega) (by simp only [maxLen]; omega) rfl (fun A5 cap5 _ => ?_)
                      refine a_and (fun _ hw => hw.sub (by repeat (first | exact List.Sublist.slnil | exact List.Sublist.refl _ | apply List.Sublist.cons_cons | apply List.Sublist.cons))) ?_
                      refine a_one 8 (by kernel_rfl) rfl rfl ?_
                      refine x_store1 4 rfl rfl rfl Try.hi88 Try.cz88 rfl (by first | (simp; done) | (simp [intCells_len]; omega) | exact Nat.zero_lt_succ _) rfl ?_
                      refine a_and (fun _ hw => hw.sub (by repeat (first | exact List.Sublist.slnil | exact List.Sublist.refl _ | apply List.Sublist.cons_cons | apply List.Sublist.cons))) ?_
                      refine a_one 9 (by kernel_rfl) rfl rfl ?_
                      refine x_store1 5 rfl rfl rfl Try.hi89 Try.cz89 rfl (by first | (simp; done) | (simp [intCells_len]; omega) | exact Nat.zero_lt_succ _) rfl ?_
                      refine a_and (fun _ hw => hw.sub (by repeat (first | exact List.Sublist.slnil | exact List.Sublist.refl _ | apply List.Sublist.cons_cons | apply List.Sublist.cons))) ?_
                      refine a_done (by kernel_rfl) ?_
                      exact e_cutEnd (Value.slice A4 (i + 1) cap4, Value.slice A5 (i + 1) cap5) trivial (by repeat (first | exact Sub.nil _ | refine Sub.cons rfl ?_)) (fun _ hw => by rw [hst, hrs, resL_app, resL_one]; exact hw.pick [4, 5, 6, 7, 8, 9, 10, 11] (by decide))
                  · refine a_op rfl rfl ?_
                    refine x_val (v_loadB 4 rfl Try.underlying89 rfl rfl rfl) rfl ?_
                    refine a_and (fun _ hw => hw.sub (by repeat (first | exact List.Sublist.slnil | exact List.Sublist.refl _ | apply List.Sublist.cons_cons | apply List.Sublist.cons))) ?_
                    refine a_all [3, 6] (by kernel_rfl) rfl ?_
                    intro i hi
                    simp only [List.mem_cons, List.not_mem_nil, or_false] at hi
                    rcases hi with rfl | rfl
                    · refine a_op rfl rfl ?_
                      refine x_appendIS (z := .agg #[.int .i64 0, .int .i64 0, .int .i64 0, .int .i64 0, .int .i64 0, .int .i64 0, .int .i64 0, .int .i64 0, .int .i64 0, .int .i64 0]) (n := i) (xs := stsC s r i) (size := 10) (bytes := 80) (k := 1) (news := intCells [x0, x1, x2, x3, x4, x5, x6, x7, x8, x9]) 6 rfl rfl rfl Try.underlying88 (by kernel_rfl) rfl (by decide) (fun w hw => blk_rds (hw.hold (Chunk.blk b63 70 (intCells [x0, x1, x2, x3, x4, x5, x6, x7, x8, x9])) (by first | exact List.mem_cons_self | exact List.mem_cons_of_mem _ List.mem_cons_self)) rfl) (by intro u hu; exact one_intCells _ u (by simpa using hu)) (by omega) (by simp only [maxLen]; omega) rfl (fun A4 cap4 _ => ?_)
                      refine a_and (fun _ hw => hw.sub (by repeat (first | exact List.Sublist.slnil | exact List.Sublist.refl _ | apply List.Sublist.cons_cons | apply List.Sublist.cons))) ?_
                      refine a_one 6 (by kernel_rfl) rfl rfl ?_
                      refine x_buildSlice _ (resCells c [g0, g1, g2, g3]) rfl (run_buildSlice Try.underlying89 Try.hi93 Try.cz93 Try.zeroValue93 rfl (by kernel_rfl)) rfl (fun b67 => ?_)
                      refine a_and (fun _ hw => hw.sub (by repeat (first | exact List.Sublist.slnil | exact List.Sublist.refl _ | apply List.Sublist.cons_cons | apply List.Sublist.cons))) ?_
                      refine a_one 7 (by kernel_rfl) rfl rfl ?_
                      refine x_appendIS (z := .agg #[.int .i64 0, .int .i64 0, .int .i64 0, .int .i64 0, .int .i64 0]) (n := i) (xs := resL (resTo s r i)) (size := 5) (bytes := 40) (k := 1) (news := resCells c [g0, g1, g2, g3]) 8 rfl rfl rfl Try.underlying89 (by kernel_rfl) rfl (by decide) (fun w hw => blk_rds (hw.hold (Chunk.blk b67 93 (resCells c [g0, g1, g2, g3])) (by first | exact List.mem_cons_self | exact List.mem_cons_of_mem _ List.mem_cons_self)) rfl) (by intro u hu; exact one_resCells c [g0, g1, g2, g3] u (by simpa using hu)) (by omega) (by simp only [maxLen]; omega) rfl (fun A5 cap5 _ => ?_)
                      refine a_and (fun _ hw => hw.sub (by repeat (first | exact List.Sublist.slnil | exact List.Sublist.refl _ | apply List.Sublist.cons_cons | apply List.Sublist.cons))) ?_
                      refine a_one 8 (by kernel_rfl) rfl rfl ?_
                      refine x_store1 4 rfl rfl rfl Try.hi88 Try.cz88 rfl (by first | (simp; done) | (simp [intCells_len]; omega) | exact Nat.zero_lt_succ _) rfl ?_
                      refine a_and (fun _ hw => hw.sub (by repeat (first | exact List.Sublist.slnil | exact List.Sublist.refl _ | apply List.Sublist.cons_cons | apply List.Sublist.cons))) ?_
                      refine a_one 9 (by kernel_rfl) rfl rfl ?_
                      refine x_store1 5 rfl rfl rfl Try.hi89 Try.cz89 rfl (by first | (simp; done) | (simp [intCells_len]; omega) | exact Nat.zero_lt_succ _) rfl ?_
                      refine a_and (fun _ hw => hw.sub (by repeat (first | exact List.Sublist.slnil | exact List.Sublist.refl _ | apply List.Sublist.cons_cons | apply List.Sublist.cons))) ?_
                      refine a_done (by kernel_rfl) ?_
                      exact e_cutEnd (Value.slice A4 (i + 1) cap4, Value.slice A5 (i + 1) cap5) trivial (by repeat (first | exact Sub.nil _ | refine Sub.cons rfl ?_)) (fun _ hw => by rw [hst, hrs, resL_app, resL_one]; exact hw.pick [4, 5, 6, 7, 8, 9, 10, 11] (by decide))
                    · refine a_op rfl rfl ?_
                      refine x_buildSlice _ (resCells c [g0, g1, g2, g3]) rfl (run_buildSlice Try.underlying89 Try.hi93 Try.cz93 Try.zeroValue93 rfl (by kernel_rfl)) rfl (fun b67 => ?_)
                      refine a_and (fun _ hw => hw.sub (by repeat (first | exact List.Sublist.slnil | exact List.Sublist.refl _ | apply List.Sublist.cons_cons | apply List.Sublist.cons))) ?_
                      refine a_one 3 (by kernel_rfl) rfl rfl ?_
                      refine x_appendIS (z := .agg #[.int .i64 0, .int .i64 0, .int .i64 0, .int .i64 0, .int .i64 0, .int .i64 0, .int .i64 0, .int .i64 0, .int .i64 0, .int .i64 0]) (n := i) (xs := stsC s r i) (size := 10) (bytes := 80) (k := 1) (news := intCells [x0, x1, x2, x3, x4, x5, x6, x7, x8, x9]) 7 rfl rfl rfl Try.underlying88 (by kernel_rfl) rfl (by decide) (fun w hw => blk_rds (hw.hold (Chunk.blk b63 70 (intCells [x0, x1, x2, x3, x4, x5, x6, x7, x8, x9])) (by first | exact List.mem_cons_self | exact List.mem_cons_of_mem _ List.mem_cons_self)) rfl) (by intro u hu; exact one_intCells _ u (by simpa using hu)) (by omega) (by simp only [maxLen]; omega) rfl (fun A4 cap4 _ => ?_)
                      refine a_and (fun _ hw => hw.sub (by repeat (first | exact List.Sublist.slnil | exact List.Sublist.refl _ | apply List.Sublist.cons_cons | apply List.Sublist.cons))) ?_
                      refine a_one 7 (by kernel_rfl) rfl rfl ?_
                      refine x_appendIS (z := .agg #[.int .i64 0, .int .i64 0, .int .i64 0, .int .i64 0, .int .i64 0]) (n := i) (xs := resL (resTo s r i)) (size := 5) (bytes := 40) (k := 1) (news := resCells c [g0, g1, g2, g3]) 8 rfl rfl rfl Try.underlying89 (by kernel_rfl) rfl (by decide) (fun w hw => blk_rds (hw.hold (Chunk.blk b67 93 (resCells c [g0, g1, g2, g3])) (by first | exact List.mem_cons_self | exact List.mem_cons_of_mem _ List.mem_cons_self)) rfl) (by intro u hu; exact one_resCells c [g0, g1, g2, g3] u (by simpa using hu)) (by omega) (by simp only [maxLen]; omega) rfl (fun A5 cap5 _ => ?_)
                      refine a_and (fun _ hw => hw.sub (by repeat (first | exact List.Sublist.slnil | exact List.Sublist.refl _ | apply List.Sublist.cons_cons | apply List.Sublist.cons))) ?_
                      refine a_one 8 (by kernel_rfl) rfl rfl ?_
                      refine x_store1 4 rfl rfl rfl Try.hi88 Try.cz88 rfl (by first | (simp; done) | (simp [intCells_len]; omega) | exact Nat.zero_lt_succ _) rfl ?_
                      refine a_and (fun _ hw => hw.sub (by repeat (first | exact List.Sublist.slnil | exact List.Sublist.refl _ | apply List.Sublist.cons_cons | apply List.Sublist.cons))) ?_
                      refine a_one 9 (by kernel_rfl) rfl rfl ?_
                      refine x_store1 5 rfl rfl rfl Try.hi89 Try.cz89 rfl (by first | (simp; done) | (simp [intCells_len]; omega) | exact Nat.zero_lt_succ _) rfl ?_
                      refine a_and (fun _ hw => hw.sub (by repeat (first | exact List.Sublist.slnil | exact List.Sublist.refl _ | apply List.Sublist.cons_cons | apply List.Sublist.cons))) ?_
                      refine a_done (by kernel_rfl) ?_
                      exact e_cutEnd (Value.slice A4 (i + 1) cap4, Value.slice A5 (i + 1) cap5) trivial (by repeat (first | exact Sub.nil _ | refine Sub.cons rfl ?_)) (fun _ hw => by rw [hst, hrs, resL_app, resL_one]; exact hw.pick [4, 5, 6, 7, 8, 9, 10, 11] (by decide))
                  · refine a_op rfl rfl ?_
                    refine x_buildSlice _ (resCells c [g0, g1, g2, g3]) rfl (run_buildSlice Try.underlying89 Try.hi93 Try.cz93 Try.zeroValue93 rfl (by kernel_rfl)) rfl (fun b67 => ?_)
                    refine a_and (fun _ hw => hw.sub (by repeat (first | exact List.Sublist.slnil | exact List.Sublist.refl _ | apply List.Sublist.cons_cons | apply List.Sublist.cons))) ?_
                    refine a_all [3, 4] (by kernel_rfl) rfl ?_
                    intro i hi
                    simp only [List.mem_cons, List.not_mem_nil, or_false] at hi
                    rcases hi with rfl | rfl
                    · refine a_op rfl rfl ?_
                      refine x_appendIS (z := .agg #[.int .i64 0, .int .i64 0, .int .i64 0, .int .i64 0, .int .i64 0, .int .i64 0, .int .i64 0, .int .i64 0, .int .i64 0, .int .i64 0]) (n := i) (xs := stsC s r i) (size := 10) (bytes := 80) (k := 1) (news := intCells [x0, x1, x2, x3, x4, x5, x6, x7, x8, x9]) 7 rfl rfl rfl Try.underlying88 (by kernel_rfl) rfl (by decide) (fun w hw => blk_rds (hw.hold (Chunk.blk b63 70 (intCells [x0, x1, x2, x3, x4, x5, x6, x7, x8, x9])) (by first | exact List.mem_cons_self | exact List.mem_cons_of_mem _ List.mem_cons_self)) rfl) (by intro u hu; exact one_intCells _ u (by simpa using hu)) (by omega) (by simp only [maxLen]; omega) rfl (fun A4 cap4 _ => ?_)
                      refine a_and (fun _ hw => hw.sub (by repeat (first | exact List.Sublist.slnil | exact List.Sublist.refl _ | apply List.Sublist.cons_cons | apply List.Sublist.cons))) ?_
                      refine a_one 4 (by kernel_rfl) rfl rfl ?_
                      refine x_val (v_loadB 5 rfl Try.underlying89 rfl rfl rfl) rfl ?_
                      refine a_and (fun _ hw => hw.sub (by repeat (first | exact List.Sublist.slnil | exact List.Sublist.refl _ | apply List.Sublist.cons_cons | apply List.Sublist.cons))) ?_
                      refine a_one 7 (by kernel_rfl) rfl rfl ?_
                      refine x_appendIS (z := .agg #[.int .i64 0, .int .i64 0, .int .i64 0, .int .i64 0, .int .i64 0]) (n := i) (xs := resL (resTo s r i)) (size := 5) (bytes := 40) (k := 1) (news := resCells c [g0, g1, g2, g3]) 8 rfl rfl rfl Try.underlying89 (by kernel_rfl) rfl (by decide) (fun w hw => blk_rds (hw.hold (Chunk.blk b67 93 (resCells c [g0, g1, g2, g3])) (by first | exact List.mem_cons_self | exact List.mem_cons_of_mem _ List.mem_cons_self)) rfl) (by intro u hu; exact one_resCells c [g0, g1, g2, g3] u (by simpa using hu)) (by omega) (by simp only [maxLen]; omega) rfl (fun A5 cap5 _ => ?_)
                      refine a_and (fun _ hw => hw.sub (by repeat (first | exact List.Sublist.slnil | exact List.Sublist.refl _ | apply List.Sublist.cons_cons | apply List.Sublist.cons))) ?_
                      refine a_one 8 (by kernel_rfl) rfl rfl ?_
                      refine x_store1 4 rfl rfl rfl Try.hi88 Try.cz88 rfl (by first | (simp; done) | (simp [intCells_len]; omega) | exact Nat.zero_lt_succ _) rfl ?_
                      refine a_and (fun _ hw => hw.sub (by repeat (first | exact List.Sublist.slnil | exact List.Sublist.refl _ | apply List.Sublist.cons_cons | apply List.Sublist.cons))) ?_
                      refine a_one 9 (by kernel_rfl) rfl rfl ?_
                      refine x_store1 5 rfl rfl rfl Try.hi89 Try.cz89 rfl (by first | (simp; done) | (simp [intCells_len]; omega) | exact Nat.zero_lt_succ _) rfl ?_
                      refine a_and (fun _ hw => hw.sub (by repeat (first | exact List.Sublist.slnil | exact List.Sublist.refl _ | apply List.Sublist.cons_cons | apply List.Sublist.cons))) ?_
                      refine a_done (by kernel_rfl) ?_
                      exact e_cutEnd (Value.slice A4 (i + 1) cap4, Value.slice A5 (i + 1) cap5) trivial (by repeat (first | exact Sub.nil _ | refine Sub.cons rfl ?_)) (fun _ hw => by rw [hst, hrs, resL_app, resL_one]; exact hw.pick [4, 5, 6, 7, 8, 9, 10, 11] (by decide))
                    · refine a_op rfl rfl ?_
                      refine x_val (v_loadB 5 rfl Try.underlying89 rfl rfl rfl) rfl ?_
                      refine a_and (fun _ hw => hw.sub (by repeat (first | exact List.Sublist.slnil | exact List.Sublist.refl _ | apply List.Sublist.cons_cons | apply List.Sublist.cons))) ?_
                      refine a_one 3 (by kernel_rfl) rfl rfl ?_
                      refine x_appendIS (z := .agg #[.int .i64 0, .int .i64 0, .int .i64 0, .int .i64 0, .int .i64 0, .int .i64 0, .int .i64 0, .int .i64 0, .int .i64 0, .int .i64 0]) (n := i) (xs := stsC s r i) (size := 10) (bytes := 80) (k := 1) (news := intCells [x0, x1, x2, x3, x4, x5, x6, x7, x8, x9]) 7 rfl rfl rfl Try.underlying88 (by kernel_rfl) rfl (by decide) (fun w hw => blk_rds (hw.hold (Chunk.blk b63 70 (intCells [x0, x1, x2, x3, x4, x5, x6, x7, x8, x9])) (by first | exact List.mem_cons_self | exact List.mem_cons_of_mem _ List.mem_cons_self)) rfl) (by intro u hu; exact one_intCells _ u (by simpa using hu)) (by omega) (by simp only [maxLen]; omega) rfl (fun A4 cap4 _ => ?_)
                      refine a_and (fun _ hw => hw.sub (by repeat (first | exact List.Sublist.slnil | exact List.Sublist.refl _ | apply List.Sublist.cons_cons | apply List.Sublist.cons))) ?_
                      refine a_one 7 (by kernel_rfl) rfl rfl ?_
                      refine x_appendIS (z := .agg #[.int .i64 0, .int .i64 0, .int .i64 0, .int .i64 0, .int .i64 0]) (n := i) (xs := resL (resTo s r i)) (size := 5) (bytes := 40) (k := 1) (news := resCells c [g0, g1, g2, g3]) 8 rfl rfl rfl Try.underlying89 (by kernel_rfl) rfl (by decide) (fun w hw => blk_rds (hw.hold (Chunk.blk b67 93 (resCells c [g0, g1, g2, g3])) (by first | exact List.mem_cons_self | exact List.mem_cons_of_mem _ List.mem_cons_self)) rfl) (by intro u hu; exact one_resCells c [g0, g1, g2, g3] u (by simpa using hu)) (by omega) (by simp only [maxLen]; omega) rfl (fun A5 cap5 _ => ?_)
                      refine a_and (fun _ hw => hw.sub (by repeat (first | exact List.Sublist.slnil | exact List.Sublist.refl _ | apply List.Sublist.cons_cons | apply List.Sublist.cons))) ?_
                      refine a_one 8 (by kernel_rfl) rfl rfl ?_
                      refine x_store1 4 rfl rfl rfl Try.hi88 Try.cz88 rfl (by first | (simp; done) | (simp [intCells_len]; omega) | exact Nat.zero_lt_succ _) rfl ?_
                      refine a_and (fun _ hw => hw.sub (by repeat (first | exact List.Sublist.slnil | exact List.Sublist.refl _ | apply List.Sublist.cons_cons | apply List.Sublist.cons))) ?_
                      refine a_one 9 (by kernel_rfl) rfl rfl ?_
                      refine x_store1 5 rfl rfl rfl Try.hi89 Try.cz89 rfl (by first | (simp; done) | (simp [intCells_len]; omega) | exact Nat.zero_lt_succ _) rfl ?_
                      refine a_and (fun _ hw => hw.sub (by repeat (first | exact List.Sublist.slnil | exact List.Sublist.refl _ | apply List.Sublist.cons_cons | apply List.Sublist.cons))) ?_
                      refine a_done (by kernel_rfl) ?_
                      exact e_cutEnd (Value.slice A4 (i + 1) cap4, Value.slice A5 (i + 1) cap5) trivial (by repeat (first | exact Sub.nil _ | refine Sub.cons rfl ?_)) (fun _ hw => by rw [hst, hrs, resL_app, resL_one]; exact hw.pick [4, 5, 6, 7, 8, 9, 10, 11] (by decide))
                · refine a_op rfl rfl ?_
                  refine x_val (v_loadB 3 rfl Try.underlying89 rfl rfl rfl) rfl ?_
                  refine a_and (fun _ hw => hw.sub (by repeat (first | exact List.Sublist.slnil | exact List.Sublist.refl _ | apply List.Sublist.cons_cons | apply List.Sublist.cons))) ?_
                  refine a_all [2, 6] (by kernel_rfl) rfl ?_
                  intro i hi
                  simp only [List.mem_cons, List.not_mem_nil, or_false] at hi
                  rcases hi with rfl | rfl
                  · refine a_op rfl rfl ?_
                    refine x_buildSlice _ (intCells [x0, x1, x2, x3, x4, x5, x6, x7, x8, x9]) rfl (run_buildSlice Try.underlying88 Try.hi70 Try.cz70 Try.zeroValue70 rfl (by kernel_rfl)) rfl (fun b63 => ?_)
                    refine a_and (fun _ hw => hw.sub (by repeat (first | exact List.Sublist.slnil | exact List.Sublist.refl _ | apply List.Sublist.cons_cons | apply List.Sublist.cons))) ?_
                    refine a_all [3, 6] (by kernel_rfl) rfl ?_
                    intro i hi
                    simp only [List.mem_cons, List.not_mem_nil, or_false] at hi
                    rcases hi with rfl | rfl
                    · refine a_op rfl rfl ?_
                      refine x_appendIS (z := .agg #[.int .i64 0, .int .i64 0, .int .i64 0, .int .i64 0, .int .i64 0, .int .i64 0, .int .i64 0, .int .i64 0, .int .i64 0, .int .i64 0]) (n := i) (xs := stsC s r i) (size := 10) (bytes := 80) (k := 1) (news := intCells [x0, x1, x2, x3, x4, x5, x6, x7, x8, x9]) 6 rfl rfl rfl Try.underlying88 (by kernel_rfl) rfl (by decide) (fun w hw => blk_rds (hw.hold (Chunk.blk b63 70 (intCells [x0, x1, x2, x3, x4, x5, x6, x7, x8, x9])) (by first | exact List.mem_cons_self | exact List.mem_cons_of_mem _ List.mem_cons_self)) rfl) (by intro u hu; exact one_intCells _ u (by simpa using hu)) (by omega) (by simp only [maxLen]; omega) rfl (fun A4 cap4 _ => ?_)
                      refine a_and (fun _ hw => hw.sub (by repeat (first | exact List.Sublist.slnil | exact List.Sublist.refl _ | apply List.Sublist.cons_cons | apply List.Sublist.cons))) ?_
                      refine a_one 6 (by kernel_rfl) rfl rfl ?_
                      refine x_buildSlice _ (resCells c [g0, g1, g2, g3]) rfl (run_buildSlice Try.underlying89 Try.hi93 Try.cz93 Try.zeroValue93 rfl (by kernel_rfl)) rfl (fun b67 => ?_)
                      refine a_and (fun _ hw => hw.sub (by repeat (first | exact List.Sublist.slnil | exact List.Sublist.refl _ | apply List.Sublist.cons_cons | apply List.Sublist.cons))) ?_
                      refine a_one 7 (by kernel_rfl) rfl rfl ?_
                      refine x_appendIS (z := .agg #[.int .i64 0, .int .i64 0, .int .i64 0, .int .i64 0, .int .i64 0]) (n := i) (xs := resL (resTo s r i)) (size := 5) (bytes := 40) (k := 1) (news := resCells c [g0, g1, g2, g3]) 8 rfl rfl rfl Try.underlying89 (by kernel_rfl) rfl (by decide) (fun w hw => blk_rds (hw.hold (Chunk.blk b67 93 (resCells c [g0, g1, g2, g3])) (by first | exact List.mem_cons_self | exact List.mem_cons_of_mem _ List.mem_cons_self)) rfl) (by intro u hu; exact one_resCells c [g0, g1, g2, g3] u (by simpa using hu)) (by omega) (by simp only [maxLen]; omega) rfl (fun A5 cap5 _ => ?_)
                      refine a_and (fun _ hw => hw.sub (by repeat (first | exact List.Sublist.slnil | exact List.Sublist.refl _ | apply List.Sublist.cons_cons | apply List.Sublist.cons))) ?_
                      refine a_one 8 (by kernel_rfl) rfl rfl ?_
                      refine x_store1 4 rfl rfl rfl Try.hi88 Try.cz88 rfl (by first | (simp; done) | (simp [intCells_len]; omega) | exact Nat.zero_lt_succ _) rfl ?_
                      refine a_and (fun _ hw => hw.sub (by repeat (first | exact List.Sublist.slnil | exact List.Sublist.refl _ | apply List.Sublist.cons_cons | apply List.Sublist.cons))) ?_
                      refine a_one 9 (by kernel_rfl) rfl rfl ?_
                      refine x_store1 5 rfl rfl rfl Try.hi89 Try.cz89 rfl (by first | (simp; done) | (simp [intCells_len]; omega) | exact Nat.zero_lt_succ _) rfl ?_
                      refine a_and (fun _ hw => hw.sub (by repeat (first | exact List.Sublist.slnil | exact List.Sublist.refl _ | apply List.Sublist.cons_cons | apply List.Sublist.cons))) ?_
                      refine a_done (by kernel_rfl) ?_
                      exact e_cutEnd (Value.slice A4 (i + 1) cap4, Value.slice A5 (i + 1) cap5) trivial (by repeat (first | exact Sub.nil _ | refine Sub.cons rfl ?_)) (fun _ hw => by rw [hst, hrs, resL_app, resL_one]; exact hw.pick [4, 5, 6, 7, 8, 9, 10, 11] (by decide))
                    · refine a_op rfl rfl ?_
                      refine x_buildSlice _ (resCells c [g0, g1, g2, g3]) rfl (run_buildSlice Try.underlying89 Try.hi93 Try.cz93 Try.zeroValue93 rfl (by kernel_rfl)) rfl (fun b67 => ?_)
                      refine a_and (fun _ hw => hw.sub (by repeat (first | exact List.Sublist.slnil | exact List.Sublist.refl _ | apply List.Sublist.cons_cons | apply List.Sublist.cons))) ?_
                      refine a_one 3 (by kernel_rfl) rfl rfl ?_
                      refine x_appendIS (z := .agg #[.int .i64 0, .int .i64 0, .int .i64 0, .int .i64 0, .int .i64 0, .int .i64 0, .int .i64 0, .int .i64 0, .int .i64 0, .int .i64 0]) (n := i) (xs := stsC s r i) (size := 10) (bytes := 80) (k := 1) (news := intCells [x0, x1, x2, x3, x4, x5, x6, x7, x8, x9]) 7 rfl rfl rfl Try.underlying88 (by kernel_rfl) rfl (by decide) (fun w hw => blk_rds (hw.hold (Chunk.blk b63 70 (intCells [x0, x1, x2, x3, x4, x5, x6, x7, x8, x9])) (by first | exact List.mem_cons_self | exact List.mem_cons_of_mem _ List.mem_cons_self)) rfl) (by intro u hu; exact one_intCells _ u (by simpa using hu)) (by omega) (by simp only [maxLen]; omega) rfl (fun A4 cap4 _ => ?_)
                      refine a_and (fun _ hw => hw.sub (by repeat (first | exact List.Sublist.slnil | exact List.Sublist.refl _ | apply List.Sublist.cons_cons | apply List.Sublist.cons))) ?_
                      refine a_one 7 (by kernel_rfl) rfl rfl ?_
                      refine x_appendIS (z := .agg #[.int .i64 0, .int .i64 0, .int .i64 0, .int .i64 0, .int .i64 0]) (n := i) (xs := resL (resTo s r i)) (size := 5) (bytes := 40) (k := 1) (news := resCells c [g0, g1, g2, g3]) 8 rfl rfl rfl Try.underlying89 (by kernel_rfl) rfl (by decide) (fun w hw => blk_rds (hw.hold (Chunk.blk b67 93 (resCells c [g0, g1, g2, g3])) (by first | exact List.mem_cons_self | exact List.mem_cons_of_mem _ List.mem_cons_self)) rfl) (by intro u hu; exact one_resCells c [g0, g1, g2, g3] u (by simpa using hu)) (by omega) (by simp only [maxLen]; omega) rfl (fun A5 cap5 _ => ?_)
                      refine a_and (fun _ hw => hw.sub (by repeat (first | exact List.Sublist.slnil | exact List.Sublist.refl _ | apply List.Sublist.cons_cons | apply List.Sublist.cons))) ?_
                      refine a_one 8 (by kernel_rfl) rfl rfl ?_
                      refine x_store1 4 rfl rfl rfl Try.hi88 Try.cz88 rfl (by first | (simp; done) | (simp [intCells_len]; omega) | exact Nat.zero_lt_succ _) rfl ?_
                      refine a_and (fun _ hw => hw.sub (by repeat (first | exact List.Sublist.slnil | exact List.Sublist.refl _ | apply List.Sublist.cons_cons | apply List.Sublist.cons))) ?_
                      refine a_one 9 (by kernel_rfl) rfl rfl ?_
                      refine x_store1 5 rfl rfl rfl Try.hi89 Try.cz89 rfl (by first | (simp; done) | (simp [intCells_len]; omega) | exact Nat.zero_lt_succ _) rfl ?_
                      refine a_and (fun _ hw => hw.sub (by repeat (first | exact List.Sublist.slnil | exact List.Sublist.refl _ | apply List.Sublist.cons_cons | apply List.Sublist.cons))) ?_
                      refine a_done (by kernel_rfl) ?_
                      exact e_cutEnd (Value.slice A4 (i + 1) cap4, Value.slice A5 (i + 1) cap5) trivial (by repeat (first | exact Sub.nil _ | refine Sub.cons rfl ?_)) (fun _ hw => by rw [hst, hrs, resL_app, resL_one]; exact hw.pick [4, 5, 6, 7, 8, 9, 10, 11] (by decide))
                  · refine a_op rfl rfl ?_
                    refine x_buildSlice _ (resCells c [g0, g1, g2, g3]) rfl (run_buildSlice Try.underlying89 Try.hi93 Try.cz93 Try.zeroValue93 rfl (by kernel_rfl)) rfl (fun b67 => ?_)
                    refine a_and (fun _ hw => hw.sub (by repeat (first | exact List.Sublist.slnil | exact List.Sublist.refl _ | apply List.Sublist.cons_cons | apply List.Sublist.cons))) ?_
                    refine a_one 2 (by kernel_rfl) rfl rfl ?_
                    refine x_buildSlice _ (intCells [x0, x1, x2, x3, x4, x5, x6, x7, x8, x9]) rfl (run_buildSlice Try.underlying88 Try.hi70 Try.cz70 Try.zeroValue70 rfl (by kernel_rfl)) rfl (fun b63 => ?_)
                    refine a_and (fun _ hw => hw.sub (by repeat (first | exact List.Sublist.slnil | exact List.Sublist.refl _ | apply List.Sublist.cons_cons | apply List.Sublist.cons))) ?_
                    refine a_one 3 (by kernel_rfl) rfl rfl ?_
                    refine x_appendIS (z := .agg #[.int .i64 0, .int .i64 0, .int .i64 0, .int .i64 0, .int .i64 0, .int .i64 0, .int .i64 0, .int .i64 0, .int .i64 0, .int .i64 0]) (n := i) (xs := stsC s r i) (size := 10) (bytes := 80) (k := 1) (news := intCells [x0, x1, x2, x3, x4, x5, x6, x7, x8, x9]) 7 rfl rfl rfl Try.underlying88 (by kernel_rfl) rfl (by decide) (fun w hw => blk_rds (hw.hold (Chunk.blk b63 70 (intCells [x0, x1, x2, x3, x4, x5, x6, x7, x8, x9])) (by first | exact List.mem_cons_self | exact List.mem_cons_of_mem _ List.mem_cons_self)) rfl) (by intro u hu; exact one_intCells _ u (by simpa using hu)) (by omega) (by simp only [maxLen]; omega) rfl (fun A4 cap4 _ => ?_)
                    refine a_and (fun _ hw => hw.sub (by repeat (first | exact List.Sublist.slnil | exact List.Sublist.refl _ | apply List.Sublist.cons_cons | apply List.Sublist.cons))) ?_
                    refine a_one 7 (by kernel_rfl) rfl rfl ?_
                    refine x_appendIS (z := .agg #[.int .i64 0, .int .i64 0, .int .i64 0, .int .i64 0, .int .i64 0]) (n := i) (xs := resL (resTo s r i)) (size := 5) (bytes := 40) (k := 1) (news := resCells c [g0, g1, g2, g3]) 8 rfl rfl rfl Try.underlying89 (by kernel_rfl) rfl (by decide) (fun w hw => blk_rds (hw.hold (Chunk.blk b67 93 (resCells c [g0, g1, g2, g3])) (by first | exact List.mem_cons_self | exact List.mem_cons_of_mem _ List.mem_cons_self)) rfl) (by intro u hu; exact one_resCells c [g0, g1, g2, g3] u (by simpa using hu)) (by omega) (by simp only [maxLen]; omega) rfl (fun A5 cap5 _ => ?_)
                    refine a_and (fun _ hw => hw.sub (by repeat (first | exact List.Sublist.slnil | exact List.Sublist.refl _ | apply List.Sublist.cons_cons | apply List.Sublist.cons))) ?_
                    refine a_one 8 (by kernel_rfl) rfl rfl ?_
                    refine x_store1 4 rfl rfl rfl Try.hi88 Try.cz88 rfl (by first | (simp; done) | (simp [intCells_len]; omega) | exact Nat.zero_lt_succ _) rfl ?_
                    refine a_and (fun _ hw => hw.sub (by repeat (first | exact List.Sublist.slnil | exact List.Sublist.refl _ | apply List.Sublist.cons_cons | apply List.Sublist.cons))) ?_
                    refine a_one 9 (by kernel_rfl) rfl rfl ?_
                    refine x_store1 5 rfl rfl rfl Try.hi89 Try.cz89 rfl (by first | (simp; done) | (simp [intCells_len]; omega) | exact Nat.zero_lt_succ _) rfl ?_
                    refine a_and (fun _ hw => hw.sub (by repeat (first | exact List.Sublist.slnil | exact List.Sublist.refl _ | apply List.Sublist.cons_cons | apply List.Sublist.cons))) ?_
                    refine a_done (by kernel_rfl) ?_
                    exact e_cutEnd (Value.slice A4 (i + 1) cap4, Value.slice A5 (i + 1) cap5) trivial (by repeat (first | exact Sub.nil _ | refine Sub.cons rfl ?_)) (fun _ hw => by rw [hst, hrs, resL_app, resL_one]; exact hw.pick [4, 5, 6, 7, 8, 9, 10, 11] (by decide))
                · refine a_op rfl rfl ?_
                  refine x_buildSlice _ (resCells c [g0, g1, g2, g3]) rfl (run_buildSlice Try.underlying89 Try.hi93 Try.cz93 Try.zeroValue93 rfl (by kernel_rfl)) rfl (fun b67 => ?_)
                  refine a_and (fun _ hw => hw.sub (by repeat (first | exact List.Sublist.slnil | exact List.Sublist.refl _ | apply List.Sublist.cons_cons | apply List.Sublist.cons))) ?_
                  refine a_all [2, 4] (by kernel_rfl) rfl ?_
                  intro i hi
                  simp only [List.mem_cons, List.not_mem_nil, or_false] at hi
                  rcases hi with rfl | rfl
                  · refine a_op rfl rfl ?_
                    refine x_buildSlice _ (intCells [x0, x1, x2, x3, x4, x5, x6, x7, x8, x9]) rfl (run_buildSlice Try.underlying88 Try.hi70 Try.cz70 Try.zeroValue70 rfl (by kernel_rfl)) rfl (fun b63 => ?_)
                    refine a_and (fun _ hw => hw.sub (by repeat (first | exact List.Sublist.slnil | exact List.Sublist.refl _ | apply List.Sublist.cons_cons | apply List.Sublist.cons))) ?_
                    refine a_all [3, 4] (by kernel_rfl) rfl ?_
                    intro i hi
                    simp only [List.mem_cons, List.not_mem_nil, or_false] at hi
                    rcases hi with rfl | rfl
                    · refine a_op rfl rfl ?_
                      refine x_appendIS (z := .agg #[.int .i64 0, .int .i64 0, .int .i64 0, .int .i64 0, .int .i64 0, .int .i64 0, .int .i64 0, .int .i64 0, .int .i64 0, .int .i64 0]) (n := i) (xs := stsC s r i) (size := 10) (bytes := 80) (k := 1) (news := intCells [x0, x1, x2, x3, x4, x5, x6, x7, x8, x9]) 7 rfl rfl rfl Try.underlying88 (by kernel_rfl) rfl (by decide) (fun w hw => blk_rds (hw.hold (Chunk.blk b63 70 (intCells [x0, x1, x2, x3, x4, x5, x6, x7, x8, x9])) (by first | exact List.mem_cons_self | exact List.mem_cons_of_mem _ List.mem_cons_self)) rfl) (by intro u hu; exact one_intCells _ u (by simpa using hu)) (by omega) (by simp only [maxLen]; omega) rfl (fun A4 cap4 _ => ?_)
                      refine a_and (fun _ hw => hw.sub (by repeat (first | exact List.Sublist.slnil | exact List.Sublist.refl _ | apply List.Sublist.cons_cons | apply List.Sublist.cons))) ?_
                      refine a_one 4 (by kernel_rfl) rfl rfl ?_
                      refine x_val (v_loadB 5 rfl Try.underlying89 rfl rfl rfl) rfl ?_
                      refine a_and (fun _ hw => hw.sub (by repeat (first | exact List.Sublist.slnil | exact List.Sublist.refl _ | apply List.Sublist.cons_cons | apply List.Sublist.cons))) ?_
                      refine a_one 7 (by kernel_rfl) rfl rfl ?_
                      refine x_appendIS (z := .agg #[.int .i64 0, .int .i64 0, .int .i64 0, .int .i64 0, .int .i64 0]) (n := i) (xs := resL (resTo s r i)) (size := 5) (bytes := 40) (k := 1) (news := resCells c [g0, g1, g2, g3]) 8 rfl rfl rfl Try.underlying89 (by kernel_rfl) rfl (by decide) (fun w hw => blk_rds (hw.hold (Chunk.blk b67 93 (resCells c [g0, g1, g2, g3])) (by first | exact List.mem_cons_self | exact List.mem_cons_of_mem _ List.mem_cons_self)) rfl) (by intro u hu; exact one_resCells c [g0, g1, g2, g3] u (by simpa using hu)) (by omega) (by simp only [maxLen]; omega) rfl (fun A5 cap5 _ => ?_)
                      refine a_and (fun _ hw => hw.sub (by repeat (first | exact List.Sublist.slnil | exact List.Sublist.refl _ | apply List.Sublist.cons_cons | apply List.Sublist.cons))) ?_
                      refine a_one 8 (by kernel_rfl) rfl rfl ?_
                      refine x_store1 4 rfl rfl rfl Try.hi88 Try.cz88 rfl (by first | (simp; done) | (simp [intCells_len]; omega) | exact Nat.zero_lt_succ _) rfl ?_
                      refine a_and (fun _ hw => hw.sub (by repeat (first | exact List.Sublist.slnil | exact List.Sublist.refl _ | apply List.Sublist.cons_cons | apply List.Sublist.cons))) ?_
                      refine a_one 9 (by kernel_rfl) rfl rfl ?_
                      refine x_store1 5 rfl rfl rfl Try.hi89 Try.cz89 rfl (by first | (simp; done) | (simp [intCells_len]; omega) | exact Nat.zero_lt_succ _) rfl ?_
                      refine a_and (fun _ hw => hw.sub (by repeat (first | exact List.Sublist.slnil | exact List.Sublist.refl _ | apply List.Sublist.cons_cons | apply List.Sublist.cons))) ?_
                      refine a_done (by kernel_rfl) ?_
                      exact e_cutEnd (Value.slice A4 (i + 1) cap4, Value.slice A5 (i + 1) cap5) trivial (by repeat (first | exact Sub.nil _ | refine Sub.cons rfl ?_)) (fun _ hw => by rw [hst, hrs, resL_app, resL_one]; exact hw.pick [4, 5, 6, 7, 8, 9, 10, 11] (by decide))
                    · refine a_op rfl rfl ?_
                      refine x_val (v_loadB 5 rfl Try.underlying89 rfl rfl rfl) rfl ?_
                      refine a_and (fun _ hw => hw.sub (by repeat (first | exact List.Sublist.slnil | exact List.Sublist.refl _ | apply List.Sublist.cons_cons | apply List.Sublist.cons))) ?_
                      refine a_one 3 (by kernel_rfl) rfl rfl ?_
                      refine x_appendIS (z := .agg #[.int .i64 0, .int .i64 0, .int .i64 0, .int .i64 0, .int .i64 0, .int .i64 0, .int .i64 0, .int .i64 0, .int .i64 0, .int .i64 0]) (n := i) (xs := stsC s r i) (size := 10) (bytes := 80) (k := 1) (news := intCells [x0, x1, x2, x3, x4, x5, x6, x7, x8, x9]) 7 rfl rfl rfl Try.underlying88 (by kernel_rfl) rfl (by decide) (fun w hw => blk_rds (hw.hold (Chunk.blk b63 70 (intCells [x0, x1, x2, x3, x4, x5, x6, x7, x8, x9])) (by first | exact List.mem_cons_self | exact List.mem_cons_of_mem _ List.mem_cons_self)) rfl) (by intro u hu; exact one_intCells _ u (by simpa using hu)) (by omega) (by simp only [maxLen]; omega) rfl (fun A4 cap4 _ => ?_)
                      refine a_and (fun _ hw => hw.sub (by repeat (first | exact List.Sublist.slnil | exact List.Sublist.refl _ | apply List.Sublist.cons_cons | apply List.Sublist.cons))) ?_
                      refine a_one 7 (by kernel_rfl) rfl rfl ?_
                      refine x_appendIS (z := .agg #[.int .i64 0, .int .i64 0, .int .i64 0, .int .i64 0, .int .i64 0]) (n := i) (xs := resL (resTo s r i)) (size := 5) (bytes := 40) (k := 1) (news := resCells c [g0, g1, g2, g3]) 8 rfl rfl rfl Try.underlying89 (by kernel_rfl) rfl (by decide) (fun w hw => blk_rds (hw.hold (Chunk.blk b67 93 (resCells c [g0, g1, g2, g3])) (by first | exact List.mem_cons_self | exact List.mem_cons_of_mem _ List.mem_cons_self)) rfl) (by intro u hu; exact one_resCells c [g0, g1, g2, g3] u (by simpa using hu)) (by omega) (by simp only [maxLen]; omega) rfl (fun A5 cap5 _ => ?_)
                      refine a_and (fun _ hw => hw.sub (by repeat (first | exact List.Sublist.slnil | exact List.Sublist.refl _ | apply List.Sublist.cons_cons | apply List.Sublist.cons))) ?_
                      refine a_one 8 (by kernel_rfl) rfl rfl ?_
                      refine x_store1 4 rfl rfl rfl Try.hi88 Try.cz88 rfl (by first | (simp; done) | (simp [intCells_len]; omega) | exact Nat.zero_lt_succ _) rfl ?_
                      refine a_and (fun _ hw => hw.sub (by repeat (first | exact List.Sublist.slnil | exact List.Sublist.refl _ | apply List.Sublist.cons_cons | apply List.Sublist.cons))) ?_
                      refine a_one 9 (by kernel_rfl) rfl rfl ?_
                      refine x_store1 5 rfl rfl rfl Try.hi89 Try.cz89 rfl (by first | (simp; done) | (simp [intCells_len]; omega) | exact Nat.zero_lt_succ _) rfl ?_
                      refine a_and (fun _ hw => hw.sub (by repeat (first | exact List.Sublist.slnil | exact List.Sublist.refl _ | apply List.Sublist.cons_cons | apply List.Sublist.cons))) ?_
                      refine a_done (by kernel_rfl) ?_
                      exact e_cutEnd (Value.slice A4 (i + 1) cap4, Value.slice A5 (i + 1) cap5) trivial (by repeat (first | exact Sub.nil _ | refine Sub.cons rfl ?_)) (fun _ hw => by rw [hst, hrs, resL_app, resL_one]; exact hw.pick [4, 5, 6, 7, 8, 9, 10, 11] (by decide))
                  · refine a_op rfl rfl ?_
                    refine x_val (v_loadB 4 rfl Try.underlying89 rfl rfl rfl) rfl ?_
                    refine a_and (fun _ hw => hw.sub (by repeat (first | exact List.Sublist.slnil | exact List.Sublist.refl _ | apply List.Sublist.cons_cons | apply List.Sublist.cons))) ?_
                    refine a_one 2 (by kernel_rfl) rfl rfl ?_
                    refine x_buildSlice _ (intCells [x0, x1, x2, x3, x4, x5, x6, x7, x8, x9]) rfl (run_buildSlice Try.underlying88 Try.hi70 Try.cz70 Try.zeroValue70 rfl (by kernel_rfl)) rfl (fun b63 => ?_)
                    refine a_and (fun _ hw => hw.sub (by repeat (first | exact List.Sublist.slnil | exact List.Sublist.refl _ | apply List.Sublist.cons_cons | apply List.Sublist.cons))) ?_
                    refine a_one 3 (by kernel_rfl) rfl rfl ?_
                    refine x_appendIS (z := .agg #[.int .i64 0, .int .i64 0, .int .i64 0, .int .i64 0, .int .i64 0, .int .i64 0, .int .i64 0, .int .i64 0, .int .i64 0, .int .i64 0]) (n := i) (xs := stsC s r i) (size := 10) (bytes := 80) (k := 1) (news := intCells [x0, x1, x2, x3, x4, x5, x6, x7, x8, x9]) 7 rfl rfl rfl Try.underlying88 (by kernel_rfl) rfl (by decide) (fun w hw => blk_rds (hw.hold (Chunk.blk b63 70 (intCells [x0, x1, x2, x3, x4, x5, x6, x7, x8, x9])) (by first | exact List.mem_cons_self | exact List.mem_cons_of_mem _ List.mem_cons_self)) rfl) (by intro u hu; exact one_intCells _ u (by simpa using hu)) (by omega) (by simp only [maxLen]; omega) rfl (fun A4 cap4 _ => ?_)
                    refine a_and (fun _ hw => hw.sub (by repeat (first | exact List.Sublist.slnil | exact List.Sublist.refl _ | apply List.Sublist.cons_cons | apply List.Sublist.cons))) ?_
                    refine a_one 7 (by kernel_rfl) rfl rfl ?_
                    refine x_appendIS (z := .agg #[.int .i64 0, .int .i64 0, .int .i64 0, .int .i64 0, .int .i64 0]) (n := i) (xs := resL (resTo s r i)) (size := 5) (bytes := 40) (k := 1) (news := resCells c [g0, g1, g2, g3]) 8 rfl rfl rfl Try.underlying89 (by kernel_rfl) rfl (by decide) (fun w hw => blk_rds (hw.hold (Chunk.blk b67 93 (resCells c [g0, g1, g2, g3])) (by first | exact List.mem_cons_self | exact List.mem_cons_of_mem _ List.mem_cons_self)) rfl) (by intro u hu; exact one_resCells c [g0, g1, g2, g3] u (by simpa using hu)) (by omega) (by simp only [maxLen]; omega) rfl (fun A5 cap5 _ => ?_)
                    refine a_and (fun _ hw => hw.sub (by repeat (first | exact List.Sublist.slnil | exact List.Sublist.refl _ | apply List.Sublist.cons_cons | apply List.Sublist.cons))) ?_
                    refine a_one 8 (by kernel_rfl) rfl rfl ?_
                    refine x_store1 4 rfl rfl rfl Try.hi88 Try.cz88 rfl (by first | (simp; done) | (simp [intCells_len]; omega) | exact Nat.zero_lt_succ _) rfl ?_
                    refine a_and (fun _ hw => hw.sub (by repeat (first | exact List.Sublist.slnil | exact List.Sublist.refl _ | apply List.Sublist.cons_cons | apply List.Sublist.cons))) ?_
                    refine a_one 9 (by kernel_rfl) rfl rfl ?_
                    refine x_store1 5 rfl rfl rfl Try.hi89 Try.cz89 rfl (by first | (simp; done) | (simp [intCells_len]; omega) | exact Nat.zero_lt_succ _) rfl ?_
                    refine a_and (fun _ hw => hw.sub (by repeat (first | exact List.Sublist.slnil | exact List.Sublist.refl _ | apply List.Sublist.cons_cons | apply List.Sublist.cons))) ?_
                    refine a_done (by kernel_rfl) ?_
                    exact e_cutEnd (Value.slice A4 (i + 1) cap4, Value.slice A5 (i + 1) cap5) trivial (by repeat (first | exact Sub.nil _ | refine Sub.cons rfl ?_)) (fun _ hw => by rw [hst, hrs, resL_app, resL_one]; exact hw.pick [4, 5, 6, 7, 8, 9, 10, 11] (by decide))
              · refine a_op rfl rfl ?_
                refine x_buildSlice _ (intCells [x0, x1, x2, x3, x4, x5, x6, x7, x8, x9]) rfl (run_buildSlice Try.underlying88 Try.hi70 Try.cz70 Try.zeroValue70 rfl (by kernel_rfl)) rfl (fun b63 => ?_)
                refine a_and (fun _ hw => hw.sub (by repeat (first | exact List.Sublist.slnil | exact List.Sublist.refl _ | apply List.Sublist.cons_cons | apply List.Sublist.cons))) ?_
                refine a_all [0, 4, 6] (by kernel_rfl) rfl ?_
                intro i hi
                simp only [List.mem_cons, List.not_mem_nil, or_false] at hi
                rcases hi with rfl | rfl | rfl
                · refine a_op rfl rfl ?_
                  refine x_val (v_loadB 3 rfl Try.underlying88 rfl rfl rfl) rfl ?_
                  refine a_and (fun _ hw => hw.sub (by repeat (first | exact List.Sublist.slnil | exact List.Sublist.refl _ | apply List.Sublist.cons_cons | apply List.Sublist.cons))) ?_
                  refine a_all [3, 4, 6] (by kernel_rfl) rfl ?_
                  intro i hi
                  simp only [List.mem_cons, List.not_mem_nil, or_false] at hi
                  rcases hi with rfl | rfl | rfl
                  · refine a_op rfl rfl ?_
                    refine x_appendIS (z := .agg #[.int .i64 0, .int .i64 0, .int .i64 0, .int .i64 0, .int .i64 0, .int .i64 0, .int .i64 0, .int .i64 0, .int .i64 0, .int .i64 0]) (n := i) (xs := stsC s r i) (size := 10) (bytes := 80) (k := 1) (news := intCells [x0, x1, x2, x3, x4, x5, x6, x7, x8, x9]) 6 rfl rfl rfl Try.underlying88 (by kernel_rfl) rfl (by decide) (fun w hw => blk_rds (hw.hold (Chunk.blk b63 70 (intCells [x0, x1, x2, x3, x4, x5, x6, x7, x8, x9])) (by first | exact List.mem_cons_self | exact List.mem_cons_of_mem _ List.mem_cons_self)) rfl) (by intro u hu; exact one_intCells _ u (by simpa using hu)) (by omega) (by simp only [maxLen]; omega) rfl (fun A4 cap4 _ => ?_)
                    refine a_and (fun _ hw => hw.sub (by repeat (first | exact List.Sublist.slnil | exact List.Sublist.refl _ | apply List.Sublist.cons_cons | apply List.Sublist.cons))) ?_
                    refine a_all [4, 6] (by kernel_rfl) rfl ?_
                    intro i hi
                    simp only [List.mem_cons, List.not_mem_nil, or_false] at hi
                    rcases hi with rfl | rfl
                    · refine a_op rfl rfl ?_
                      refine x_val (v_loadB 4 rfl Try.underlying89 rfl rfl rfl) rfl ?_
                      refine a_and (fun _ hw => hw.sub (by repeat (first | exact List.Sublist.slnil | exact List.Sublist.refl _ | apply List.Sublist.cons_cons | apply List.Sublist.cons))) ?_
                      refine a_one 6 (by kernel_rfl) rfl rfl ?_
                      refine x_buildSlice _ (resCells c [g0, g1, g2, g3]) rfl (run_buildSlice Try.underlying89 Try.hi93 Try.cz93 Try.zeroValue93 rfl (by kernel_rfl)) rfl (fun b67 => ?_)
                      refine a_and (fun _ hw => hw.sub (by repeat (first | exact List.Sublist.slnil | exact List.Sublist.refl _ | apply List.Sublist.cons_cons | apply List.Sublist.cons))) ?_
                      refine a_one 7 (by kernel_rfl) rfl rfl ?_
                      refine x_appendIS (z := .agg #[.int .i64 0, .int .i64 0, .int .i64 0, .int .i64 0, .int .i64 0]) (n := i) (xs := resL (resTo s r i)) (size := 5) (bytes := 40) (k := 1) (news := resCells c [g0, g1, g2, g3]) 8 rfl rfl rfl Try.underlying89 (by kernel_rfl) rfl (by decide) (fun w hw => blk_rds (hw.hold (Chunk.blk b67 93 (resCells c [g0, g1, g2, g3])) (by first | exact List.mem_cons_self | exact List.mem_cons_of_mem _ List.mem_cons_self)) rfl) (by intro u hu; exact one_resCells c [g0, g1, g2, g3] u (by simpa using hu)) (by omega) (by simp only [maxLen]; omega) rfl (fun A5 cap5 _ => ?_)
                      refine a_and (fun _ hw => hw.sub (by repeat (first | exact List.Sublist.slnil | exact List.Sublist.refl _ | apply List.Sublist.cons_cons | apply List.Sublist.cons))) ?_
                      refine a_one 8 (by kernel_rfl) rfl rfl ?_
                      refine x_store1 4 rfl rfl rfl Try.hi88 Try.cz88 rfl (by first | (simp; done) | (simp [intCells_len]; omega) | exact Nat.zero_lt_succ _) rfl ?_
                      refine a_and (fun _ hw => hw.sub (by repeat (first | exact List.Sublist.slnil | exact List.Sublist.refl _ | apply List.Sublist.cons_cons | apply List.Sublist.cons))) ?_
                      refine a_one 9 (by kernel_rfl) rfl rfl ?_
                      refine x_store1 5 rfl rfl rfl Try.hi89 Try.cz89 rfl (by first | (simp; done) | (simp [intCells_len]; omega) | exact Nat.zero_lt_succ _) rfl ?_
                      refine a_and (fun _ hw => hw.sub (by repeat (first | exact List.Sublist.slnil | exact List.Sublist.refl _ | apply List.Sublist.cons_cons | apply List.Sublist.cons))) ?_
                      refine a_done (by kernel_rfl) ?_
                      exact e_cutEnd (Value.slice A4 (i + 1) cap4, Value.slice A5 (i + 1) cap5) trivial (by repeat (first | exact Sub.nil _ | refine Sub.cons rfl ?_)) (fun _ hw => by rw [hst, hrs, resL_app, resL_one]; exact hw.pick [4, 5, 6, 7, 8, 9, 10, 11] (by decide))
                    · refine a_op rfl rfl ?_
                      refine x_buildSlice _ (resCells c [g0, g1, g2, g3]) rfl (run_buildSlice Try.underlying89 Try.hi93 Try.cz93 Try.zeroValue93 rfl (by kernel_rfl)) rfl (fun b67 => ?_)
                      refine a_and (fun _ hw => hw.sub (by repeat (first | exact List.Sublist.slnil | exact List.Sublist.refl _ | apply List.Sublist.cons_cons | apply List.Sublist.cons))) ?_
                      refine a_one 4 (by kernel_rfl) rfl rfl ?_
                      refine x_val (v_loadB 5 rfl Try.underlying89 rfl rfl rfl) rfl ?_
                      refine a_and (fun _ hw => hw.sub (by repeat (first | exact List.Sublist.slnil | exact List.Sublist.refl _ | apply List.Sublist.cons_cons | apply List.Sublist.cons))) ?_
                      refine a_one 7 (by kernel_rfl) rfl rfl ?_
                      refine x_appendIS (z := .agg #[.int .i64 0, .int .i64 0, .int .i64 0, .int .i64 0, .int .i64 0]) (n := i) (xs := resL (resTo s r i)) (size := 5) (bytes := 40) (k := 1) (news := resCells c [g0, g1, g2, g3]) 8 rfl rfl rfl Try.underlying89 (by kernel_rfl) rfl (by decide) (fun w hw => blk_rds (hw.hold (Chunk.blk b67 93 (resCells c [g0, g1, g2, g3])) (by first | exact List.mem_cons_self | exact List.mem_cons_of_mem _ List.mem_cons_self)) rfl) (by intro u hu; exact one_resCells c [g0, g1, g2, g3] u (by simpa using hu)) (by omega) (by simp only [maxLen]; omega) rfl (fun A5 cap5 _ => ?_)
                      refine a_and (fun _ hw => hw.sub (by repeat (first | exact List.Sublist.slnil | exact List.Sublist.refl _ | apply List.Sublist.cons_cons | apply List.Sublist.cons))) ?_
                      refine a_one 8 (by kernel_rfl) rfl rfl ?_
                      refine x_store1 4 rfl rfl rfl Try.hi88 Try.cz88 rfl (by first | (simp; done) | (simp [intCells_len]; omega) | exact Nat.zero_lt_succ _) rfl ?_
                      refine a_and (fun _ hw => hw.sub (by repeat (first | exact List.Sublist.slnil | exact List.Sublist.refl _ | apply List.Sublist.cons_cons | apply List.Sublist.cons))) ?_
                      refine a_one 9 (by kernel_rfl) rfl rfl ?_
                      refine x_store1 5 rfl rfl rfl Try.hi89 Try.cz89 rfl (by first | (simp; done) | (simp [intCells_len]; omega) | exact Nat.zero_lt_succ _) rfl ?_
                      refine a_and (fun _ hw => hw.sub (by repeat (first | exact List.Sublist.slnil | exact List.Sublist.refl _ | apply List.Sublist.cons_cons | apply List.Sublist.cons))) ?_
                      refine a_done (by kernel_rfl) ?_
                      exact e_cutEnd (Value.slice A4 (i + 1) cap4, Value.slice A5 (i + 1) cap5) trivial (by repeat (first | exact Sub.nil _ | refine Sub.cons rfl ?_)) (fun _ hw => by rw [hst, hrs, resL_app, resL_one]; exact hw.pick [4, 5, 6, 7, 8, 9, 10, 11] (by decide))
                  · refine a_op rfl rfl ?_
                    refine x_val (v_loadB 4 rfl Try.underlying89 rfl rfl rfl) rfl ?_
                    refine a_and (fun _ hw => hw.sub (by repeat (first | exact List.Sublist.slnil | exact List.Sublist.refl _ | apply List.Sublist.cons_cons | apply List.Sublist.cons))) ?_
                    refine a_all [3, 6] (by kernel_rfl) rfl ?_
                    intro i hi
                    simp only [List.mem_cons, List.not_mem_nil, or_false] at hi
                    rcases hi with rfl | rfl
                    · refine a_op rfl rfl ?_
                      refine x_appendIS (z := .agg #[.int .i64 0, .int .i64 0, .int .i64 0, .int .i64 0, .int .i64 0, .int .i64 0, .int .i64 0, .int .i64 0, .int .i64 0, .int .i64 0]) (n := i) (xs := stsC s r i) (size := 10) (bytes := 80) (k := 1) (news := intCells [x0, x1, x2, x3, x4, x5, x6, x7, x8, x9]) 6 rfl rfl rfl Try.underlying88 (by kernel_rfl) rfl (by decide) (fun w hw => blk_rds (hw.hold (Chunk.blk b63 70 (intCells [x0, x1, x2, x3, x4, x5, x6, x7, x8, x9])) (by first | exact List.mem_cons_self | exact List.mem_cons_of_mem _ List.mem_cons_self)) rfl) (by intro u hu; exact one_intCells _ u (by simpa using hu)) (by omega) (by simp only [maxLen]; omega) rfl (fun A4 cap4 _ => ?_)
                      refine a_and (fun _ hw => hw.sub (by repeat (first | exact List.Sublist.slnil | exact List.Sublist.refl _ | apply List.Sublist.cons_cons | apply List.Sublist.cons))) ?_
                      refine a_one 6 (by kernel_rfl) rfl rfl ?_
                      refine x_buildSlice _ (resCells c [g0, g1, g2, g3]) rfl (run_buildSlice Try.underlying89 Try.hi93 Try.cz93 Try.zeroValue93 rfl (by kernel_rfl)) rfl (fun b67 => ?_)
                      refine a_and (fun _ hw => hw.sub (by repeat (first | exact List.Sublist.slnil | exact List.Sublist.refl _ | apply List.Sublist.cons_cons | apply List.Sublist.cons))) ?_
                      refine a_one 7 (by kernel_rfl) rfl rfl ?_
                      refine x_appendIS (z := .agg #[.int .i64 0, .int .i64 0, .int .i64 0, .int .i64 0, .int .i64 0]) (n := i) (xs := resL (resTo s r i)) (size := 5) (bytes := 40) (k := 1) (news := resCells c [g0, g1, g2, g3]) 8 rfl rfl rfl Try.underlying89 (by kernel_rfl) rfl (by decide) (fun w hw => blk_rds (hw.hold (Chunk.blk b67 93 (resCells c [g0, g1, g2, g3])) (by first | exact List.mem_cons_self | exact List.mem_cons_of_mem _ List.mem_cons_self)) rfl) (by intro u hu; exact one_resCells c [g0, g1, g2, g3] u (by simpa using hu)) (by omega) (by simp only [maxLen]; omega) rfl (fun A5 cap5 _ => ?_)
                      refine a_and (fun _ hw => hw.sub (by repeat (first | exact List.Sublist.slnil | exact List.Sublist.refl _ | apply List.Sublist.cons_cons | apply List.Sublist.cons))) ?_
                      refine a_one 8 (by kernel_rfl) rfl rfl ?_
                      refine x_store1 4 rfl rfl rfl Try.hi88 Try.cz88 rfl (by first | (simp; done) | (simp [intCells_len]; omega) | exact Nat.zero_lt_succ _) rfl ?_
                      refine a_and (fun _ hw => hw.sub (by repeat (first | exact List.Sublist.slnil | exact List.Sublist.refl _ | apply List.Sublist.cons_cons | apply List.Sublist.cons))) ?_
                      refine a_one 9 (by kernel_rfl) rfl rfl ?_
                      refine x_store1 5 rfl rfl rfl Try.hi89 Try.cz89 rfl (by first | (simp; done) | (simp [intCells_len]; omega) | exact Nat.zero_lt_succ _) rfl ?_
                      refine a_and (fun _ hw => hw.sub (by repeat (first | exact List.Sublist.slnil | exact List.Sublist.refl _ | apply List.Sublist.cons_cons | apply List.Sublist.cons))) ?_
                      refine a_done (by kernel_rfl) ?_
                      exact e_cutEnd (Value.slice A4 (i + 1) cap4, Value.slice A5 (i + 1) cap5) trivial (by repeat (first | exact Sub.nil _ | refine Sub.cons rfl ?_)) (fun _ hw => by rw [hst, hrs, resL_app, resL_one]; exact hw.pick [4, 5, 6, 7, 8, 9, 10, 11] (by decide))
                    · refine a_op rfl rfl ?_
                      refine x_buildSlice _ (resCells c [g0, g1, g2, g3]) rfl (run_buildSlice Try.underlying89 Try.hi93 Try.cz93 Try.zeroValue93 rfl (by kernel_rfl)) rfl (fun b67 => ?_)
                      refine a_and (fun _ hw => hw.sub (by repeat (first | exact List.Sublist.slnil | exact List.Sublist.refl _ | apply List.Sublist.cons_cons | apply List.Sublist.cons))) ?_
                      refine a_one 3 (by kernel_rfl) rfl rfl ?_
                      refine x_appendIS (z := .agg #[.int .i64 0, .int .i64 0, .int .i64 0, .int .i64 0, .int .i64 0, .int .i64 0, .int .i64 0, .int .i64 0, .int .i64 0, .int .i64 0]) (n := i) (xs := stsC s r i) (size := 10) (bytes := 80) (k := 1) (news := intCells [x0, x1, x2, x3, x4, x5, x6, x7, x8, x9]) 7 rfl rfl rfl Try.underlying88 (by kernel_rfl) rfl (by decide) (fun w hw => blk_rds (hw.hold (Chunk.blk b63 70 (intCells [x0, x1, x2, x3, x4, x5, x6, x7, x8, x9])) (by first | exact List.mem_cons_self | exact List.mem_cons_of_mem _ List.mem_cons_self)) rfl) (by intro u hu; exact one_intCells _ u (by simpa using hu)) (by omega) (by simp only [maxLen]; omega) rfl (fun A4 cap4 _ => ?_)
                      refine a_and (fun _ hw => hw.sub (by repeat (first | exact List.Sublist.slnil | exact List.Sublist.refl _ | apply List.Sublist.cons_cons | apply List.Sublist.cons))) ?_
                      refine a_one 7 (by kernel_rfl) rfl rfl ?_
                      refine x_appendIS (z := .agg #[.int .i64 0, .int .i64 0, .int .i64 0, .int .i64 0, .int .i64 0]) (n := i) (xs := resL (resTo s r i)) (size := 5) (bytes := 40) (k := 1) (news := resCells c [g0, g1, g2, g3]) 8 rfl rfl rfl Try.underlying89 (by kernel_rfl) rfl (by decide) (fun w hw => blk_rds (hw.hold (Chunk.blk b67 93 (resCells c [g0, g1, g2, g3])) (by first | exact List.mem_cons_self | exact List.mem_cons_of_mem _ List.mem_cons_self)) rfl) (by intro u hu; exact one_resCells c [g0, g1, g2, g3] u (by simpa using hu)) (by omega) (by simp only [maxLen]; omega) rfl (fun A5 cap5 _ => ?_)
                      refine a_and (fun _ hw => hw.sub (by repeat (first | exact List.Sublist.slnil | exact List.Sublist.refl _ | apply List.Sublist.cons_cons | apply List.Sublist.cons))) ?_
                      refine a_one 8 (by kernel_rfl) rfl rfl ?_
                      refine x_store1 4 rfl rfl rfl Try.hi88 Try.cz88 rfl (by first | (simp; done) | (simp [intCells_len]; omega) | exact Nat.zero_lt_succ _) rfl ?_
                      refine a_and (fun _ hw => hw.sub (by repeat (first | exact List.Sublist.slnil | exact List.Sublist.refl _ | apply List.Sublist.cons_cons | apply List.Sublist.cons))) ?_
                      refine a_one 9 (by kernel_rfl) rfl rfl ?_
                      refine x_store1 5 rfl rfl rfl Try.hi89 Try.cz89 rfl (by first | (simp; done) | (simp [intCells_len]; omega) | exact Nat.zero_lt_succ _) rfl ?_
                      refine a_and (fun _ hw => hw.sub (by repeat (first | exact List.Sublist.slnil | exact List.Sublist.refl _ | apply List.Sublist.cons_cons | apply List.Sublist.cons))) ?_
                      refine a_done (by kernel_rfl) ?_
                      exact e_cutEnd (Value.slice A4 (i + 1) cap4, Value.slice A5 (i + 1) cap5) trivial (by repeat (first | exact Sub.nil _ | refine Sub.cons rfl ?_)) (fun _ hw => by rw [hst, hrs, resL_app, resL_one]; exact hw.pick [4, 5, 6, 7, 8, 9, 10, 11] (by decide))
                  · refine a_op rfl rfl ?_
                    refine x_buildSlice _ (resCells c [g0, g1, g2, g3]) rfl (run_buildSlice Try.underlying89 Try.hi93 Try.cz93 Try.zeroValue93 rfl (by kernel_rfl)) rfl (fun b67 => ?_)
                    refine a_and (fun _ hw => hw.sub (by repeat (first | exact List.Sublist.slnil | exact List.Sublist.refl _ | apply List.Sublist.cons_cons | apply List.Sublist.cons))) ?_
                    refine a_all [3, 4] (by kernel_rfl) rfl ?_
                    intro i hi
                    simp only [List.mem_cons, List.not_mem_nil, or_false] at hi
                    rcases hi with rfl | rfl
                    · refine a_op rfl rfl ?_
                      refine x_appendIS (z := .agg #[.int .i64 0, .int .i64 0, .int .i64 0, .int .i64 0, .int .i64 0, .int .i64 0, .int .i64 0, .int .i64 0, .int .i64 0, .int .i64 0]) (n := i) (xs := stsC s r i) (size := 10) (bytes := 80) (k := 1) (news := intCells [x0, x1, x2, x3, x4, x5, x6, x7, x8, x9]) 7 rfl rfl rfl Try.underlying88 (by kernel_rfl) rfl (by decide) (fun w hw => blk_rds (hw.hold (Chunk.blk b63 70 (intCells [x0, x1, x2, x3, x4, x5, x6, x7, x8, x9])) (by first | exact List.mem_cons_self | exact List.mem_cons_of_mem _ List.mem_cons_self)) rfl) (by intro u hu; exact one_intCells _ u (by simpa using hu)) (by omega) (by simp only [maxLen]; omega) rfl (fun A4 cap4 _ => ?_)
                      refine a_and (fun _ hw => hw.sub (by repeat (first | exact List.Sublist.slnil | exact List.Sublist.refl _ | apply List.Sublist.cons_cons | apply List.Sublist.cons))) ?_
                      refine a_one 4 (by kernel_rfl) rfl rfl ?_
                      refine x_val (v_loadB 5 rfl Try.underlying89 rfl rfl rfl) rfl ?_
                      refine a_and (fun _ hw => hw.sub (by repeat (first | exact List.Sublist.slnil | exact List.Sublist.refl _ | apply List.Sublist.cons_cons | apply List.Sublist.cons))) ?_
                      refine a_one 7 (by kernel_rfl) rfl rfl ?_
                      refine x_appendIS (z := .agg #[.int .i64 0, .int .i64 0, .int .i64 0, .int .i64 0, .int .i64 0]) (n := i) (xs := resL (resTo s r i)) (size := 5) (bytes := 40) (k := 1) (news := resCells c [g0, g1, g2, g3]) 8 rfl rfl rfl Try.underlying89 (by kernel_rfl) rfl (by decide) (fun w hw => blk_rds (hw.hold (Chunk.blk b67 93 (resCells c [g0, g1, g2, g3])) (by first | exact List.mem_cons_self | exact List.mem_cons_of_mem _ List.mem_cons_self)) rfl) (by intro u hu; exact one_resCells c [g0, g1, g2, g3] u (by simpa using hu)) (by omega) (by simp only [maxLen]; omega) rfl (fun A5 cap5 _ => ?_)
                      refine a_and (fun _ hw => hw.sub (by repeat (first | exact List.Sublist.slnil | exact List.Sublist.refl _ | apply List.Sublist.cons_cons | apply List.Sublist.cons))) ?_
                      refine a_one 8 (by kernel_rfl) rfl rfl ?_
                      refine x_store1 4 rfl rfl rfl Try.hi88 Try.cz88 rfl (by first | (simp; done) | (simp [intCells_len]; omega) | exact Nat.zero_lt_succ _) rfl ?_
                      refine a_and (fun _ hw => hw.sub (by repeat (first | exact List.Sublist.slnil | exact List.Sublist.refl _ | apply List.Sublist.cons_cons | apply List.Sublist.cons))) ?_
                      refine a_one 9 (by kernel_rfl) rfl rfl ?_
                      refine x_store1 5 rfl rfl rfl Try.hi89 Try.cz89 rfl (by first | (simp; done) | (simp [intCells_len]; omega) | exact Nat.zero_lt_succ _) rfl ?_
                      refine a_and (fun _ hw => hw.sub (by repeat (first | exact List.Sublist.slnil | exact List.Sublist.refl _ | apply List.Sublist.cons_cons | apply List.Sublist.cons))) ?_
                      refine a_done (by kernel_rfl) ?_
                      exact e_cutEnd (Value.slice A4 (i + 1) cap4, Value.slice A5 (i + 1) cap5) trivial (by repeat (first | exact Sub.nil _ | refine Sub.cons rfl ?_)) (fun _ hw => by rw [hst, hrs, resL_app, resL_one]; exact hw.pick [4, 5, 6, 7, 8, 9, 10, 11] (by decide))
                    · refine a_op rfl rfl ?_
                      refine x_val (v_loadB 5 rfl Try.underlying89 rfl rfl rfl) rfl ?_
                      refine a_and (fun _ hw => hw.sub (by repeat (first | exact List.Sublist.slnil | exact List.Sublist.refl _ | apply List.Sublist.cons_cons | apply List.Sublist.cons))) ?_
                      refine a_one 3 (by kernel_rfl) rfl rfl ?_
                      refine x_appendIS (z := .agg #[.int .i64 0, .int .i64 0, .int .i64 0, .int .i64 0, .int .i64 0, .int .i64 0, .int .i64 0, .int .i64 0, .int .i64 0, .int .i64 0]) (n := i) (xs := stsC s r i) (size := 10) (bytes := 80) (k := 1) (news := intCells [x0, x1, x2, x3, x4, x5, x6, x7, x8, x9]) 7 rfl rfl rfl Try.underlying88 (by kernel_rfl) rfl (by decide) (fun w hw => blk_rds (hw.hold (Chunk.blk b63 70 (intCells [x0, x1, x2, x3, x4, x5, x6, x7, x8, x9])) (by first | exact List.mem_cons_self | exact List.mem_cons_of_mem _ List.mem_cons_self)) rfl) (by intro u hu; exact one_intCells _ u (by simpa using hu)) (by omega) (by simp only [maxLen]; omega) rfl (fun A4 cap4 _ => ?_)
                      refine a_and (fun _ hw => hw.sub (by repeat (first | exact List.Sublist.slnil | exact List.Sublist.refl _ | apply List.Sublist.cons_cons | apply List.Sublist.cons))) ?_
                      refine a_one 7 (by kernel_rfl) rfl rfl ?_
                      refine x_appendIS (z := .agg #[.int .i64 0, .int .i64 0, .int .i64 0, .int .i64 0, .int .i64 0]) (n := i) (xs := resL (resTo s r i)) (size := 5) (bytes := 40) (k := 1) (news := resCells c [g0, g1, g2, g3]) 8 rfl rfl rfl Try.underlying89 (by kernel_rfl) rfl (by decide) (fun w hw => blk_rds (hw.hold (Chunk.blk b67 93 (resCells c [g0, g1, g2, g3])) (by first | exact List.mem_cons_self | exact List.mem_cons_of_mem _ List.mem_cons_self)) rfl) (by intro u hu; exact one_resCells c [g0, g1, g2, g3] u (by simpa using hu)) (by omega) (by simp only [maxLen]; omega) rfl (fun A5 cap5 _ => ?_)
                      refine a_and (fun _ hw => hw.sub (by repeat (first | exact List.Sublist.slnil | exact List.Sublist.refl _ | apply List.Sublist.cons_cons | apply List.Sublist.cons))) ?_
                      refine a_one 8 (by kernel_rfl) rfl rfl ?_
                      refine x_store1 4 rfl rfl rfl Try.hi88 Try.cz88 rfl (by first | (simp; done) | (simp [intCells_len]; omega) | exact Nat.zero_lt_succ _) rfl ?_
                      refine a_and (fun _ hw => hw.sub (by repeat (first | exact List.Sublist.slnil | exact List.Sublist.refl _ | apply List.Sublist.cons_cons | apply List.Sublist.cons))) ?_
                      refine a_one 9 (by kernel_rfl) rfl rfl ?_
                      refine x_store1 5 rfl rfl rfl Try.hi89 Try.cz89 rfl (by first | (simp; done) | (simp [intCells_len]; omega) | exact Nat.zero_lt_succ _) rfl ?_
                      refine a_and (fun _ hw => hw.sub (by repeat (first | exact List.Sublist.slnil | exact List.Sublist.refl _ | apply List.Sublist.cons_cons | apply List.Sublist.cons))) ?_
                      refine a_done (by kernel_rfl) ?_
                      exact e_cutEnd (Value.slice A4 (i + 1) cap4, Value.slice A5 (i + 1) cap5) trivial (by repeat (first | exact Sub.nil _ | refine Sub.cons rfl ?_)) (fun _ hw => by rw [hst, hrs, resL_app, resL_one]; exact hw.pick [4, 5, 6, 7, 8, 9, 10, 11] (by decide))
                · refine a_op rfl rfl ?_
                  refine x_val (v_loadB 4 rfl Try.underlying89 rfl rfl rfl) rfl ?_
                  refine a_and (fun _ hw => hw.sub (by repeat (first | exact List.Sublist.slnil | exact List.Sublist.refl _ | apply List.Sublist.cons_cons | apply List.Sublist.cons))) ?_
                  refine a_all [0, 6] (by kernel_rfl) rfl ?_
                  intro i hi
                  simp only [List.mem_cons, List.not_mem_nil, or_false] at hi
                  rcases hi with rfl | rfl
                  · refine a_op rfl rfl ?_
                    refine x_val (v_loadB 3 rfl Try.underlying88 rfl rfl rfl) rfl ?_
                    refine a_and (fun _ hw => hw.sub (by repeat (first | exact List.Sublist.slnil | exact List.Sublist.refl _ | apply List.Sublist.cons_cons | apply List.Sublist.cons))) ?_
                    refine a_all [3, 6] (by kernel_rfl) rfl ?_
                    intro i hi
                    simp only [List.mem_cons, List.not_mem_nil, or_false] at hi
                    rcases hi with rfl | rfl
                    · refine a_op rfl rfl ?_
                      refine x_appendIS (z := .agg #[.int .i64 0, .int .i64 0, .int .i64 0, .int .i64 0, .int .i64 0, .int .i64 0, .int .i64 0, .int .i64 0, .int .i64 0, .int .i64 0]) (n := i) (xs := stsC s r i) (size := 10) (bytes := 80) (k := 1) (news := intCells [x0, x1, x2, x3, x4, x5, x6, x7, x8, x9]) 6 rfl rfl rfl Try.underlying88 (by kernel_rfl) rfl (by decide) (fun w hw => blk_rds (hw.hold (Chunk.blk b63 70 (intCells [x0, x1, x2, x3, x4, x5, x6, x7, x8, x9])) (by first | exact List.mem_cons_self | exact List.mem_cons_of_mem _ List.mem_cons_self)) rfl) (by intro u hu; exact one_intCells _ u (by simpa using hu)) (by omega) (by simp only [maxLen]; omega) rfl (fun A4 cap4 _ => ?_)
                      refine a_and (fun _ hw => hw.sub (by repeat (first | exact List.Sublist.slnil | exact List.Sublist.refl _ | apply List.Sublist.cons_cons | apply List.Sublist.cons))) ?_
                      refine a_one 6 (by kernel_rfl) rfl rfl ?_
                      refine x_buildSlice _ (resCells c [g0, g1, g2, g3]) rfl (run_buildSlice Try.underlying89 Try.hi93 Try.cz93 Try.zeroValue93 rfl (by kernel_rfl)) rfl (fun b67 => ?_)
                      refine a_and (fun _ hw => hw.sub (by repeat (first | exact List.Sublist.slnil | exact List.Sublist.refl _ | apply List.Sublist.cons_cons | apply List.Sublist.cons))) ?_
                      refine a_one 7 (by kernel_rfl) rfl rfl ?_
                      refine x_appendIS (z := .agg #[.int .i64 0, .int .i64 0, .int .i64 0, .int .i64 0, .int .i64 0]) (n := i) (xs := resL (resTo s r i)) (size := 5) (bytes := 40) (k := 1) (news := resCells c [g0, g1, g2, g3]) 8 rfl rfl rfl Try.underlying89 (by kernel_rfl) rfl (by decide) (fun w hw => blk_rds (hw.hold (Chunk.blk b67 93 (resCells c [g0, g1, g2, g3])) (by first | exact List.mem_cons_self | exact List.mem_cons_of_mem _ List.mem_cons_self)) rfl) (by intro u hu; exact one_resCells c [g0, g1, g2, g3] u (by simpa using hu)) (by omega) (by simp only [maxLen]; omega) rfl (fun A5 cap5 _ => ?_)
                      refine a_and (fun _ hw => hw.sub (by repeat (first | exact List.Sublist.slnil | exact List.Sublist.refl _ | apply List.Sublist.cons_cons | apply List.Sublist.cons))) ?_
                      refine a_one 8 (by kernel_rfl) rfl rfl ?_
                      refine x_store1 4 rfl rfl rfl Try.hi88 Try.cz88 rfl (by first | (simp; done) | (simp [intCells_len]; omega) | exact Nat.zero_lt_succ _) rfl ?_
                      refine a_and (fun _ hw => hw.sub (by repeat (first | exact List.Sublist.slnil | exact List.Sublist.refl _ | apply List.Sublist.cons_cons | apply List.Sublist.cons))) ?_
                      refine a_one 9 (by kernel_rfl) rfl rfl ?_
                      refine x_store1 5 rfl rfl rfl Try.hi89 Try.cz89 rfl (by first | (simp; done) | (simp [intCells_len]; omega) | exact Nat.zero_lt_succ _) rfl ?_
                      refine a_and (fun _ hw => hw.sub (by repeat (first | exact List.Sublist.slnil | exact List.Sublist.refl _ | apply List.Sublist.cons_cons | apply List.Sublist.cons))) ?_
                      refine a_done (by kernel_rfl) ?_
                      exact e_cutEnd (Value.slice A4 (i + 1) cap4, Value.slice A5 (i + 1) cap5) trivial (by repeat (first | exact Sub.nil _ | refine Sub.cons rfl ?_)) (fun _ hw => by rw [hst, hrs, resL_app, resL_one]; exact hw.pick [4, 5, 6, 7, 8, 9, 10, 11] (by decide))
                    · refine a_op rfl rfl ?_
                      refine x_buildSlice _ (resCells c [g0, g1, g2, g3]) rfl (run_buildSlice Try.underlying89 Try.hi93 Try.cz93 Try.zeroValue93 rfl (by kernel_rfl)) rfl (fun b67 => ?_)
                      refine a_and (fun _ hw => hw.sub (by repeat (first | exact List.Sublist.slnil | exact List.Sublist.refl _ | apply List.Sublist.cons_cons | apply List.Sublist.cons))) ?_
                      refine a_one 3 (by kernel_rfl) rfl rfl ?_
                      refine x_appendIS (z := .agg #[.int .i64 0, .int .i64 0, .int .i64 0, .int .i64 0, .int .i64 0, .int .i64 0, .int .i64 0, .int .i64 0, .int .i64 0, .int .i64 0]) (n := i) (xs := stsC s r i) (size := 10) (bytes := 80) (k := 1) (news := intCells [x0, x1, x2, x3, x4, x5, x6, x7, x8, x9]) 7 rfl rfl rfl Try.underlying88 (by kernel_rfl) rfl (by decide) (fun w hw => blk_rds (hw.hold (Chunk.blk b63 70 (intCells [x0, x1, x2, x3, x4, x5, x6, x7, x8, x9])) (by first | exact List.mem_cons_self | exact List.mem_cons_of_mem _ List.mem_cons_self)) rfl) (by intro u hu; exact one_intCells _ u (by simpa using hu)) (by omega) (by simp only [maxLen]; omega) rfl (fun A4 cap4 _ => ?_)
                      refine a_and (fun _ hw => hw.sub (by repeat (first | exact List.Sublist.slnil | exact List.Sublist.refl _ | apply List.Sublist.cons_cons | apply List.Sublist.cons))) ?_
                      refine a_one 7 (by kernel_rfl) rfl rfl ?_
                      refine x_appendIS (z := .agg #[.int .i64 0, .int .i64 0, .int .i64 0, .int .i64 0, .int .i64 0]) (n := i) (xs := resL (resTo s r i)) (size := 5) (bytes := 40) (k := 1) (news := resCells c [g0, g1, g2, g3]) 8 rfl rfl rfl Try.underlying89 (by kernel_rfl) rfl (by decide) (fun w hw => blk_rds (hw.hold (Chunk.blk b67 93 (resCells c [g0, g1, g2, g3])) (by first | exact List.mem_cons_self | exact List.mem_cons_of_mem _ List.mem_cons_self)) rfl) (by intro u hu; exact one_resCells c [g0, g1, g2, g3] u (by simpa using hu)) (by omega) (by simp only [maxLen]; omega) rfl (fun A5 cap5 _ => ?_)
                      refine a_and (fun _ hw => hw.sub (by repeat (first | exact List.Sublist.slnil | exact List.Sublist.refl _ | apply List.Sublist.cons_cons | apply List.Sublist.cons))) ?_
                      refine a_one 8 (by kernel_rfl) rfl rfl ?_
                      refine x_store1 4 rfl rfl rfl Try.hi88 Try.cz88 rfl (by first | (simp; done) | (simp [intCells_len]; omega) | exact Nat.zero_lt_succ _) rfl ?_
                      refine a_and (fun _ hw => hw.sub (by repeat (first | exact List.Sublist.slnil | exact List.Sublist.refl _ | apply List.Sublist.cons_cons | apply List.Sublist.cons))) ?_
                      refine a_one 9 (by kernel_rfl) rfl rfl ?_
                      refine x_store1 5 rfl rfl rfl Try.hi89 Try.cz89 rfl (by first | (simp; done) | (simp [intCells_len]; omega) | exact Nat.zero_lt_succ _) rfl ?_
                      refine a_and (fun _ hw => hw.sub (by repeat (first | exact List.Sublist.slnil | exact List.Sublist.refl _ | apply List.Sublist.cons_cons | apply List.Sublist.cons))) ?_
                      refine a_done (by kernel_rfl) ?_
                      exact e_cutEnd (Value.slice A4 (i + 1) cap4, Value.slice A5 (i + 1) cap5) trivial (by repeat (first | exact Sub.nil _ | refine Sub.cons rfl ?_)) (fun _ hw => by rw [hst, hrs, resL_app, resL_one]; exact hw.pick [4, 5, 6, 7, 8, 9, 10, 11] (by decide))
                  · refine a_op rfl rfl ?_
                    refine x_buildSlice _ (resCells c [g0, g1, g2, g3]) rfl (run_buildSlice Try.underlying89 Try.hi93 Try.cz93 Try.zeroValue93 rfl (by kernel_rfl)) rfl (fun b67 => ?_)
                    refine a_and (fun _ hw => hw.sub (by repeat (first | exact List.Sublist.slnil | exact List.Sublist.refl _ | apply List.Sublist.cons_cons | apply List.Sublist.cons))) ?_
                    refine a_one 0 (by kernel_rfl) rfl rfl ?_
                    refine x_val (v_loadB 4 rfl Try.underlying88 rfl rfl rfl) rfl ?_
                    refine a_and (fun _ hw => hw.sub (by repeat (first | exact List.Sublist.slnil | exact List.Sublist.refl _ | apply List.Sublist.cons_cons | apply List.Sublist.cons))) ?_
                    refine a_one 3 (by kernel_rfl) rfl rfl ?_
                    refine x_appendIS (z := .agg #[.int .i64 0, .int .i64 0, .int .i64 0, .int .i64 0, .int .i64 0, .int .i64 0, .int .i64 0, .int .i64 0, .int .i64 0, .int .i64 0]) (n := i) (xs := stsC s r i) (size := 10) (bytes := 80) (k := 1) (news := intCells [x0, x1, x2, x3, x4, x5, x6, x7, x8, x9]) 7 rfl rfl rfl Try.underlying88 (by kernel_rfl) rfl (by decide) (fun w hw => blk_rds (hw.hold (Chunk.blk b63 70 (intCells [x0, x1, x2, x3, x4, x5, x6, x7, x8, x9])) (by first | exact List.mem_cons_self | exact List.mem_cons_of_mem _ List.mem_cons_self)) rfl) (by intro u hu; exact one_intCells _ u (by simpa using hu)) (by omega) (by simp only [maxLen]; omega) rfl (fun A4 cap4 _ => ?_)
                    refine a_and (fun _ hw => hw.sub (by repeat (first | exact List.Sublist.slnil | exact List.Sublist.refl _ | apply List.Sublist.cons_cons | apply List.Sublist.cons))) ?_
                    refine a_one 7 (by kernel_rfl) rfl rfl ?_
                    refine x_appendIS (z := .agg #[.int .i64 0, .int .i64 0, .int .i64 0, .int .i64 0, .int .i64 0]) (n := i) (xs := resL (resTo s r i)) (size := 5) (bytes := 40) (k := 1) (news := resCells c [g0, g1, g2, g3]) 8 rfl rfl rfl Try.underlying89 (by kernel_rfl) rfl (by decide) (fun w hw => blk_rds (hw.hold (Chunk.blk b67 93 (resCells c [g0, g1, g2, g3])) (by first | exact List.mem_cons_self | exact List.mem_cons_of_mem _ List.mem_cons_self)) rfl) (by intro u hu; exact one_resCells c [g0, g1, g2, g3] u (by simpa using hu)) (by omega) (by simp only [maxLen]; omega) rfl (fun A5 cap5 _ => ?_)
                    refine a_and (fun _ hw => hw.sub (by repeat (first | exact List.Sublist.slnil | exact List.Sublist.refl _ | apply List.Sublist.cons_cons | apply List.Sublist.cons))) ?_
                    refine a_one 8 (by kernel_rfl) rfl rfl ?_
                    refine x_store1 4 rfl rfl rfl Try.hi88 Try.cz88 rfl (by first | (simp; done) | (simp [intCells_len]; omega) | exact Nat.zero_lt_succ _) rfl ?_
                    refine a_and (fun _ hw => hw.sub (by repeat (first | exact List.Sublist.slnil | exact List.Sublist.refl _ | apply List.Sublist.cons_cons | apply List.Sublist.cons))) ?_
                    refine a_one 9 (by kernel_rfl) rfl rfl ?_
                    refine x_store1 5 rfl rfl rfl Try.hi89 Try.cz89 rfl (by first | (simp; done) | (simp [intCells_len]; omega) | exact Nat.zero_lt_succ _) rfl ?_
                    refine a_and (fun _ hw => hw.sub (by repeat (first | exact List.Sublist.slnil | exact List.Sublist.refl _ | apply List.Sublist.cons_cons | apply List.Sublist.cons))) ?_
                    refine a_done (by kernel_rfl) ?_
                    exact e_cutEnd (Value.slice A4 (i + 1) cap4, Value.slice A5 (i + 1) cap5) trivial (by repeat (first | exact Sub.nil _ | refine Sub.cons rfl ?_)) (fun _ hw => by rw [hst, hrs, resL_app, resL_one]; exact hw.pick [4, 5, 6, 7, 8, 9, 10, 11] (by decide))
                · refine a_op rfl rfl ?_
                  refine x_buildSlice _ (resCells c [g0, g1, g2, g3]) rfl (run_buildSlice Try.underlying89 Try.hi93 Try.cz93 Try.zeroValue93 rfl (by kernel_rfl)) rfl (fun b67 => ?_)
                  refine a_and (fun _ hw => hw.sub (by repeat (first | exact List.Sublist.slnil | exact List.Sublist.refl _ | apply List.Sublist.cons_cons | apply List.Sublist.cons))) ?_
                  refine a_all [0, 4] (by kernel_rfl) rfl ?_
                  intro i hi
                  simp only [List.mem_cons, List.not_mem_nil, or_false] at hi
                  rcases hi with rfl | rfl
                  · refine a_op rfl rfl ?_
                    refine x_val (v_loadB 4 rfl Try.underlying88 rfl rfl rfl) rfl ?_
                    refine a_and (fun _ hw => hw.sub (by repeat (first | exact List.Sublist.slnil | exact List.Sublist.refl _ | apply List.Sublist.cons_cons | apply List.Sublist.cons))) ?_
                    refine a_all [3, 4] (by kernel_rfl) rfl ?_
                    intro i hi
                    simp only [List.mem_cons, List.not_mem_nil, or_false] at hi
                    rcases hi with rfl | rfl
                    · refine a_op rfl rfl ?_
                      refine x_appendIS (z := .agg #[.int .i64 0, .int .i64 0, .int .i64 0, .int .i64 0, .int .i64 0, .int .i64 0, .int .i64 0, .int .i64 0, .int .i64 0, .int .i64 0]) (n := i) (xs := stsC s r i) (size := 10) (bytes := 80) (k := 1) (news := intCells [x0, x1, x2, x3, x4, x5, x6, x7, x8, x9]) 7 rfl rfl rfl Try.underlying88 (by kernel_rfl) rfl (by decide) (fun w hw => blk_rds (hw.hold (Chunk.blk b63 70 (intCells [x0, x1, x2, x3, x4, x5, x6, x7, x8, x9])) (by first | exact List.mem_cons_self | exact List.mem_cons_of_mem _ List.mem_cons_self)) rfl) (by intro u hu; exact one_intCells _ u (by simpa using hu)) (by omega) (by simp only [maxLen]; omega) rfl (fun A4 cap4 _ => ?_)
                      refine a_and (fun _ hw => hw.sub (by repeat (first | exact List.Sublist.slnil | exact List.Sublist.refl _ | apply List.Sublist.cons_cons | apply List.Sublist.cons))) ?_
                      refine a_one 4 (by kernel_rfl) rfl rfl ?_
                      refine x_val (v_loadB 5 rfl Try.underlying89 rfl rfl rfl) rfl ?_
                      refine a_and (fun _ hw => hw.sub (by repeat (first | exact List.Sublist.slnil | exact List.Sublist.refl _ | apply List.Sublist.cons_cons | apply List.Sublist.cons))) ?_
                      refine a_one 7 (by kernel_rfl) rfl rfl ?_
                      refine x_appendIS (z := .agg #[.int .i64 0, .int .i64 0, .int .i64 0, .int .i64 0, .int .i64 0]) (n := i) (xs := resL (resTo s r i)) (size := 5) (bytes := 40) (k := 1) (news := resCells c [g0, g1, g2, g3]) 8 rfl rfl rfl Try.underlying89 (by kernel_rfl) rfl (by decide) (fun w hw => blk_rds (hw.hold (Chunk.blk b67 93 (resCells c [g0, g1, g2, g3])) (by first | exact List.mem_cons_self | exact List.mem_cons_of_mem _ List.mem_cons_self)) rfl) (by intro u hu; exact one_resCells c [g0, g1, g2, g3] u (by simpa using hu)) (by omega) (by simp only [maxLen]; omega) rfl (fun A5 cap5 _ => ?_)
                      refine a_and (fun _ hw => hw.sub (by repeat (first | exact List.Sublist.slnil | exact List.Sublist.refl _ | apply List.Sublist.cons_cons | apply List.Sublist.cons))) ?_
                      refine a_one 8 (by kernel_rfl) rfl rfl ?_
                      refine x_store1 4 rfl rfl rfl Try.hi88 Try.cz88 rfl (by first | (simp; done) | (simp [intCells_len]; omega) | exact Nat.zero_lt_succ _) rfl ?_
                      refine a_and (fun _ hw => hw.sub (by repeat (first | exact List.Sublist.slnil | exact List.Sublist.refl _ | apply List.Sublist.cons_cons | apply List.Sublist.cons))) ?_
                      refine a_one 9 (by kernel_rfl) rfl rfl ?_
                      refine x_store1 5 rfl rfl rfl Try.hi89 Try.cz89 rfl (by first | (simp; done) | (simp [intCells_len]; omega) | exact Nat.zero_lt_succ _) rfl ?_
                      refine a_and (fun _ hw => hw.sub (by repeat (first | exact List.Sublist.slnil | exact List.Sublist.refl _ | apply List.Sublist.cons_cons | apply List.Sublist.cons))) ?_
                      refine a_done (by kernel_rfl) ?_
                      exact e_cutEnd (Value.slice A4 (i + 1) cap4, Value.slice A5 (i + 1) cap5) trivial (by repeat (first | exact Sub.nil _ | refine Sub.cons rfl ?_)) (fun _ hw => by rw [hst, hrs, resL_app, resL_one]; exact hw.pick [4, 5, 6, 7, 8, 9, 10, 11] (by decide))
                    · refine a_op rfl rfl ?_
                      refine x_val (v_loadB 5 rfl Try.underlying89 rfl rfl rfl) rfl ?_
                      refine a_and (fun _ hw => hw.sub (by repeat (first | exact List.Sublist.slnil | exact List.Sublist.refl _ | apply List.Sublist.cons_cons | apply List.Sublist.cons))) ?_
                      refine a_one 3 (by kernel_rfl) rfl rfl ?_
                      refine x_appendIS (z := .agg #[.int .i64 0, .int .i64 0, .int .i64 0, .int .i64 0, .int .i64 0, .int .i64 0, .int .i64 0, .int .i64 0, .int .i64 0, .int .i64 0]) (n := i) (xs := stsC s r i) (size := 10) (bytes := 80) (k := 1) (news := intCells [x0, x1, x2, x3, x4, x5, x6, x7, x8, x9]) 7 rfl rfl rfl Try.underlying88 (by kernel_rfl) rfl (by decide) (fun w hw => blk_rds (hw.hold (Chunk.blk b63 70 (intCells [x0, x1, x2, x3, x4, x5, x6, x7, x8, x9])) (by first | exact List.mem_cons_self | exact List.mem_cons_of_mem _ List.mem_cons_self)) rfl) (by intro u hu; exact one_intCells _ u (by simpa using hu)) (by omega) (by simp only [maxLen]; omega) rfl (fun A4 cap4 _ => ?_)
                      refine a_and (fun _ hw => hw.sub (by repeat (first | exact List.Sublist.slnil | exact List.Sublist.refl _ | apply List.Sublist.cons_cons | apply List.Sublist.cons))) ?_
                      refine a_one 7 (by kernel_rfl) rfl rfl ?_
                      refine x_appendIS (z := .agg #[.int .i64 0, .int .i64 0, .int .i64 0, .int .i64 0, .int .i64 0]) (n := i) (xs := resL (resTo s r i)) (size := 5) (bytes := 40) (k := 1) (news := resCells c [g0, g1, g2, g3]) 8 rfl rfl rfl Try.underlying89 (by kernel_rfl) rfl (by decide) (fun w hw => blk_rds (hw.hold (Chunk.blk b67 93 (resCells c [g0, g1, g2, g3])) (by first | exact List.mem_cons_self | exact List.mem_cons_of_mem _ List.mem_cons_self)) rfl) (by intro u hu; exact one_resCells c [g0, g1, g2, g3] u (by simpa using hu)) (by omega) (by simp only [maxLen]; omega) rfl (fun A5 cap5 _ => ?_)
                      refine a_and (fun _ hw => hw.sub (by repeat (first | exact List.Sublist.slnil | exact List.Sublist.refl _ | apply List.Sublist.cons_cons | apply List.Sublist.cons))) ?_
                      refine a_one 8 (by kernel_rfl) rfl rfl ?_
                      refine x_store1 4 rfl rfl rfl Try.hi88 Try.cz88 rfl (by first | (simp; done) | (simp [intCells_len]; omega) | exact Nat.zero_lt_succ _) rfl ?_
                      refine a_and (fun _ hw => hw.sub (by repeat (first | exact List.Sublist.slnil | exact List.Sublist.refl _ | apply List.Sublist.cons_cons | apply List.Sublist.cons))) ?_
                      refine a_one 9 (by kernel_rfl) rfl rfl ?_
                      refine x_store1 5 rfl rfl rfl Try.hi89 Try.cz89 rfl (by first | (simp; done) | (simp [intCells_len]; omega) | exact Nat.zero_lt_succ _) rfl ?_
                      refine a_and (fun _ hw => hw.sub (by repeat (first | exact List.Sublist.slnil | exact List.Sublist.refl _ | apply List.Sublist.cons_cons | apply List.Sublist.cons))) ?_
                      refine a_done (by kernel_rfl) ?_
                      exact e_cutEnd (Value.slice A4 (i + 1) cap4, Value.slice A5 (i + 1) cap5) trivial (by repeat (first | exact Sub.nil _ | refine Sub.cons rfl ?_)) (fun _ hw => by rw [hst, hrs, resL_app, resL_one]; exact hw.pick [4, 5, 6, 7, 8, 9, 10, 11] (by decide))
                  · refine a_op rfl rfl ?_
                    refine x_val (v_loadB 5 rfl Try.underlying89 rfl rfl rfl) rfl ?_
                    refine a_and (fun _ hw => hw.sub (by repeat (first | exact List.Sublist.slnil | exact List.Sublist.refl _ | apply List.Sublist.cons_cons | apply List.Sublist.cons))) ?_
                    refine a_one 0 (by kernel_rfl) rfl rfl ?_
                    refine x_val (v_loadB 4 rfl Try.underlying88 rfl rfl rfl) rfl ?_
                    refine a_and (fun _ hw => hw.sub (by repeat (first | exact List.Sublist.slnil | exact List.Sublist.refl _ | apply List.Sublist.cons_cons | apply List.Sublist.cons))) ?_
                    refine a_one 3 (by kernel_rfl) rfl rfl ?_
                    refine x_appendIS (z := .agg #[.int .i64 0, .int .i64 0, .int .i64 0, .int .i64 0, .int .i64 0, .int .i64 0, .int .i64 0, .int .i64 0, .int .i64 0, .int .i64 0]) (n := i) (xs := stsC s r i) (size := 10) (bytes := 80) (k := 1) (news := intCells [x0, x1, x2, x3, x4, x5, x6, x7, x8, x9]) 7 rfl rfl rfl Try.underlying88 (by kernel_rfl) rfl (by decide) (fun w hw => blk_rds (hw.hold (Chunk.blk b63 70 (intCells [x0, x1, x2, x3, x4, x5, x6, x7, x8, x9])) (by first | exact List.mem_cons_self | exact List.mem_cons_of_mem _ List.mem_cons_self)) rfl) (by intro u hu; exact one_intCells _ u (by simpa using hu)) (by omega) (by simp only [maxLen]; omega) rfl (fun A4 cap4 _ => ?_)
                    refine a_and (fun _ hw => hw.sub (by repeat (first | exact List.Sublist.slnil | exact List.Sublist.refl _ | apply List.Sublist.cons_cons | apply List.Sublist.cons))) ?_
                    refine a_one 7 (by kernel_rfl) rfl rfl ?_
                    refine x_appendIS (z := .agg #[.int .i64 0, .int .i64 0, .int .i64 0, .int .i64 0, .int .i64 0]) (n := i) (xs := resL (resTo s r i)) (size := 5) (bytes := 40) (k := 1) (news := resCells c [g0, g1, g2, g3]) 8 rfl rfl rfl Try.underlying89 (by kernel_rfl) rfl (by decide) (fun w hw => blk_rds (hw.hold (Chunk.blk b67 93 (resCells c [g0, g1, g2, g3])) (by first | exact List.mem_cons_self | exact List.mem_cons_of_mem _ List.mem_cons_self)) rfl) (by intro u hu; exact one_resCells c [g0, g1, g2, g3] u (by simpa using hu)) (by omega) (by simp only [maxLen]; omega) rfl (fun A5 cap5 _ => ?_)
                    refine a_and (fun _ hw => hw.sub (by repeat (first | exact List.Sublist.slnil | exact List.Sublist.refl _ | apply List.Sublist.cons_cons | apply List.Sublist.cons))) ?_
                    refine a_one 8 (by kernel_rfl) rfl rfl ?_
                    refine x_store1 4 rfl rfl rfl Try.hi88 Try.cz88 rfl (by first | (simp; done) | (simp [intCells_len]; omega) | exact Nat.zero_lt_succ _) rfl ?_
                    refine a_and (fun _ hw => hw.sub (by repeat (first | exact List.Sublist.slnil | exact List.Sublist.refl _ | apply List.Sublist.cons_cons | apply List.Sublist.cons))) ?_
                    refine a_one 9 (by kernel_rfl) rfl rfl ?_
                    refine x_store1 5 rfl rfl rfl Try.hi89 Try.cz89 rfl (by first | (simp; done) | (simp [intCells_len]; omega) | exact Nat.zero_lt_succ _) rfl ?_
                    refine a_and (fun _ hw => hw.sub (by repeat (first | exact List.Sublist.slnil | exact List.Sublist.refl _ | apply List.Sublist.cons_cons | apply List.Sublist.cons))) ?_
                    refine a_done (by kernel_rfl) ?_
                    exact e_cutEnd (Value.slice A4 (i + 1) cap4, Value.slice A5 (i + 1) cap5) trivial (by repeat (first | exact Sub.nil _ | refine Sub.cons rfl ?_)) (fun _ hw => by rw [hst, hrs, resL_app, resL_one]; exact hw.pick [4, 5, 6, 7, 8, 9, 10, 11] (by decide))
              · refine a_op rfl rfl ?_
                refine x_val (v_loadB 3 rfl Try.underlying89 rfl rfl rfl) rfl ?_
                refine a_and (fun _ hw => hw.sub (by repeat (first | exact List.Sublist.slnil | exact List.Sublist.refl _ | apply List.Sublist.cons_cons | apply List.Sublist.cons))) ?_
                refine a_all [0, 2, 6] (by kernel_rfl) rfl ?_
                intro i hi
                simp only [List.mem_cons, List.not_mem_nil, or_false] at hi
                rcases hi with rfl | rfl | rfl
                · refine a_op rfl rfl ?_
                  refine x_val (v_loadB 2 rfl Try.underlying88 rfl rfl rfl) rfl ?_
                  refine a_and (fun _ hw => hw.sub (by repeat (first | exact List.Sublist.slnil | exact List.Sublist.refl _ | apply List.Sublist.cons_cons | apply List.Sublist.cons))) ?_
                  refine a_all [2, 6] (by kernel_rfl) rfl ?_
                  intro i hi
                  simp only [List.mem_cons, List.not_mem_nil, or_false] at hi
                  rcases hi with rfl | rfl
                  · refine a_op rfl rfl ?_
                    refine x_buildSlice _ (intCells [x0, x1, x2, x3, x4, x5, x6, x7, x8, x9]) rfl (run_buildSlice Try.underlying88 Try.hi70 Try.cz70 Try.zeroValue70 rfl (by kernel_rfl)) rfl (fun b63 => ?_)
                    refine a_and (fun _ hw => hw.sub (by repeat (first | exact List.Sublist.slnil | exact List.Sublist.refl _ | apply List.Sublist.cons_cons | apply List.Sublist.cons))) ?_
                    refine a_all [3, 6] (by kernel_rfl) rfl ?_
                    intro i hi
                    simp only [List.mem_cons, List.not_mem_nil, or_false] at hi
                    rcases hi with rfl | rfl
                    · refine a_op rfl rfl ?_
                      refine x_appendIS (z := .agg #[.int .i64 0, .int .i64 0, .int .i64 0, .int .i64 0, .int .i64 0, .int .i64 0, .int .i64 0, .int .i64 0, .int .i64 0, .int .i64 0]) (n := i) (xs := stsC s r i) (size := 10) (bytes := 80) (k := 1) (news := intCells [x0, x1, x2, x3, x4, x5, x6, x7, x8, x9]) 6 rfl rfl rfl Try.underlying88 (by kernel_rfl) rfl (by decide) (fun w hw => blk_rds (hw.hold (Chunk.blk b63 70 (intCells [x0, x1, x2, x3, x4, x5, x6, x7, x8, x9])) (by first | exact List.mem_cons_self | exact List.mem_cons_of_mem _ List.mem_cons_self)) rfl) (by intro u hu; exact one_intCells _ u (by simpa using hu)) (by omega) (by simp only [maxLen]; omega) rfl (fun A4 cap4 _ => ?_)
                      refine a_and (fun _ hw => hw.sub (by repeat (first | exact List.Sublist.slnil | exact List.Sublist.refl _ | apply List.Sublist.cons_cons | apply List.Sublist.cons))) ?_
                      refine a_one 6 (by kernel_rfl) rfl rfl ?_
                      refine x_buildSlice _ (resCells c [g0, g1, g2, g3]) rfl (run_buildSlice Try.underlying89 Try.hi93 Try.cz93 Try.zeroValue93 rfl (by kernel_rfl)) rfl (fun b67 => ?_)
                      refine a_and (fun _ hw => hw.sub (by repeat (first | exact List.Sublist.slnil | exact List.Sublist.refl _ | apply List.Sublist.cons_cons | apply List.Sublist.cons))) ?_
                      refine a_one 7 (by kernel_rfl) rfl rfl ?_
                      refine x_appendIS (z := .agg #[.int .i64 0, .int .i64 0, .int .i64 0, .int .i64 0, .int .i64 0]) (n := i) (xs := resL (resTo s r i)) (size := 5) (bytes := 40) (k := 1) (news := resCells c [g0, g1, g2, g3]) 8 rfl rfl rfl Try.underlying89 (by kernel_rfl) rfl (by decide) (fun w hw => blk_rds (hw.hold (Chunk.blk b67 93 (resCells c [g0, g1, g2, g3])) (by first | exact List.mem_cons_self | exact List.mem_cons_of_mem _ List.mem_cons_self)) rfl) (by intro u hu; exact one_resCells c [g0, g1, g2, g3] u (by simpa using hu)) (by omega) (by simp only [maxLen]; omega) rfl (fun A5 cap5 _ => ?_)
                      refine a_and (fun _ hw => hw.sub (by repeat (first | exact List.Sublist.slnil | exact List.Sublist.refl _ | apply List.Sublist.cons_cons | apply List.Sublist.cons))) ?_
                      refine a_one 8 (by kernel_rfl) rfl rfl ?_
                      refine x_store1 4 rfl rfl rfl Try.hi88 Try.cz88 rfl (by first | (simp; done) | (simp [intCells_len]; omega) | exact Nat.zero_lt_succ _) rfl ?_
                      refine a_and (fun _ hw => hw.sub (by repeat (first | exact List.Sublist.slnil | exact List.Sublist.refl _ | apply List.Sublist.cons_cons | apply List.Sublist.cons))) ?_
                      refine a_one 9 (by kernel_rfl) rfl rfl ?_
                      refine x_store1 5 rfl rfl rfl Try.hi89 Try.cz89 rfl (by first | (simp; done) | (simp [intCells_len]; omega) | exact Nat.zero_lt_succ _) rfl ?_
                      refine a_and (fun _ hw => hw.sub (by repeat (first | exact List.Sublist.slnil | exact List.Sublist.refl _ | apply List.Sublist.cons_cons | apply List.Sublist.cons))) ?_
                      refine a_done (by kernel_rfl) ?_
                      exact e_cutEnd (Value.slice A4 (i + 1) cap4, Value.slice A5 (i + 1) cap5) trivial (by repeat (first | exact Sub.nil _ | refine Sub.cons rfl ?_)) (fun _ hw => by rw [hst, hrs, resL_app, resL_one]; exact hw.pick [4, 5, 6, 7, 8, 9, 10, 11] (by decide))
                    · refine a_op rfl rfl ?_
                      refine x_buildSlice _ (resCells c [g0, g1, g2, g3]) rfl (run_buildSlice Try.underlying89 Try.hi93 Try.cz93 Try.zeroValue93 rfl (by kernel_rfl)) rfl (fun b67 => ?_)
                      refine a_and (fun _ hw => hw.sub (by repeat (first | exact List.Sublist.slnil | exact List.Sublist.refl _ | apply List.Sublist.cons_cons | apply List.Sublist.cons))) ?_
                      refine a_one 3 (by kernel_rfl) rfl rfl ?_
                      refine x_appendIS (z := .agg #[.int .i64 0, .int .i64 0, .int .i64 0, .int .i64 0, .int .i64 0, .int .i64 0, .int .i64 0, .int .i64 0, .int .i64 0, .int .i64 0]) (n := i) (xs := stsC s r i) (size := 10) (bytes := 80) (k := 1) (news := intCells [x0, x1, x2, x3, x4, x5, x6, x7, x8, x9]) 7 rfl rfl rfl Try.underlying88 (by kernel_rfl) rfl (by decide) (fun w hw => blk_rds (hw.hold (Chunk.blk b63 70 (intCells [x0, x1, x2, x3, x4, x5, x6, x7, x8, x9])) (by first | exact List.mem_cons_self | exact List.mem_cons_of_mem _ List.mem_cons_self)) rfl) (by intro u hu; exact one_intCells _ u (by simpa using hu)) (by omega) (by simp only [maxLen]; omega) rfl (fun A4 cap4 _ => ?_)
                      refine a_and (fun _ hw => hw.sub (by repeat (first | exact List.Sublist.slnil | exact List.Sublist.refl _ | apply List.Sublist.cons_cons | apply List.Sublist.cons))) ?_
                      refine a_one 7 (by kernel_rfl) rfl rfl ?_
                      refine x_appendIS (z := .agg #[.int .i64 0, .int .i64 0, .int .i64 0, .int .i64 0, .int .i64 0]) (n := i) (xs := resL (resTo s r i)) (size := 5) (bytes := 40) (k := 1) (news := resCells c [g0, g1, g2, g3]) 8 rfl rfl rfl Try.underlying89 (by kernel_rfl) rfl (by decide) (fun w hw => blk_rds (hw.hold (Chunk.blk b67 93 (resCells c [g0, g1, g2, g3])) (by first | exact List.mem_cons_self | exact List.mem_cons_of_mem _ List.mem_cons_self)) rfl) (by intro u hu; exact one_resCells c [g0, g1, g2, g3] u (by simpa using hu)) (by omega) (by simp only [maxLen]; omega) rfl (fun A5 cap5 _ => ?_)
                      refine a_and (fun _ hw => hw.sub (by repeat (first | exact List.Sublist.slnil | exact List.Sublist.refl _ | apply List.Sublist.cons_cons | apply List.Sublist.cons))) ?_
                      refine a_one 8 (by kernel_rfl) rfl rfl ?_
                      refine x_store1 4 rfl rfl rfl Try.hi88 Try.cz88 rfl (by first | (simp; done) | (simp [intCells_len]; omega) | exact Nat.zero_lt_succ _) rfl ?_
                      refine a_and (fun _ hw => hw.sub (by repeat (first | exact List.Sublist.slnil | exact List.Sublist.refl _ | apply List.Sublist.cons_cons | apply List.Sublist.cons))) ?_
                      refine a_one 9 (by kernel_rfl) rfl rfl ?_
                      refine x_store1 5 rfl rfl rfl Try.hi89 Try.cz89 rfl (by first | (simp; done) | (simp [intCells_len]; omega) | exact Nat.zero_lt_succ _) rfl ?_
                      refine a_and (fun _ hw => hw.sub (by repeat (first | exact List.Sublist.slnil | exact List.Sublist.refl _ | apply List.Sublist.cons_cons | apply List.Sublist.cons))) ?_
                      refine a_done (by kernel_rfl) ?_
                      exact e_cutEnd (Value.slice A4 (i + 1) cap4, Value.slice A5 (i + 1) cap5) trivial (by repeat (first | exact Sub.nil _ | refine Sub.cons rfl ?_)) (fun _ hw => by rw [hst, hrs, resL_app, resL_one]; exact hw.pick [4, 5, 6, 7, 8, 9, 10, 11] (by decide))
                  · refine a_op rfl rfl ?_
                    refine x_buildSlice _ (resCells c [g0, g1, g2, g3]) rfl (run_buildSlice Try.underlying89 Try.hi93 Try.cz93 Try.zeroValue93 rfl (by kernel_rfl)) rfl (fun b67 => ?_)
                    refine a_and (fun _ hw => hw.sub (by repeat (first | exact List.Sublist.slnil | exact List.Sublist.refl _ | apply List.Sublist.cons_cons | apply List.Sublist.cons))) ?_
                    refine a_one 2 (by kernel_rfl) rfl rfl ?_
                    refine x_buildSlice _ (intCells [x0, x1, x2, x3, x4, x5, x6, x7, x8, x9]) rfl (run_buildSlice Try.underlying88 Try.hi70 Try.cz70 Try.zeroValue70 rfl (by kernel_rfl)) rfl (fun b63 => ?_)
                    refine a_and (fun _ hw => hw.sub (by repeat (first | exact List.Sublist.slnil | exact List.Sublist.refl _ | apply List.Sublist.cons_cons | apply List.Sublist.cons))) ?_
                    refine a_one 3 (by kernel_rfl) rfl rfl ?_
                    refine x_appendIS (z := .agg #[.int .i64 0, .int .i64 0, .int .i64 0, .int .i64 0, .int .i64 0, .int .i64 0, .int .i64 0, .int .i64 0, .int .i64 0, .int .i64 0]) (n := i) (xs := stsC s r i) (size := 10) (bytes := 80) (k := 1) (news := intCells [x0, x1, x2, x3, x4, x5, x6, x7, x8, x9]) 7 rfl rfl rfl Try.underlying88 (by kernel_rfl) rfl (by decide) (fun w hw => blk_rds (hw.hold (Chunk.blk b63 70 (intCells [x0, x1, x2, x3, x4, x5, x6, x7, x8, x9])) (by first | exact List.mem_cons_self | exact List.mem_cons_of_mem _ List.mem_cons_self)) rfl) (by intro u hu; exact one_intCells _ u (by simpa using hu)) (by omega) (by simp only [maxLen]; omega) rfl (fun A4 cap4 _ => ?_)
                    refine a_and (fun _ hw => hw.sub (by repeat (first | exact List.Sublist.slnil | exact List.Sublist.refl _ | apply List.Sublist.cons_cons | apply List.Sublist.cons))) ?_
                    refine a_one 7 (by kernel_rfl) rfl rfl ?_
                    refine x_appendIS (z := .agg #[.int .i64 0, .int .i64 0, .int .i64 0, .int .i64 0, .int .i64 0]) (n := i) (xs := resL (resTo s r i)) (size := 5) (bytes := 40) (k := 1) (news := resCells c [g0, g1, g2, g3]) 8 rfl rfl rfl Try.underlying89 (by kernel_rfl) rfl (by decide) (fun w hw => blk_rds (hw.hold (Chunk.blk b67 93 (resCells c [g0, g1, g2, g3])) (by first | exact List.mem_cons_self | exact List.mem_cons_of_mem _ List.mem_cons_self)) rfl) (by intro u hu; exact one_resCells c [g0, g1, g2, g3] u (by simpa using hu)) (by omega) (by simp only [maxLen]; omega) rfl (fun A5 cap5 _ => ?_)
                    refine a_and (fun _ hw => hw.sub (by repeat (first | exact List.Sublist.slnil | exact List.Sublist.refl _ | apply List.Sublist.cons_cons | apply List.Sublist.cons))) ?_
                    refine a_one 8 (by kernel_rfl) rfl rfl ?_
                    refine x_store1 4 rfl rfl rfl Try.hi88 Try.cz88 rfl (by first | (simp; done) | (simp [intCells_len]; omega) | exact Nat.zero_lt_succ _) rfl ?_
                    refine a_and (fun _ hw => hw.sub (by repeat (first | exact List.Sublist.slnil | exact List.Sublist.refl _ | apply List.Sublist.cons_cons | apply List.Sublist.cons))) ?_
                    refine a_one 9 (by kernel_rfl) rfl rfl ?_
                    refine x_store1 5 rfl rfl rfl Try.hi89 Try.cz89 rfl (by first | (simp; done) | (simp [intCells_len]; omega) | exact Nat.zero_lt_succ _) rfl ?_
                    refine a_and (fun _ hw => hw.sub (by repeat (first | exact List.Sublist.slnil | exact List.Sublist.refl _ | apply List.Sublist.cons_cons | apply List.Sublist.cons))) ?_
                    refine a_done (by kernel_rfl) ?_
                    exact e_cutEnd (Value.slice A4 (i + 1) cap4, Value.slice A5 (i + 1) cap5) trivial (by repeat (first | exact Sub.nil _ | refine Sub.cons rfl ?_)) (fun _ hw => by rw [hst, hrs, resL_app, resL_one]; exact hw.pick [4, 5, 6, 7, 8, 9, 10, 11] (by decide))
                · refine a_op rfl rfl ?_
                  refine x_buildSlice _ (intCells [x0, x1, x2, x3, x4, x5, x6, x7, x8, x9]) rfl (run_buildSlice Try.underlying88 Try.hi70 Try.cz70 Try.zeroValue70 rfl (by kernel_rfl)) rfl (fun b63 => ?_)
                  refine a_and (fun _ hw => hw.sub (by repeat (first | exact List.Sublist.slnil | exact List.Sublist.refl _ | apply List.Sublist.cons_cons | apply List.Sublist.cons))) ?_
                  refine a_all [0, 6] (by kernel_rfl) rfl ?_
                  intro i hi
                  simp only [List.mem_cons, List.not_mem_nil, or_false] at hi
                  rcases hi with rfl | rfl
                  · refine a_op rfl rfl ?_
                    refine x_val (v_loadB 3 rfl Try.underlying88 rfl rfl rfl) rfl ?_
                    refine a_and (fun _ hw => hw.sub (by repeat (first | exact List.Sublist.slnil | exact List.Sublist.refl _ | apply List.Sublist.cons_cons | apply List.Sublist.cons))) ?_
                    refine a_all [3, 6] (by kernel_rfl) rfl ?_
                    intro i hi
                    simp only [List.mem_cons, List.not_mem_nil, or_false] at hi
                    rcases hi with rfl | rfl
                    · refine a_op rfl rfl ?_
                      refine x_appendIS (z := .agg #[.int .i64 0, .int .i64 0, .int .i64 0, .int .i64 0, .int .i64 0, .int .i64 0, .int .i64 0, .int .i64 0, .int .i64 0, .int .i64 0]) (n := i) (xs := stsC s r i) (size := 10) (bytes := 80) (k := 1) (news := intCells [x0, x1, x2, x3, x4, x5, x6, x7, x8, x9]) 6 rfl rfl rfl Try.underlying88 (by kernel_rfl) rfl (by decide) (fun w hw => blk_rds (hw.hold (Chunk.blk b63 70 (intCells [x0, x1, x2, x3, x4, x5, x6, x7, x8, x9])) (by first | exact List.mem_cons_self | exact List.mem_cons_of_mem _ List.mem_cons_self)) rfl) (by intro u hu; exact one_intCells _ u (by simpa using hu)) (by omega) (by simp only [maxLen]; omega) rfl (fun A4 cap4 _ => ?_)
                      refine a_and (fun _ hw => hw.sub (by repeat (first | exact List.Sublist.slnil | exact List.Sublist.refl _ | apply List.Sublist.cons_cons | apply List.Sublist.cons))) ?_
                      refine a_one 6 (by kernel_rfl) rfl rfl ?_
                      refine x_buildSlice _ (resCells c [g0, g1, g2, g3]) rfl (run_buildSlice Try.underlying89 Try.hi93 Try.cz93 Try.zeroValue93 rfl (by kernel_rfl)) rfl (fun b67 => ?_)
                      refine a_and (fun _ hw => hw.sub (by repeat (first | exact List.Sublist.slnil | exact List.Sublist.refl _ | apply List.Sublist.cons_cons | apply List.Sublist.cons))) ?_
                      refine a_one 7 (by kernel_rfl) rfl rfl ?_
                      refine x_appendIS (z := .agg #[.int .i64 0, .int .i64 0, .int .i64 0, .int .i64 0, .int .i64 0]) (n := i) (xs := resL (resTo s r i)) (size := 5) (bytes := 40) (k := 1) (news := resCells c [g0, g1, g2, g3]) 8 rfl rfl rfl Try.underlying89 (by kernel_rfl) rfl (by decide) (fun w hw => blk_rds (hw.hold (Chunk.blk b67 93 (resCells c [g0, g1, g2, g3])) (by first | exact List.mem_cons_self | exact List.mem_cons_of_mem _ List.mem_cons_self)) rfl) (by intro u hu; exact one_resCells c [g0, g1, g2, g3] u (by simpa using hu)) (by omega) (by simp only [maxLen]; omega) rfl (fun A5 cap5 _ => ?_)
                      refine a_and (fun _ hw => hw.sub (by repeat (first | exact List.Sublist.slnil | exact List.Sublist.refl _ | apply List.Sublist.cons_cons | apply List.Sublist.cons))) ?_
                      refine a_one 8 (by kernel_rfl) rfl rfl ?_
                      refine x_store1 4 rfl rfl rfl Try.hi88 Try.cz88 rfl (by first | (simp; done) | (simp [intCells_len]; omega) | exact Nat.zero_lt_succ _) rfl ?_
                      refine a_and (fun _ hw => hw.sub (by repeat (first | exact List.Sublist.slnil | exact List.Sublist.refl _ | apply List.Sublist.cons_cons | apply List.Sublist.cons))) ?_
                      refine a_one 9 (by kernel_rfl) rfl rfl ?_
                      refine x_store1 5 rfl rfl rfl Try.hi89 Try.cz89 rfl (by first | (simp; done) | (simp [intCells_len]; omega) | exact Nat.zero_lt_succ _) rfl ?_
                      refine a_and (fun _ hw => hw.sub (by repeat (first | exact List.Sublist.slnil | exact List.Sublist.refl _ | apply List.Sublist.cons_cons | apply List.Sublist.cons))) ?_
                      refine a_done (by kernel_rfl) ?_
                      exact e_cutEnd (Value.slice A4 (i + 1) cap4, Value.slice A5 (i + 1) cap5) trivial (by repeat (first | exact Sub.nil _ | refine Sub.cons rfl ?_)) (fun _ hw => by rw [hst, hrs, resL_app, resL_one]; exact hw.pick [4, 5, 6, 7, 8, 9, 10, 11] (by decide))
                    · refine a_op rfl rfl ?_
                      refine x_buildSlice _ (resCells c [g0, g1, g2, g3]) rfl (run_buildSlice Try.underlying89 Try.hi93 Try.cz93 Try.zeroValue93 rfl (by kernel_rfl)) rfl (fun b67 => ?_)
                      refine a_and (fun _ hw => hw.sub (by repeat (first | exact List.Sublist.slnil | exact List.Sublist.refl _ | apply List.Sublist.cons_cons | apply List.Sublist.cons))) ?_
                      refine a_one 3 (by kernel_rfl) rfl rfl ?_
                      refine x_appendIS (z := .agg #[.int .i64 0, .int .i64 0, .int .i64 0, .int .i64 0, .int .i64 0, .int .i64 0, .int .i64 0, .int .i64 0, .int .i64 0, .int .i64 0]) (n := i) (xs := stsC s r i) (size := 10) (bytes := 80) (k := 1) (news := intCells [x0, x1, x2, x3, x4, x5, x6, x7, x8, x9]) 7 rfl rfl rfl Try.underlying88 (by kernel_rfl) rfl (by decide) (fun w hw => blk_rds (hw.hold (Chunk.blk b63 70 (intCells [x0, x1, x2, x3, x4, x5, x6, x7, x8, x9])) (by first | exact List.mem_cons_self | exact List.mem_cons_of_mem _ List.mem_cons_self)) rfl) (by intro u hu; exact one_intCells _ u (by simpa using hu)) (by omega) (by simp only [maxLen]; omega) rfl (fun A4 cap4 _ => ?_)
                      refine a_and (fun _ hw => hw.sub (by repeat (first | exact List.Sublist.slnil | exact List.Sublist.refl _ | apply List.Sublist.cons_cons | apply List.Sublist.cons))) ?_
                      refine a_one 7 (by kernel_rfl) rfl rfl ?_
                      refine x_appendIS (z := .agg #[.int .i64 0, .int .i64 0, .int .i64 0, .int .i64 0, .int .i64 0]) (n := i) (xs := resL (resTo s r i)) (size := 5) (bytes := 40) (k := 1) (news := resCells c [g0, g1, g2, g3]) 8 rfl rfl rfl Try.underlying89 (by kernel_rfl) rfl (by decide) (fun w hw => blk_rds (hw.hold (Chunk.blk b67 93 (resCells c [g0, g1, g2, g3])) (by first | exact List.mem_cons_self | exact List.mem_cons_of_mem _ List.mem_cons_self)) rfl) (by intro u hu; exact one_resCells c [g0, g1, g2, g3] u (by simpa using hu)) (by omega) (by simp only [maxLen]; omega) rfl (fun A5 cap5 _ => ?_)
                      refine a_and (fun _ hw => hw.sub (by repeat (first | exact List.Sublist.slnil | exact List.Sublist.refl _ | apply List.Sublist.cons_cons | apply List.Sublist.cons))) ?_
                      refine a_one 8 (by kernel_rfl) rfl rfl ?_
                      refine x_store1 4 rfl rfl rfl Try.hi88 Try.cz88 rfl (by first | (simp; done) | (simp [intCells_len]; omega) | exact Nat.zero_lt_succ _) rfl ?_
                      refine a_and (fun _ hw => hw.sub (by repeat (first | exact List.Sublist.slnil | exact List.Sublist.refl _ | apply List.Sublist.cons_cons | apply List.Sublist.cons))) ?_
                      refine a_one 9 (by kernel_rfl) rfl rfl ?_
                      refine x_store1 5 rfl rfl rfl Try.hi89 Try.cz89 rfl (by first | (simp; done) | (simp [intCells_len]; omega) | exact Nat.zero_lt_succ _) rfl ?_
                      refine a_and (fun _ hw => hw.sub (by repeat (first | exact List.Sublist.slnil | exact List.Sublist.refl _ | apply List.Sublist.cons_cons | apply List.Sublist.cons))) ?_
                      refine a_done (by kernel_rfl) ?_
                      exact e_cutEnd (Value.slice A4 (i + 1) cap4, Value.slice A5 (i + 1) cap5) trivial (by repeat (first | exact Sub.nil _ | refine Sub.cons rfl ?_)) (fun _ hw => by rw [hst, hrs, resL_app, resL_one]; exact hw.pick [4, 5, 6, 7, 8, 9, 10, 11] (by decide))
                  · refine a_op rfl rfl ?_
                    refine x_buildSlice _ (resCells c [g0, g1, g2, g3]) rfl (run_buildSlice Try.underlying89 Try.hi93 Try.cz93 Try.zeroValue93 rfl (by kernel_rfl)) rfl (fun b67 => ?_)
                    refine a_and (fun _ hw => hw.sub (by repeat (first | exact List.Sublist.slnil | exact List.Sublist.refl _ | apply List.Sublist.cons_cons | apply List.Sublist.cons))) ?_
                    refine a_one 0 (by kernel_rfl) rfl rfl ?_
                    refine x_val (v_loadB 4 rfl Try.underlying88 rfl rfl rfl) rfl ?_
                    refine a_and (fun _ hw => hw.sub (by repeat (first | exact List.Sublist.slnil | exact List.Sublist.refl _ | apply List.Sublist.cons_cons | apply List.Sublist.cons))) ?_
                    refine a_one 3 (by kernel_rfl) rfl rfl ?_
                    refine x_appendIS (z := .agg #[.int .i64 0, .int .i64 0, .int .i64 0, .int .i64 0, .int .i64 0, .int .i64 0, .int .i64 0, .int .i64 0, .int .i64 0, .int .i64 0]) (n := i) (xs := stsC s r i) (size := 10) (bytes := 80) (k := 1) (news := intCells [x0, x1, x2, x3, x4, x5, x6, x7, x8, x9]) 7 rfl rfl rfl Try.underlying88 (by kernel_rfl) rfl (by decide) (fun w hw => blk_rds (hw.hold (Chunk.blk b63 70 (intCells [x0, x1, x2, x3, x4, x5, x6, x7, x8, x9])) (by first | exact List.mem_cons_self | exact List.mem_cons_of_mem _ List.mem_cons_self)) rfl) (by intro u hu; exact one_intCells _ u (by simpa using hu)) (by omega) (by simp only [maxLen]; omega) rfl (fun A4 cap4 _ => ?_)
                    refine a_and (fun _ hw => hw.sub (by repeat (first | exact List.Sublist.slnil | exact List.Sublist.refl _ | apply List.Sublist.cons_cons | apply List.Sublist.cons))) ?_
                    refine a_one 7 (by kernel_rfl) rfl rfl ?_
                    refine x_appendIS (z := .agg #[.int .i64 0, .int .i64 0, .int .i64 0, .int .i64 0, .int .i64 0]) (n := i) (xs := resL (resTo s r i)) (size := 5) (bytes := 40) (k := 1) (news := resCells c [g0, g1, g2, g3]) 8 rfl rfl rfl Try.underlying89 (by kernel_rfl) rfl (by decide) (fun w hw => blk_rds (hw.hold (Chunk.blk b67 93 (resCells c [g0, g1, g2, g3])) (by first | exact List.mem_cons_self | exact List.mem_cons_of_mem _ List.mem_cons_self)) rfl) (by intro u hu; exact one_resCells c [g0, g1, g2, g3] u (by simpa using hu)) (by omega) (by simp only [maxLen]; omega) rfl (fun A5 cap5 _ => ?_)
                    refine a_and (fun _ hw => hw.sub (by repeat (first | exact List.Sublist.slnil | exact List.Sublist.refl _ | apply List.Sublist.cons_cons | apply List.Sublist.cons))) ?_
                    refine a_one 8 (by kernel_rfl) rfl rfl ?_
                    refine x_store1 4 rfl rfl rfl Try.hi88 Try.cz88 rfl (by first | (simp; done) | (simp [intCells_len]; omega) | exact Nat.zero_lt_succ _) rfl ?_
                    refine a_and (fun _ hw => hw.sub (by repeat (first | exact List.Sublist.slnil | exact List.Sublist.refl _ | apply List.Sublist.cons_cons | apply List.Sublist.cons))) ?_
                    refine a_one 9 (by kernel_rfl) rfl rfl ?_
                    refine x_store1 5 rfl rfl rfl Try.hi89 Try.cz89 rfl (by first | (simp; done) | (simp [intCells_len]; omega) | exact Nat.zero_lt_succ _) rfl ?_
                    refine a_and (fun _ hw => hw.sub (by repeat (first | exact List.Sublist.slnil | exact List.Sublist.refl _ | apply List.Sublist.cons_cons | apply List.Sublist.cons))) ?_
                    refine a_done (by kernel_rfl) ?_
                    exact e_cutEnd (Value.slice A4 (i + 1) cap4, Value.slice A5 (i + 1) cap5) trivial (by repeat (first | exact Sub.nil _ | refine Sub.cons rfl ?_)) (fun _ hw => by rw [hst, hrs, resL_app, resL_one]; exact hw.pick [4, 5, 6, 7, 8, 9, 10, 11] (by decide))
                · refine a_op rfl rfl ?_
                  refine x_buildSlice _ (resCells c [g0, g1, g2, g3]) rfl (run_buildSlice Try.underlying89 Try.hi93 Try.cz93 Try.zeroValue93 rfl (by kernel_rfl)) rfl (fun b67 => ?_)
                  refine a_and (fun _ hw => hw.sub (by repeat (first | exact List.Sublist.slnil | exact List.Sublist.refl _ | apply List.Sublist.cons_cons | apply List.Sublist.cons))) ?_
                  refine a_all [0, 2] (by kernel_rfl) rfl ?_
                  intro i hi
                  simp only [List.mem_cons, List.not_mem_nil, or_false] at hi
                  rcases hi with rfl | rfl
                  · refine a_op rfl rfl ?_
                    refine x_val (v_loadB 3 rfl Try.underlying88 rfl rfl rfl) rfl ?_
                    refine a_and (fun _ hw => hw.sub (by repeat (first | exact List.Sublist.slnil | exact List.Sublist.refl _ | apply List.Sublist.cons_cons | apply List.Sublist.cons))) ?_
                    refine a_one 2 (by kernel_rfl) rfl rfl ?_
                    refine x_buildSlice _ (intCells [x0, x1, x2, x3, x4, x5, x6, x7, x8, x9]) rfl (run_buildSlice Try.underlying88 Try.hi70 Try.cz70 Try.zeroValue70 rfl (by kernel_rfl)) rfl (fun b63 => ?_)
                    refine a_and (fun _ hw => hw.sub (by repeat (first | exact List.Sublist.slnil | exact List.Sublist.refl _ | apply List.Sublist.cons_cons | apply List.Sublist.cons))) ?_
                    refine a_one 3 (by kernel_rfl) rfl rfl ?_
                    refine x_appendIS (z := .agg #[.int .i64 0, .int .i64 0, .int .i64 0, .int .i64 0, .int .i64 0, .int .i64 0, .int .i64 0, .int .i64 0, .int .i64 0, .int .i64 0]) (n := i) (xs := stsC s r i) (size := 10) (bytes := 80) (k := 1) (news := intCells [x0, x1, x2, x3, x4, x5, x6, x7, x8, x9]) 7 rfl rfl rfl Try.underlying88 (by kernel_rfl) rfl (by decide) (fun w hw => blk_rds (hw.hold (Chunk.blk b63 70 (intCells [x0, x1, x2, x3, x4, x5, x6, x7, x8, x9])) (by first | exact List.mem_cons_self | exact List.mem_cons_of_mem _ List.mem_cons_self)) rfl) (by intro u hu; exact one_intCells _ u (by simpa using hu)) (by omega) (by simp only [maxLen]; omega) rfl (fun A4 cap4 _ => ?_)
                    refine a_and (fun _ hw => hw.sub (by repeat (first | exact List.Sublist.slnil | exact List.Sublist.refl _ | apply List.Sublist.cons_cons | apply List.Sublist.cons))) ?_
                    refine a_one 7 (by kernel_rfl) rfl rfl ?_
                    refine x_appendIS (z := .agg #[.int .i64 0, .int .i64 0, .int .i64 0, .int .i64 0, .int .i64 0]) (n := i) (xs := resL (resTo s r i)) (size := 5) (bytes := 40) (k := 1) (news := resCells c [g0, g1, g2, g3]) 8 rfl rfl rfl Try.underlying89 (by kernel_rfl) rfl (by decide) (fun w hw => blk_rds (hw.hold (Chunk.blk b67 93 (resCells c [g0, g1, g2, g3])) (by first | exact List.mem_cons_self | exact List.mem_cons_of_mem _ List.mem_cons_self)) rfl) (by intro u hu; exact one_resCells c [g0, g1, g2, g3] u (by simpa using hu)) (by omega) (by simp only [maxLen]; omega) rfl (fun A5 cap5 _ => ?_)
                    refine a_and (fun _ hw => hw.sub (by repeat (first | exact List.Sublist.slnil | exact List.Sublist.refl _ | apply List.Sublist.cons_cons | apply List.Sublist.cons))) ?_
                    refine a_one 8 (by kernel_rfl) rfl rfl ?_
                    refine x_store1 4 rfl rfl rfl Try.hi88 Try.cz88 rfl (by first | (simp; done) | (simp [intCells_len]; omega) | exact Nat.zero_lt_succ _) rfl ?_
                    refine a_and (fun _ hw => hw.sub (by repeat (first | exact List.Sublist.slnil | exact List.Sublist.refl _ | apply List.Sublist.cons_cons | apply List.Sublist.cons))) ?_
                    refine a_one 9 (by kernel_rfl) rfl rfl ?_
                    refine x_store1 5 rfl rfl rfl Try.hi89 Try.cz89 rfl (by first | (simp; done) | (simp [intCells_len]; omega) | exact Nat.zero_lt_succ _) rfl ?_
                    refine a_and (fun _ hw => hw.sub (by repeat (first | exact List.Sublist.slnil | exact List.Sublist.refl _ | apply List.Sublist.cons_cons | apply List.Sublist.cons))) ?_
                    refine a_done (by kernel_rfl) ?_
                    exact e_cutEnd (Value.slice A4 (i + 1) cap4, Value.slice A5 (i + 1) cap5) trivial (by repeat (first | exact Sub.nil _ | refine Sub.cons rfl ?_)) (fun _ hw => by rw [hst, hrs, resL_app, resL_one]; exact hw.pick [4, 5, 6, 7, 8, 9, 10, 11] (by decide))
                  · refine a_op rfl rfl ?_
                    refine x_buildSlice _ (intCells [x0, x1, x2, x3, x4, x5, x6, x7, x8, x9]) rfl (run_buildSlice Try.underlying88 Try.hi70 Try.cz70 Try.zeroValue70 rfl (by kernel_rfl)) rfl (fun b63 => ?_)
                    refine a_and (fun _ hw => hw.sub (by repeat (first | exact List.Sublist.slnil | exact List.Sublist.refl _ | apply List.Sublist.cons_cons | apply List.Sublist.cons))) ?_
                    refine a_one 0 (by kernel_rfl) rfl rfl ?_
                    refine x_val (v_loadB 4 rfl Try.underlying88 rfl rfl rfl) rfl ?_
                    refine a_and (fun _ hw => hw.sub (by repeat (first | exact List.Sublist.slnil | exact List.Sublist.refl _ | apply List.Sublist.cons_cons | apply List.Sublist.cons))) ?_
                    refine a_one 3 (by kernel_rfl) rfl rfl ?_
                    refine x_appendIS (z := .agg #[.int .i64 0, .int .i64 0, .int .i64 0, .int .i64 0, .int .i64 0, .int .i64 0, .int .i64 0, .int .i64 0, .int .i64 0, .int .i64 0]) (n := i) (xs := stsC s r i) (size := 10) (bytes := 80) (k := 1) (news := intCells [x0, x1, x2, x3, x4, x5, x6, x7, x8, x9]) 7 rfl rfl rfl Try.underlying88 (by kernel_rfl) rfl (by decide) (fun w hw => blk_rds (hw.hold (Chunk.blk b63 70 (intCells [x0, x1, x2, x3, x4, x5, x6, x7, x8, x9])) (by first | exact List.mem_cons_self | exact List.mem_cons_of_mem _ List.mem_cons_self)) rfl) (by intro u hu; exact one_intCells _ u (by simpa using hu)) (by omega) (by simp only [maxLen]; omega) rfl (fun A4 cap4 _ => ?_)
                    refine a_and (fun _ hw => hw.sub (by repeat (first | exact List.Sublist.slnil | exact List.Sublist.refl _ | apply List.Sublist.cons_cons | apply List.Sublist.cons))) ?_
                    refine a_one 7 (by kernel_rfl) rfl rfl ?_
                    refine x_appendIS (z := .agg #[.int .i64 0, .int .i64 0, .int .i64 0, .int .i64 0, .int .i64 0]) (n := i) (xs := resL (resTo s r i)) (size := 5) (bytes := 40) (k := 1) (news := resCells c [g0, g1, g2, g3]) 8 rfl rfl rfl Try.underlying89 (by kernel_rfl) rfl (by decide) (fun w hw => blk_rds (hw.hold (Chunk.blk b67 93 (resCells c [g0, g1, g2, g3])) (by first | exact List.mem_cons_self | exact List.mem_cons_of_mem _ List.mem_cons_self)) rfl) (by intro u hu; exact one_resCells c [g0, g1, g2, g3] u (by simpa using hu)) (by omega) (by simp only [maxLen]; omega) rfl (fun A5 cap5 _ => ?_)
                    refine a_and (fun _ hw => hw.sub (by repeat (first | exact List.Sublist.slnil | exact List.Sublist.refl _ | apply List.Sublist.cons_cons | apply List.Sublist.cons))) ?_
                    refine a_one 8 (by kernel_rfl) rfl rfl ?_
                    refine x_store1 4 rfl rfl rfl Try.hi88 Try.cz88 rfl (by first | (simp; done) | (simp [intCells_len]; omega) | exact Nat.zero_lt_succ _) rfl ?_
                    refine a_and (fun _ hw => hw.sub (by repeat (first | exact List.Sublist.slnil | exact List.Sublist.refl _ | apply List.Sublist.cons_cons | apply List.Sublist.cons))) ?_
                    refine a_one 9 (by kernel_rfl) rfl rfl ?_
                    refine x_store1 5 rfl rfl rfl Try.hi89 Try.cz89 rfl (by first | (simp; done) | (simp [intCells_len]; omega) | exact Nat.zero_lt_succ _) rfl ?_
                    refine a_and (fun _ hw => hw.sub (by repeat (first | exact List.Sublist.slnil | exact List.Sublist.refl _ | apply List.Sublist.cons_cons | apply List.Sublist.cons))) ?_
                    refine a_done (by kernel_rfl) ?_
                    exact e_cutEnd (Value.slice A4 (i + 1) cap4, Value.slice A5 (i + 1) cap5) trivial (by repeat (first | exact Sub.nil _ | refine Sub.cons rfl ?_)) (fun _ hw => by rw [hst, hrs, resL_app, resL_one]; exact hw.pick [4, 5, 6, 7, 8, 9, 10, 11] (by decide))
              · refine a_op rfl rfl ?_
                refine x_buildSlice _ (resCells c [g0, g1, g2, g3]) rfl (run_buildSlice Try.underlying89 Try.hi93 Try.cz93 Try.zeroValue93 rfl (by kernel_rfl)) rfl (fun b67 => ?_)
                refine a_and (fun _ hw => hw.sub (by repeat (first | exact List.Sublist.slnil | exact List.Sublist.refl _ | apply List.Sublist.cons_cons | apply List.Sublist.cons))) ?_
                refine a_all [0, 2, 4] (by kernel_rfl) rfl ?_
                intro i hi
                simp only [List.mem_cons, List.not_mem_nil, or_false] at hi
                rcases hi with rfl | rfl | rfl
                · refine a_op rfl rfl ?_
                  refine x_val (v_loadB 3 rfl Try.underlying88 rfl rfl rfl) rfl ?_
                  refine a_and (fun _ hw => hw.sub (by repeat (first | exact List.Sublist.slnil | exact List.Sublist.refl _ | apply List.Sublist.cons_cons | apply List.Sublist.cons))) ?_
                  refine a_all [2, 4] (by kernel_rfl) rfl ?_
                  intro i hi
                  simp only [List.mem_cons, List.not_mem_nil, or_false] at hi
                  rcases hi with rfl | rfl
                  · refine a_op rfl rfl ?_
                    refine x_buildSlice _ (intCells [x0, x1, x2, x3, x4, x5, x6, x7, x8, x9]) rfl (run_buildSlice Try.underlying88 Try.hi70 Try.cz70 Try.zeroValue70 rfl (by kernel_rfl)) rfl (fun b63 => ?_)
                    refine a_and (fun _ hw => hw.sub (by repeat (first | exact List.Sublist.slnil | exact List.Sublist.refl _ | apply List.Sublist.cons_cons | apply List.Sublist.cons))) ?_
                    refine a_all [3, 4] (by kernel_rfl) rfl ?_
                    intro i hi
                    simp only [List.mem_cons, List.not_mem_nil, or_false] at hi
                    rcases hi with rfl | rfl
                    · refine a_op rfl rfl ?_
                      refine x_appendIS (z := .agg #[.int .i64 0, .int .i64 0, .int .i64 0, .int .i64 0, .int .i64 0, .int .i64 0, .int .i64 0, .int .i64 0, .int .i64 0, .int .i64 0]) (n := i) (xs := stsC s r i) (size := 10) (bytes := 80) (k := 1) (news := intCells [x0, x1, x2, x3, x4, x5, x6, x7, x8, x9]) 7 rfl rfl rfl Try.underlying88 (by kernel_rfl) rfl (by decide) (fun w hw => blk_rds (hw.hold (Chunk.blk b63 70 (intCells [x0, x1, x2, x3, x4, x5, x6, x7, x8, x9])) (by first | exact List.mem_cons_self | exact List.mem_cons_of_mem _ List.mem_cons_self)) rfl) (by intro u hu; exact one_intCells _ u (by simpa using hu)) (by omega) (by simp only [maxLen]; omega) rfl (fun A4 cap4 _ => ?_)
                      refine a_and (fun _ hw => hw.sub (by repeat (first | exact List.Sublist.slnil | exact List.Sublist.refl _ | apply List.Sublist.cons_cons | apply List.Sublist.cons))) ?_
                      refine a_one 4 (by kernel_rfl) rfl rfl ?_
                      refine x_val (v_loadB 5 rfl Try.underlying89 rfl rfl rfl) rfl ?_
                      refine a_and (fun _ hw => hw.sub (by repeat (first | exact List.Sublist.slnil | exact List.Sublist.refl _ | apply List.Sublist.cons_cons | apply List.Sublist.cons))) ?_
                      refine a_one 7 (by kernel_rfl) rfl rfl ?_
                      refine x_appendIS (z := .agg #[.int .i64 0, .int .i64 0, .int .i64 0, .int .i64 0, .int .i64 0]) (n := i) (xs := resL (resTo s r i)) (size := 5) (bytes := 40) (k := 1) (news := resCells c [g0, g1, g2, g3]) 8 rfl rfl rfl Try.underlying89 (by kernel_rfl) rfl (by decide) (fun w hw => blk_rds (hw.hold (Chunk.blk b67 93 (resCells c [g0, g1, g2, g3])) (by first | exact List.mem_cons_self | exact List.mem_cons_of_mem _ List.mem_cons_self)) rfl) (by intro u hu; exact one_resCells c [g0, g1, g2, g3] u (by simpa using hu)) (by omega) (by simp only [maxLen]; omega) rfl (fun A5 cap5 _ => ?_)
                      refine a_and (fun _ hw => hw.sub (by repeat (first | exact List.Sublist.slnil | exact List.Sublist.refl _ | apply List.Sublist.cons_cons | apply List.Sublist.cons))) ?_
                      refine a_one 8 (by kernel_rfl) rfl rfl ?_
                      refine x_store1 4 rfl rfl rfl Try.hi88 Try.cz88 rfl (by first | (simp; done) | (simp [intCells_len]; omega) | exact Nat.zero_lt_succ _) rfl ?_
                      refine a_and (fun _ hw => hw.sub (by repeat (first | exact List.Sublist.slnil | exact List.Sublist.refl _ | apply List.Sublist.cons_cons | apply List.Sublist.cons))) ?_
                      refine a_one 9 (by kernel_rfl) rfl rfl ?_
                      refine x_store1 5 rfl rfl rfl Try.hi89 Try.cz89 rfl (by first | (simp; done) | (simp [intCells_len]; omega) | exact Nat.zero_lt_succ _) rfl ?_
                      refine a_and (fun _ hw => hw.sub (by repeat (first | exact List.Sublist.slnil | exact List.Sublist.refl _ | apply List.Sublist.cons_cons | apply List.Sublist.cons))) ?_
                      refine a_done (by kernel_rfl) ?_
                      exact e_cutEnd (Value.slice A4 (i + 1) cap4, Value.slice A5 (i + 1) cap5) trivial (by repeat (first | exact Sub.nil _ | refine Sub.cons rfl ?_)) (fun _ hw => by rw [hst, hrs, resL_app, resL_one]; exact hw.pick [4, 5, 6, 7, 8, 9, 10, 11] (by decide))
                    · refine a_op rfl rfl ?_
                      refine x_val (v_loadB 5 rfl Try.underlying89 rfl rfl rfl) rfl ?_
                      refine a_and (fun _ hw => hw.sub (by repeat (first | exact List.Sublist.slnil | exact List.Sublist.refl _ | apply List.Sublist.cons_cons | apply List.Sublist.cons))) ?_
                      refine a_one 3 (by kernel_rfl) rfl rfl ?_
                      refine x_appendIS (z := .agg #[.int .i64 0, .int .i64 0, .int .i64 0, .int .i64 0, .int .i64 0, .int .i64 0, .int .i64 0, .int .i64 0, .int .i64 0, .int .i64 0]) (n := i) (xs := stsC s r i) (size := 10) (bytes := 80) (k := 1) (news := intCells [x0, x1, x2, x3, x4, x5, x6, x7, x8, x9]) 7 rfl rfl rfl Try.underlying88 (by kernel_rfl) rfl (by decide) (fun w hw => blk_rds (hw.hold (Chunk.blk b63 70 (intCells [x0, x1, x2, x3, x4, x5, x6, x7, x8, x9])) (by first | exact List.mem_cons_self | exact List.mem_cons_of_mem _ List.mem_cons_self)) rfl) (by intro u hu; exact one_intCells _ u (by simpa using hu)) (by omega) (by simp only [maxLen]; omega) rfl (fun A4 cap4 _ => ?_)
                      refine a_and (fun _ hw => hw.sub (by repeat (first | exact List.Sublist.slnil | exact List.Sublist.refl _ | apply List.Sublist.cons_cons | apply List.Sublist.cons))) ?_
                      refine a_one 7 (by kernel_rfl) rfl rfl ?_
                      refine x_appendIS (z := .agg #[.int .i64 0, .int .i64 0, .int .i64 0, .int .i64 0, .int .i64 0]) (n := i) (xs := resL (resTo s r i)) (size := 5) (bytes := 40) (k := 1) (news := resCells c [g0, g1, g2, g3]) 8 rfl rfl rfl Try.underlying89 (by kernel_rfl) rfl (by decide) (fun w hw => blk_rds (hw.hold (Chunk.blk b67 93 (resCells c [g0, g1, g2, g3])) (by first | exact List.mem_cons_self | exact List.mem_cons_of_mem _ List.mem_cons_self)) rfl) (by intro u hu; exact one_resCells c [g0, g1, g2, g3] u (by simpa using hu)) (by omega) (by simp only [maxLen]; omega) rfl (fun A5 cap5 _ => ?_)
                      refine a_and (fun _ hw => hw.sub (by repeat (first | exact List.Sublist.slnil | exact List.Sublist.refl _ | apply List.Sublist.cons_cons | apply List.Sublist.cons))) ?_
                      refine a_one 8 (by kernel_rfl) rfl rfl ?_
                      refine x_store1 4 rfl rfl rfl Try.hi88 Try.cz88 rfl (by first | (simp; done) | (simp [intCells_len]; omega) | exact Nat.zero_lt_succ _) rfl ?_
                      refine a_and (fun _ hw => hw.sub (by repeat (first | exact List.Sublist.slnil | exact List.Sublist.refl _ | apply List.Sublist.cons_cons | apply List.Sublist.cons))) ?_
                      refine a_one 9 (by kernel_rfl) rfl rfl ?_
                      refine x_store1 5 rfl rfl rfl Try.hi89 Try.cz89 rfl (by first | (simp; done) | (simp [intCells_len]; omega) | exact Nat.zero_lt_succ _) rfl ?_
                      refine a_and (fun _ hw => hw.sub (by repeat (first | exact List.Sublist.slnil | exact List.Sublist.refl _ | apply List.Sublist.cons_cons | apply List.Sublist.cons))) ?_
                      refine a_done (by kernel_rfl) ?_
                      exact e_cutEnd (Value.slice A4 (i + 1) cap4, Value.slice A5 (i + 1) cap5) trivial (by repeat (first | exact Sub.nil _ | refine Sub.cons rfl ?_)) (fun _ hw => by rw [hst, hrs, resL_app, resL_one]; exact hw.pick [4, 5, 6, 7, 8, 9, 10, 11] (by decide))
                  · refine a_op rfl rfl ?_
                    refine x_val (v_loadB 4 rfl Try.underlying89 rfl rfl rfl) rfl ?_
                    refine a_and (fun _ hw => hw.sub (by repeat (first | exact List.Sublist.slnil | exact List.Sublist.refl _ | apply List.Sublist.cons_cons | apply List.Sublist.cons))) ?_
                    refine a_one 2 (by kernel_rfl) rfl rfl ?_
                    refine x_buildSlice _ (intCells [x0, x1, x2, x3, x4, x5, x6, x7, x8, x9]) rfl (run_buildSlice Try.underlying88 Try.hi70 Try.cz70 Try.zeroValue70 rfl (by kernel_rfl)) rfl (fun b63 => ?_)
                    refine a_and (fun _ hw => hw.sub (by repeat (first | exact List.Sublist.slnil | exact List.Sublist.refl _ | apply List.Sublist.cons_cons | apply List.Sublist.cons))) ?_
                    refine a_one 3 (by kernel_rfl) rfl rfl ?_
                    refine x_appendIS (z := .agg #[.int .i64 0, .int .i64 0, .int .i64 0, .int .i64 0, .int .i64 0, .int .i64 0, .int .i64 0, .int .i64 0, .int .i64 0, .int .i64 0]) (n := i) (xs := stsC s r i) (size := 10) (bytes := 80) (k := 1) (news := intCells [x0, x1, x2, x3, x4, x5, x6, x7, x8, x9]) 7 rfl rfl rfl Try.underlying88 (by kernel_rfl) rfl (by decide) (fun w hw => blk_rds (hw.hold (Chunk.blk b63 70 (intCells [x0, x1, x2, x3, x4, x5, x6, x7, x8, x9])) (by first | exact List.mem_cons_self | exact List.mem_cons_of_mem _ List.mem_cons_self)) rfl) (by intro u hu; exact one_intCells _ u (by simpa using hu)) (by omega) (by simp only [maxLen]; omega) rfl (fun A4 cap4 _ => ?_)
                    refine a_and (fun _ hw => hw.sub (by repeat (first | exact List.Sublist.slnil | exact List.Sublist.refl _ | apply List.Sublist.cons_cons | apply List.Sublist.cons))) ?_
                    refine a_one 7 (by kernel_rfl) rfl rfl ?_
                    refine x_appendIS (z := .agg #[.int .i64 0, .int .i64 0, .int .i64 0, .int .i64 0, .int .i64 0]) (n := i) (xs := resL (resTo s r i)) (size := 5) (bytes := 40) (k := 1) (news := resCells c [g0, g1, g2, g3]) 8 rfl rfl rfl Try.underlying89 (by kernel_rfl) rfl (by decide) (fun w hw => blk_rds (hw.hold (Chunk.blk b67 93 (resCells c [g0, g1, g2, g3])) (by first | exact List.mem_cons_self | exact List.mem_cons_of_mem _ List.mem_cons_self)) rfl) (by intro u hu; exact one_resCells c [g0, g1, g2, g3] u (by simpa using hu)) (by omega) (by simp only [maxLen]; omega) rfl (fun A5 cap5 _ => ?_)
                    refine a_and (fun _ hw => hw.sub (by repeat (first | exact List.Sublist.slnil | exact List.Sublist.refl _ | apply List.Sublist.cons_cons | apply List.Sublist.cons))) ?_
                    refine a_one 8 (by kernel_rfl) rfl rfl ?_
                    refine x_store1 4 rfl rfl rfl Try.hi88 Try.cz88 rfl (by first | (simp; done) | (simp [intCells_len]; omega) | exact Nat.zero_lt_succ _) rfl ?_
                    refine a_and (fun _ hw => hw.sub (by repeat (first | exact List.Sublist.slnil | exact List.Sublist.refl _ | apply List.Sublist.cons_cons | apply List.Sublist.cons))) ?_
                    refine a_one 9 (by kernel_rfl) rfl rfl ?_
                    refine x_store1 5 rfl rfl rfl Try.hi89 Try.cz89 rfl (by first | (simp; done) | (simp [intCells_len]; omega) | exact Nat.zero_lt_succ _) rfl ?_
                    refine a_and (fun _ hw => hw.sub (by repeat (first | exact List.Sublist.slnil | exact List.Sublist.refl _ | apply List.Sublist.cons_cons | apply List.Sublist.cons))) ?_
                    refine a_done (by kernel_rfl) ?_
                    exact e_cutEnd (Value.slice A4 (i + 1) cap4, Value.slice A5 (i + 1) cap5) trivial (by repeat (first | exact Sub.nil _ | refine Sub.cons rfl ?_)) (fun _ hw => by rw [hst, hrs, resL_app, resL_one]; exact hw.pick [4, 5, 6, 7, 8, 9, 10, 11] (by decide))
                · refine a_op rfl rfl ?_
                  refine x_buildSlice _ (intCells [x0, x1, x2, x3, x4, x5, x6, x7, x8, x9]) rfl (run_buildSlice Try.underlying88 Try.hi70 Try.cz70 Try.zeroValue70 rfl (by kernel_rfl)) rfl (fun b63 => ?_)
                  refine a_and (fun _ hw => hw.sub (by repeat (first | exact List.Sublist.slnil | exact List.Sublist.refl _ | apply List.Sublist.cons_cons | apply List.Sublist.cons))) ?_
                  refine a_all [0, 4] (by kernel_rfl) rfl ?_
                  intro i hi
                  simp only [List.mem_cons, List.not_mem_nil, or_false] at hi
                  rcases hi with rfl | rfl
                  · refine a_op rfl rfl ?_
                    refine x_val (v_loadB 4 rfl Try.underlying88 rfl rfl rfl) rfl ?_
                    refine a_and (fun _ hw => hw.sub (by repeat (first | exact List.Sublist.slnil | exact List.Sublist.refl _ | apply List.Sublist.cons_cons | apply List.Sublist.cons))) ?_
                    refine a_all [3, 4] (by kernel_rfl) rfl ?_
                    intro i hi
                    simp only [List.mem_cons, List.not_mem_nil, or_false] at hi
                    rcases hi with rfl | rfl
                    · refine a_op rfl rfl ?_
                      refine x_appendIS (z := .agg #[.int .i64 0, .int .i64 0, .int .i64 0, .int .i64 0, .int .i64 0, .int .i64 0, .int .i64 0, .int .i64 0, .int .i64 0, .int .i64 0]) (n := i) (xs := stsC s r i) (size := 10) (bytes := 80) (k := 1) (news := intCells [x0, x1, x2, x3, x4, x5, x6, x7, x8, x9]) 7 rfl rfl rfl Try.underlying88 (by kernel_rfl) rfl (by decide) (fun w hw => blk_rds (hw.hold (Chunk.blk b63 70 (intCells [x0, x1, x2, x3, x4, x5, x6, x7, x8, x9])) (by first | exact List.mem_cons_self | exact List.mem_cons_of_mem _ List.mem_cons_self)) rfl) (by intro u hu; exact one_intCells _ u (by simpa using hu)) (by omega) (by simp only [maxLen]; omega) rfl (fun A4 cap4 _ => ?_)
                      refine a_and (fun _ hw => hw.sub (by repeat (first | exact List.Sublist.slnil | exact List.Sublist.refl _ | apply List.Sublist.cons_cons | apply List.Sublist.cons))) ?_
                      refine a_one 4 (by kernel_rfl) rfl rfl ?_
                      refine x_val (v_loadB 5 rfl Try.underlying89 rfl rfl rfl) rfl ?_
                      refine a_and (fun _ hw => hw.sub (by repeat (first | exact List.Sublist.slnil | exact List.Sublist.refl _ | apply List.Sublist.cons_cons | apply List.Sublist.cons))) ?_
                      refine a_one 7 (by kernel_rfl) rfl rfl ?_
                      refine x_appendIS (z := .agg #[.int .i64 0, .int .i64 0, .int .i64 0, .int .i64 0, .int .i64 0]) (n := i) (xs := resL (resTo s r i)) (size := 5) (bytes := 40) (k := 1) (news := resCells c [g0, g1, g2, g3]) 8 rfl rfl rfl Try.underlying89 (by kernel_rfl) rfl (by decide) (fun w hw => blk_rds (hw.hold (Chunk.blk b67 93 (resCells c [g0, g1, g2, g3])) (by first | exact List.mem_cons_self | exact List.mem_cons_of_mem _ List.mem_cons_self)) rfl) (by intro u hu; exact one_resCells c [g0, g1, g2, g3] u (by simpa using hu)) (by omega) (by simp only [maxLen]; omega) rfl (fun A5 cap5 _ => ?_)
                      refine a_and (fun _ hw => hw.sub (by repeat (first | exact List.Sublist.slnil | exact List.Sublist.refl _ | apply List.Sublist.cons_cons | apply List.Sublist.cons))) ?_
                      refine a_one 8 (by kernel_rfl) rfl rfl ?_
                      refine x_store1 4 rfl rfl rfl Try.hi88 Try.cz88 rfl (by first | (simp; done) | (simp [intCells_len]; omega) | exact Nat.zero_lt_succ _) rfl ?_
                      refine a_and (fun _ hw => hw.sub (by repeat (first | exact List.Sublist.slnil | exact List.Sublist.refl _ | apply List.Sublist.cons_cons | apply List.Sublist.cons))) ?_
                      refine a_one 9 (by kernel_rfl) rfl rfl ?_
                      refine x_store1 5 rfl rfl rfl Try.hi89 Try.cz89 rfl (by first | (simp; done) | (simp [intCells_len]; omega) | exact Nat.zero_lt_succ _) rfl ?_
                      refine a_and (fun _ hw => hw.sub (by repeat (first | exact List.Sublist.slnil | exact List.Sublist.refl _ | apply List.Sublist.cons_cons | apply List.Sublist.cons))) ?_
                      refine a_done (by kernel_rfl) ?_
                      exact e_cutEnd (Value.slice A4 (i + 1) cap4, Value.slice A5 (i + 1) cap5) trivial (by repeat (first | exact Sub.nil _ | refine Sub.cons rfl ?_)) (fun _ hw => by rw [hst, hrs, resL_app, resL_one]; exact hw.pick [4, 5, 6, 7, 8, 9, 10, 11] (by decide))
                    · refine a_op rfl rfl ?_
                      refine x_val (v_loadB 5 rfl Try.underlying89 rfl rfl rfl) rfl ?_
                      refine a_and (fun _ hw => hw.sub (by repeat (first | exact List.Sublist.slnil | exact List.Sublist.refl _ | apply List.Sublist.cons_cons | apply List.Sublist.cons))) ?_
                      refine a_one 3 (by kernel_rfl) rfl rfl ?_
                      refine x_appendIS (z := .agg #[.int .i64 0, .int .i64 0, .int .i64 0, .int .i64 0, .int .i64 0, .int .i64 0, .int .i64 0, .int .i64 0, .int .i64 0, .int .i64 0]) (n := i) (xs := stsC s r i) (size := 10) (bytes := 80) (k := 1) (news := intCells [x0, x1, x2, x3, x4, x5, x6, x7, x8, x9]) 7 rfl rfl rfl Try.underlying88 (by kernel_rfl) rfl (by decide) (fun w hw => blk_rds (hw.hold (Chunk.blk b63 70 (intCells [x0, x1, x2, x3, x4, x5, x6, x7, x8, x9])) (by first | exact List.mem_cons_self | exact List.mem_cons_of_mem _ List.mem_cons_self)) rfl) (by intro u hu; exact one_intCells _ u (by simpa using hu)) (by omega) (by simp only [maxLen]; omega) rfl (fun A4 cap4 _ => ?_)
                      refine a_and (fun _ hw => hw.sub (by repeat (first | exact List.Sublist.slnil | exact List.Sublist.refl _ | apply List.Sublist.cons_cons | apply List.Sublist.cons))) ?_
                      refine a_one 7 (by kernel_rfl) rfl rfl ?_
                      refine x_appendIS (z := .agg #[.int .i64 0, .int .i64 0, .int .i64 0, .int .i64 0, .int .i64 0]) (n := i) (xs := resL (resTo s r i)) (size := 5) (bytes := 40) (k := 1) (news := resCells c [g0, g1, g2, g3]) 8 rfl rfl rfl Try.underlying89 (by kernel_rfl) rfl (by decide) (fun w hw => blk_rds (hw.hold (Chunk.blk b67 93 (resCells c [g0, g1, g2, g3])) (by first | exact List.mem_cons_self | exact List.mem_cons_of_mem _ List.mem_cons_self)) rfl) (by intro u hu; exact one_resCells c [g0, g1, g2, g3] u (by simpa using hu)) (by omega) (by simp only [maxLen]; omega) rfl (fun A5 cap5 _ => ?_)
                      refine a_and (fun _ hw => hw.sub (by repeat (first | exact List.Sublist.slnil | exact List.Sublist.refl _ | apply List.Sublist.cons_cons | apply List.Sublist.cons))) ?_
                      refine a_one 8 (by kernel_rfl) rfl rfl ?_
                      refine x_store1 4 rfl rfl rfl Try.hi88 Try.cz88 rfl (by first | (simp; done) | (simp [intCells_len]; omega) | exact Nat.zero_lt_succ _) rfl ?_
                      refine a_and (fun _ hw => hw.sub (by repeat (first | exact List.Sublist.slnil | exact List.Sublist.refl _ | apply List.Sublist.cons_cons | apply List.Sublist.cons))) ?_
                      refine a_one 9 (by kernel_rfl) rfl rfl ?_
                      refine x_store1 5 rfl rfl rfl Try.hi89 Try.cz89 rfl (by first | (simp; done) | (simp [intCells_len]; omega) | exact Nat.zero_lt_succ _) rfl ?_
                      refine a_and (fun _ hw => hw.sub (by repeat (first | exact List.Sublist.slnil | exact List.Sublist.refl _ | apply List.Sublist.cons_cons | apply List.Sublist.cons))) ?_
                      refine a_done (by kernel_rfl) ?_
                      exact e_cutEnd (Value.slice A4 (i + 1) cap4, Value.slice A5 (i + 1) cap5) trivial (by repeat (first | exact Sub.nil _ | refine Sub.cons rfl ?_)) (fun _ hw => by rw [hst, hrs, resL_app, resL_one]; exact hw.pick [4, 5, 6, 7, 8, 9, 10, 11] (by decide))
                  · refine a_op rfl rfl ?_
                    refine x_val (v_loadB 5 rfl Try.underlying89 rfl rfl rfl) rfl ?_
                    refine a_and (fun _ hw => hw.sub (by repeat (first | exact List.Sublist.slnil | exact List.Sublist.refl _ | apply List.Sublist.cons_cons | apply List.Sublist.cons))) ?_
                    refine a_one 0 (by kernel_rfl) rfl rfl ?_
                    refine x_val (v_loadB 4 rfl Try.underlying88 rfl rfl rfl) rfl ?_
                    refine a_and (fun _ hw => hw.sub (by repeat (first | exact List.Sublist.slnil | exact List.Sublist.refl _ | apply List.Sublist.cons_cons | apply List.Sublist.cons))) ?_
                    refine a_one 3 (by kernel_rfl) rfl rfl ?_
                    refine x_appendIS (z := .agg #[.int .i64 0, .int .i64 0, .int .i64 0, .int .i64 0, .int .i64 0, .int .i64 0, .int .i64 0, .int .i64 0, .int .i64 0, .int .i64 0]) (n := i) (xs := stsC s r i) (size := 10) (bytes := 80) (k := 1) (news := intCells [x0, x1, x2, x3, x4, x5, x6, x7, x8, x9]) 7 rfl rfl rfl Try.underlying88 (by kernel_rfl) rfl (by decide) (fun w hw => blk_rds (hw.hold (Chunk.blk b63 70 (intCells [x0, x1, x2, x3, x4, x5, x6, x7, x8, x9])) (by first | exact List.mem_cons_self | exact List.mem_cons_of_mem _ List.mem_cons_self)) rfl) (by intro u hu; exact one_intCells _ u (by simpa using hu)) (by omega) (by simp only [maxLen]; omega) rfl (fun A4 cap4 _ => ?_)
                    refine a_and (fun _ hw => hw.sub (by repeat (first | exact List.Sublist.slnil | exact List.Sublist.refl _ | apply List.Sublist.cons_cons | apply List.Sublist.cons))) ?_
                    refine a_one 7 (by kernel_rfl) rfl rfl ?_
                    refine x_appendIS (z := .agg #[.int .i64 0, .int .i64 0, .int .i64 0, .int .i64 0, .int .i64 0]) (n := i) (xs := resL (resTo s r i)) (size := 5) (bytes := 40) (k := 1) (news := resCells c [g0, g1, g2, g3]) 8 rfl rfl rfl Try.underlying89 (by kernel_rfl) rfl (by decide) (fun w hw => blk_rds (hw.hold (Chunk.blk b67 93 (resCells c [g0, g1, g2, g3])) (by first | exact List.mem_cons_self | exact List.mem_cons_of_mem _ List.mem_cons_self)) rfl) (by intro u hu; exact one_resCells c [g0, g1, g2, g3] u (by simpa using hu)) (by omega) (by simp only [maxLen]; omega) rfl (fun A5 cap5 _ => ?_)
                    refine a_and (fun _ hw => hw.sub (by repeat (first | exact List.Sublist.slnil | exact List.Sublist.refl _ | apply List.Sublist.cons_cons | apply List.Sublist.cons))) ?_
                    refine a_one 8 (by kernel_rfl) rfl rfl ?_
                    refine x_store1 4 rfl rfl rfl Try.hi88 Try.cz88 rfl (by first | (simp; done) | (simp [intCells_len]; omega) | exact Nat.zero_lt_succ _) rfl ?_
                    refine a_and (fun _ hw => hw.sub (by repeat (first | exact List.Sublist.slnil | exact List.Sublist.refl _ | apply List.Sublist.cons_cons | apply List.Sublist.cons))) ?_
                    refine a_one 9 (by kernel_rfl) rfl rfl ?_
                    refine x_store1 5 rfl rfl rfl Try.hi89 Try.cz89 rfl (by first | (simp; done) | (simp [intCells_len]; omega) | exact Nat.zero_lt_succ _) rfl ?_
                    refine a_and (fun _ hw => hw.sub (by repeat (first | exact List.Sublist.slnil | exact List.Sublist.refl _ | apply List.Sublist.cons_cons | apply List.Sublist.cons))) ?_
                    refine a_done (by kernel_rfl) ?_
                    exact e_cutEnd (Value.slice A4 (i + 1) cap4, Value.slice A5 (i + 1) cap5) trivial (by repeat (first | exact Sub.nil _ | refine Sub.cons rfl ?_)) (fun _ hw => by rw [hst, hrs, resL_app, resL_one]; exact hw.pick [4, 5, 6, 7, 8, 9, 10, 11] (by decide))
                · refine a_op rfl rfl ?_
                  refine x_val (v_loadB 4 rfl Try.underlying89 rfl rfl rfl) rfl ?_
                  refine a_and (fun _ hw => hw.sub (by repeat (first | exact List.Sublist.slnil | exact List.Sublist.refl _ | apply List.Sublist.cons_cons | apply List.Sublist.cons))) ?_
                  refine a_all [0, 2] (by kernel_rfl) rfl ?_
                  intro i hi
                  simp only [List.mem_cons, List.not_mem_nil, or_false] at hi
                  rcases hi with rfl | rfl
                  · refine a_op rfl rfl ?_
                    refine x_val (v_loadB 3 rfl Try.underlying88 rfl rfl rfl) rfl ?_
                    refine a_and (fun _ hw => hw.sub (by repeat (first | exact List.Sublist.slnil | exact List.Sublist.refl _ | apply List.Sublist.cons_cons | apply List.Sublist.cons))) ?_
                    refine a_one 2 (by kernel_rfl) rfl rfl ?_
                    refine x_buildSlice _ (intCells [x0, x1, x2, x3, x4, x5, x6, x7, x8, x9]) rfl (run_buildSlice Try.underlying88 Try.hi70 Try.cz70 Try.zeroValue70 rfl (by kernel_rfl)) rfl (fun b63 => ?_)
                    refine a_and (fun _ hw => hw.sub (by repeat (first | exact List.Sublist.slnil | exact List.Sublist.refl _ | apply List.Sublist.cons_cons | apply List.Sublist.cons))) ?_
                    refine a_one 3 (by kernel_rfl) rfl rfl ?_
                    refine x_appendIS (z := .agg #[.int .i64 0, .int .i64 0, .int .i64 0, .int .i64 0, .int .i64 0, .int .i64 0, .int .i64 0, .int .i64 0, .int .i64 0, .int .i64 0]) (n := i) (xs := stsC s r i) (size := 10) (bytes := 80) (k := 1) (news := intCells [x0, x1, x2, x3, x4, x5, x6, x7, x8, x9]) 7 rfl rfl rfl Try.underlying88 (by kernel_rfl) rfl (by decide) (fun w hw => blk_rds (hw.hold (Chunk.blk b63 70 (intCells [x0, x1, x2, x3, x4, x5, x6, x7, x8, x9])) (by first | exact List.mem_cons_self | exact List.mem_cons_of_mem _ List.mem_cons_self)) rfl) (by intro u hu; exact one_intCells _ u (by simpa using hu)) (by omega) (by simp only [maxLen]; omega) rfl (fun A4 cap4 _ => ?_)
                    refine a_and (fun _ hw => hw.sub (by repeat (first | exact List.Sublist.slnil | exact List.Sublist.refl _ | apply List.Sublist.cons_cons | apply List.Sublist.cons))) ?_
                    refine a_one 7 (by kernel_rfl) rfl rfl ?_
                    refine x_appendIS (z := .agg #[.int .i64 0, .int .i64 0, .int .i64 0, .int .i64 0, .int .i64 0]) (n := i) (xs := resL (resTo s r i)) (size := 5) (bytes := 40) (k := 1) (news := resCells c [g0, g1, g2, g3]) 8 rfl rfl rfl Try.underlying89 (by kernel_rfl) rfl (by decide) (fun w hw => blk_rds (hw.hold (Chunk.blk b67 93 (resCells c [g0, g1, g2, g3])) (by first | exact List.mem_cons_self | exact List.mem_cons_of_mem _ List.mem_cons_self)) rfl) (by intro u hu; exact one_resCells c [g0, g1, g2, g3] u (by simpa using hu)) (by omega) (by simp only [maxLen]; omega) rfl (fun A5 cap5 _ => ?_)
                    refine a_and (fun _ hw => hw.sub (by repeat (first | exact List.Sublist.slnil | exact List.Sublist.refl _ | apply List.Sublist.cons_cons | apply List.Sublist.cons))) ?_
                    refine a_one 8 (by kernel_rfl) rfl rfl ?_
                    refine x_store1 4 rfl rfl rfl Try.hi88 Try.cz88 rfl (by first | (simp; done) | (simp [intCells_len]; omega) | exact Nat.zero_lt_succ _) rfl ?_
                    refine a_and (fun _ hw => hw.sub (by repeat (first | exact List.Sublist.slnil | exact List.Sublist.refl _ | apply List.Sublist.cons_cons | apply List.Sublist.cons))) ?_
                    refine a_one 9 (by kernel_rfl) rfl rfl ?_
                    refine x_store1 5 rfl rfl rfl Try.hi89 Try.cz89 rfl (by first | (simp; done) | (simp [intCells_len]; omega) | exact Nat.zero_lt_succ _) rfl ?_
                    refine a_and (fun _ hw => hw.sub (by repeat (first | exact List.Sublist.slnil | exact List.Sublist.refl _ | apply List.Sublist.cons_cons | apply List.Sublist.cons))) ?_
                    refine a_done (by kernel_rfl) ?_
                    exact e_cutEnd (Value.slice A4 (i + 1) cap4, Value.slice A5 (i + 1) cap5) trivial (by repeat (first | exact Sub.nil _ | refine Sub.cons rfl ?_)) (fun _ hw => by rw [hst, hrs, resL_app, resL_one]; exact hw.pick [4, 5, 6, 7, 8, 9, 10, 11] (by decide))
                  · refine a_op rfl rfl ?_
                    refine x_buildSlice _ (intCells [x0, x1, x2, x3, x4, x5, x6, x7, x8, x9]) rfl (run_buildSlice Try.underlying88 Try.hi70 Try.cz70 Try.zeroValue70 rfl (by kernel_rfl)) rfl (fun b63 => ?_)
                    refine a_and (fun _ hw => hw.sub (by repeat (first | exact List.Sublist.slnil | exact List.Sublist.refl _ | apply List.Sublist.cons_cons | apply List.Sublist.cons))) ?_
                    refine a_one 0 (by kernel_rfl) rfl rfl ?_
                    refine x_val (v_loadB 4 rfl Try.underlying88 rfl rfl rfl) rfl ?_
                    refine a_and (fun _ hw => hw.sub (by repeat (first | exact List.Sublist.slnil | exact List.Sublist.refl _ | apply List.Sublist.cons_cons | apply List.Sublist.cons))) ?_
                    refine a_one 3 (by kernel_rfl) rfl rfl ?_
                    refine x_appendIS (z := .agg #[.int .i64 0, .int .i64 0, .int .i64 0, .int .i64 0, .int .i64 0, .int .i64 0, .int .i64 0, .int .i64 0, .int .i64 0, .int .i64 0]) (n := i) (xs := stsC s r i) (size := 10) (bytes := 80) (k := 1) (news := intCells [x0, x1, x2, x3, x4, x5, x6, x7, x8, x9]) 7 rfl rfl rfl Try.underlying88 (by kernel_rfl) rfl (by decide) (fun w hw => blk_rds (hw.hold (Chunk.blk b63 70 (intCells [x0, x1, x2, x3, x4, x5, x6, x7, x8, x9])) (by first | exact List.mem_cons_self | exact List.mem_cons_of_mem _ List.mem_cons_self)) rfl) (by intro u hu; exact one_intCells _ u (by simpa using hu)) (by omega) (by simp only [maxLen]; omega) rfl (fun A4 cap4 _ => ?_)
                    refine a_and (fun _ hw => hw.sub (by repeat (first | exact List.Sublist.slnil | exact List.Sublist.refl _ | apply List.Sublist.cons_cons | apply List.Sublist.cons))) ?_
                    refine a_one 7 (by kernel_rfl) rfl rfl ?_
                    refine x_appendIS (z := .agg #[.int .i64 0, .int .i64 0, .int .i64 0, .int .i64 0, .int .i64 0]) (n := i) (xs := resL (resTo s r i)) (size := 5) (bytes := 40) (k := 1) (news := resCells c [g0, g1, g2, g3]) 8 rfl rfl rfl Try.underlying89 (by kernel_rfl) rfl (by decide) (fun w hw => blk_rds (hw.hold (Chunk.blk b67 93 (resCells c [g0, g1, g2, g3])) (by first | exact List.mem_cons_self | exact List.mem_cons_of_mem _ List.mem_cons_self)) rfl) (by intro u hu; exact one_resCells c [g0, g1, g2, g3] u (by simpa using hu)) (by omega) (by simp only [maxLen]; omega) rfl (fun A5 cap5 _ => ?_)
                    refine a_and (fun _ hw => hw.sub (by repeat (first | exact List.Sublist.slnil | exact List.Sublist.refl _ | apply List.Sublist.cons_cons | apply List.Sublist.cons))) ?_
                    refine a_one 8 (by kernel_rfl) rfl rfl ?_
                    refine x_store1 4 rfl rfl rfl Try.hi88 Try.cz88 rfl (by first | (simp; done) | (simp [intCells_len]; omega) | exact Nat.zero_lt_succ _) rfl ?_
                    refine a_and (fun _ hw => hw.sub (by repeat (first | exact List.Sublist.slnil | exact List.Sublist.refl _ | apply List.Sublist.cons_cons | apply List.Sublist.cons))) ?_
                    refine a_one 9 (by kernel_rfl) rfl rfl ?_
                    refine x_store1 5 rfl rfl rfl Try.hi89 Try.cz89 rfl (by first | (simp; done) | (simp [intCells_len]; omega) | exact Nat.zero_lt_succ _) rfl ?_
                    refine a_and (fun _ hw => hw.sub (by repeat (first | exact List.Sublist.slnil | exact List.Sublist.refl _ | apply List.Sublist.cons_cons | apply List.Sublist.cons))) ?_
                    refine a_done (by kernel_rfl) ?_
                    exact e_cutEnd (Value.slice A4 (i + 1) cap4, Value.slice A5 (i + 1) cap5) trivial (by repeat (first | exact Sub.nil _ | refine Sub.cons rfl ?_)) (fun _ hw => by rw [hst, hrs, resL_app, resL_one]; exact hw.pick [4, 5, 6, 7, 8, 9, 10, 11] (by decide))
            · rintro ⟨sv', rv'⟩ -
              dsimp only
              refine e_blk ?_
              refine e_region ?_
              refine w_val (v_move rfl) rfl ?_
              refine w_val (v_add rfl rfl (by omega)) rfl ?_
              refine w_val (v_assign rfl) rfl ?_
              refine w_nil ?_
              exact e_round ((i + 1, sv', rv')) (by dsimp only; omega) (by dsimp only; omega) (by repeat (first | exact Sub.nil _ | refine Sub.cons rfl ?_)) (fun _ hw => by dsimp only; rw [hx1]; exact hw)
        · have e : i = r.length := by omega
          subst e
          have hsn := stAt_len (r := r) hs10 r.length
          have hlsn : (intCells (stAt s r r.length)).length = 10 := by rw [intCells, List.length_map]; exact hsn
          have hn900 : ∀ F : Nat → Bool, ∀ k, k < 10 → (filT s r F k).length ≤ 1000 := fun F k _ => filT_len (by omega) k
          refine e_exit rfl ?_
          refine e_seq ?_
          refine e_region ?_
          refine w_val (v_makeFunc rfl) rfl ?_
          refine w_val (v_assign rfl) rfl ?_
          refine w_nil ?_
          refine e_seq ?_
          refine e_seq ?_
          refine e_region ?_
          refine w_val (v_assign rfl) rfl ?_
          refine w_nil ?_
          refine e_cutH (σ := Nat → Bool) [1, 2, 7, 9, 10, 11, 15] (.cons rfl (.cons rfl (.cons rfl (.cons rfl (.cons rfl (.cons rfl (.cons rfl .nil))))))) (fun _ => []) (fun F => (Chunk.blk b9 88 [sv] :: Chunk.blk b10 89 [rv] :: Chunk.blk b11 70 (intCells (stAt s r (r.length))) :: Own (sv) 70 10 (r.length) (stsC s r (r.length)) :: Own (rv) 93 5 (r.length) (resL (resTo s r (r.length))) :: Chunk.blk b7 72 [ptrV pt] :: tbH pt 130 ht (filT s r F))) (fun _ => True) ?_ ?_
          · refine e_block ?_
            refine e_loopH (σ := Nat × (Nat → Bool)) [1, 2, 7, 9, 10, 11, 15] (.cons rfl (.cons rfl (.cons rfl (.cons rfl (.cons rfl (.cons rfl (.cons rfl .nil))))))) (fun x => [(16, .int .i64 (x.1 : Int))]) (fun x => (Chunk.blk b9 88 [sv] :: Chunk.blk b10 89 [rv] :: Chunk.blk b11 70 (intCells (stAt s r (r.length))) :: Own (sv) 70 10 (r.length) (stsC s r (r.length)) :: Own (rv) 93 5 (r.length) (resL (resTo s r (r.length))) :: Chunk.blk b7 72 [ptrV pt] :: tbH pt 130 ht (filT s r x.2))) (fun x => x.1 ≤ p.length) (fun x => p.length - x.1) (0, fun _ => false) (Nat.zero_le _) (by repeat (first | exact Sub.nil _ | refine Sub.cons rfl ?_)) (fun _ hw => hw) ?_
            rintro ⟨j, F⟩ hj
            dsimp only at hj ⊢
            refine e_seq ?_
            refine e_seq ?_
            by_cases hlt : j < p.length
            · by_cases hpos : 0 < r.length
              · obtain ⟨ad, rfl, hcell⟩ := hpc j hlt
                generalize p[j] = pj at *
                obtain ⟨k, hk, hkm⟩ := u64_rem' pj hpos
                refine e_region ?_
                refine w_val (v_move rfl) rfl ?_
                refine w_val (v_move rfl) rfl ?_
                refine w_val (v_lenS Try.underlying53 rfl) rfl ?_
                refine w_val (v_is (v' := .bool true) (v_lss rfl rfl) (by rw [decide_eq_true (by omega)])) rfl ?_
                refine w_val (v_move rfl) rfl ?_
                refine w_want rfl rfl ?_
                refine w_val (v_move rfl) rfl ?_
                refine w_want rfl rfl ?_
                refine w_val (v_lenS Try.underlying34 rfl) rfl ?_
                refine w_want rfl rfl ?_
                refine w_val (v_is (v' := .bool true) (v_gtr rfl rfl) (by rw [decide_eq_true (by omega)])) rfl ?_
                refine w_val (v_pickT rfl rfl) rfl ?_
                refine w_nil ?_
                refine e_condT rfl ?_
                refine e_skip ?_
                refine e_seq ?_
                refine e_block ?_
                refine e_region ?_
                refine w_val (v_move rfl) rfl ?_
                refine w_val (v_move rfl) rfl ?_
                refine w_val (v_move rfl) rfl ?_
                refine w_val (v_indexS Try.underlying53 Try.hi3 Try.cz3 rfl rfl (by first | omega | decide)) rfl ?_
                refine w_val (v_loadO Try.underlying3 rfl rfl (hcell)) rfl ?_
                refine w_val (v_conv Try.underlying50 (by rw [Try.underlying3]; rfl) rfl) rfl ?_
                refine w_val (v_move rfl) rfl ?_
                refine w_val (v_lenS Try.underlying34 rfl) rfl ?_
                refine w_val (v_is (v' := .int .u64 ((r.length : Nat) : Int)) (v_conv Try.underlying50 (by rw [Try.underlying3]; rfl) rfl) (by rw [wrap_u64 (by omega) (by omega)])) rfl ?_
                refine w_val (v_is (v' := .int .u64 (k : Int)) (v_rem rfl rfl (by omega)) (by rw [hkm])) rfl ?_
                refine w_val (v_is (v' := .int .i64 (k : Int)) (v_conv Try.underlying3 (by rw [Try.underlying50]; rfl) rfl) (by rw [wrap_i64 (by omega) (by omega)])) rfl ?_
                refine w_op rfl ?_
                refine x_callM (dst := some 92) (tbH pt 130 ht (filT s r F)) [Chunk.blk b9 88 [sv], Chunk.blk b10 89 [rv], Chunk.blk b11 70 (intCells (stAt s r (r.length))), Own (sv) 70 10 (r.length) (stsC s r (r.length)), Own (rv) 93 5 (r.length) (resL (resTo s r (r.length))), Chunk.blk b7 72 [ptrV pt]] (σ := Unit) (fun _ => True) (fun _ => .tuple #[]) (fun _ => tbH pt 130 ht (filT s r (upd F k true))) (List.perm_append_comm (l₁ := [_, _, _, _, _, _])) rfl rfl rfl Try.call61 (fun w hw => fill_spec b10 b7 b9 pt rv sv ht s r F k w (res_part hw).1 (res_part hw).2 (res_view hw (e := 89) (by simp)) (res_view hw (e := 72) (by simp)) (res_view hw (e := 88) (by simp)) (own_view hw (e := 93) (by simp)) (own_view hw (e := 70) (by simp)) hk hs10 h8) rfl (fun _ _ => ?_)
                refine w_nil ?_
                refine e_blk ?_
                refine e_region ?_
                refine w_val (v_move rfl) rfl ?_
                refine w_val (v_add rfl rfl (by omega)) rfl ?_
                refine w_val (v_assign rfl) rfl ?_
                refine w_nil ?_
                exact e_round ((j + 1, upd F k true)) (by dsimp only; omega) (by dsimp only; omega) (by repeat (first | exact Sub.nil _ | refine Sub.cons rfl ?_)) (fun _ hw => hw.perm (List.perm_append_comm (l₂ := [_, _, _, _, _, _])))
              · refine e_region ?_
                refine w_val (v_move rfl) rfl ?_
                refine w_val (v_move rfl) rfl ?_
                refine w_val (v_lenS Try.underlying53 rfl) rfl ?_
                refine w_val (v_is (v' := .bool true) (v_lss rfl rfl) (by rw [decide_eq_true (by omega)])) rfl ?_
                refine w_val (v_move rfl) rfl ?_
                refine w_want rfl rfl ?_
                refine w_val (v_move rfl) rfl ?_
                refine w_want rfl rfl ?_
                refine w_val (v_lenS Try.underlying34 rfl) rfl ?_
                refine w_want rfl rfl ?_
                refine w_val (v_is (v' := .bool false) (v_gtr rfl rfl) (by rw [decide_eq_false (by omega)])) rfl ?_
                refine w_val (v_pickT rfl rfl) rfl ?_
                refine w_nil ?_
                refine e_condF rfl ?_
                refine e_exit rfl ?_
                exact e_cutEnd (F) (trivial) (by repeat (first | exact Sub.nil _ | refine Sub.cons rfl ?_)) (fun _ hw => hw)
            · refine e_region ?_
              refine w_val (v_move rfl) rfl ?_
              refine w_val (v_move rfl) rfl ?_
              refine w_val (v_lenS Try.underlying53 rfl) rfl ?_
              refine w_val (v_is (v' := .bool false) (v_lss rfl rfl) (by rw [decide_eq_false (by omega)])) rfl ?_
              refine w_val (v_move rfl) rfl ?_
              refine w_skip rfl rfl rfl rfl ?_
              refine w_skip rfl rfl rfl rfl ?_
              refine w_skip rfl rfl rfl rfl ?_
              refine w_val (v_pickF rfl rfl) rfl ?_
              refine w_nil ?_
              refine e_condF rfl ?_
              refine e_exit rfl ?_
              exact e_cutEnd (F) (trivial) (by repeat (first | exact Sub.nil _ | refine Sub.cons rfl ?_)) (fun _ hw => hw)
          · rintro F0 -
            refine e_seq ?_
            refine e_seq ?_
            refine e_region ?_
            refine w_val (v_assign rfl) rfl ?_
            refine w_nil ?_
            refine e_block ?_
            refine e_loopH (σ := Nat × (Nat → Bool)) [1, 2, 7, 9, 10, 11, 15] (.cons rfl (.cons rfl (.cons rfl (.cons rfl (.cons rfl (.cons rfl (.cons rfl .nil))))))) (fun x => [(17, .int .i64 (x.1 : Int))]) (fun x => (Chunk.blk b9 88 [sv] :: Chunk.blk b10 89 [rv] :: Chunk.blk b11 70 (intCells (stAt s r (r.length))) :: Own (sv) 70 10 (r.length) (stsC s r (r.length)) :: Own (rv) 93 5 (r.length) (resL (resTo s r (r.length))) :: Chunk.blk b7 72 [ptrV pt] :: tbH pt 130 ht (filT s r x.2))) (fun x => x.1 ≤ r.length ∧ ∀ m, m < x.1 → x.2 m = true) (fun x => r.length - x.1) (0, F0) ⟨Nat.zero_le _, fun m h => by omega⟩ (by repeat (first | exact Sub.nil _ | refine Sub.cons rfl ?_)) (fun _ hw => hw) ?_
            rintro ⟨j, F⟩ ⟨hj, hF⟩
            dsimp only at hj hF ⊢
            refine e_seq ?_
            refine e_seq ?_
            refine e_region ?_
            refine w_val (v_move rfl) rfl ?_
            refine w_val (v_move rfl) rfl ?_
            refine w_val (v_lenS Try.underlying34 rfl) rfl ?_
            refine w_val (v_lss rfl rfl) rfl ?_
            refine w_nil ?_
            refine e_condD rfl (fun hlt => ?_) (fun hlt => ?_)
            · have hk : j < r.length := by omega
              refine e_skip ?_
              refine e_seq ?_
              refine e_block ?_
              refine e_region ?_
              refine w_val (v_move rfl) rfl ?_
              refine w_val (v_move rfl) rfl ?_
              refine w_op rfl ?_
              refine x_callM (dst := some 101) (tbH pt 130 ht (filT s r F)) [Chunk.blk b9 88 [sv], Chunk.blk b10 89 [rv], Chunk.blk b11 70 (intCells (stAt s r (r.length))), Own (sv) 70 10 (r.length) (stsC s r (r.length)), Own (rv) 93 5 (r.length) (resL (resTo s r (r.length))), Chunk.blk b7 72 [ptrV pt]] (σ := Unit) (fun _ => True) (fun _ => .tuple #[]) (fun _ => tbH pt 130 ht (filT s r (upd F j true))) (List.perm_append_comm (l₁ := [_, _, _, _, _, _])) rfl rfl rfl Try.call61 (fun w hw => fill_spec b10 b7 b9 pt rv sv ht s r F j w (res_part hw).1 (res_part hw).2 (res_view hw (e := 89) (by simp)) (res_view hw (e := 72) (by simp)) (res_view hw (e := 88) (by simp)) (own_view hw (e := 93) (by simp)) (own_view hw (e := 70) (by simp)) hk hs10 h8) rfl (fun _ _ => ?_)
              refine w_nil ?_
              refine e_blk ?_
              refine e_region ?_
              refine w_val (v_move rfl) rfl ?_
              refine w_val (v_add rfl rfl (by omega)) rfl ?_
              refine w_val (v_assign rfl) rfl ?_
              refine w_nil ?_
              exact e_round ((j + 1, upd F j true)) (⟨by dsimp only; omega, fun m hm => by dsimp only; unfold upd; split; rfl; exact hF m (by dsimp only at hm; omega)⟩) (by dsimp only; omega) (by repeat (first | exact Sub.nil _ | refine Sub.cons rfl ?_)) (fun _ hw => hw.perm (List.perm_append_comm (l₂ := [_, _, _, _, _, _])))
            · have e : j = r.length := by omega
              subst e
              have hov := filT_over (s := s) hF
              have hste := filT_state hs10 hck hF
              refine e_exit rfl ?_
              refine e_seq ?_
              refine e_draw ([.blk b11 70 (intCells (stAt s r r.length)), .blk b7 72 [ptrV pt]]) Try.mixed ?_
              refine a_take 0 pan_cx (by kernel_rfl) (fun _ hw => hw.sub (by repeat (first | exact List.Sublist.slnil | exact List.Sublist.refl _ | apply List.Sublist.cons_cons | apply List.Sublist.cons))) rfl (by kernel_rfl) (by kernel_rfl) (v_loadB 1 rfl Try.underlying72 rfl rfl rfl) rfl ?_
              refine a_one 1 (by kernel_rfl) rfl rfl ?_
              refine x_call0 (v := .bool true) rfl rfl rfl Try.call49 rfl (fun w hw => by have := tabOver_spec pt ht (filT s r F) w (hw.tbV 6 rfl rfl) (hn900 F); rwa [hov] at this) ?_
              refine a_and (fun _ hw => hw.sub (by repeat (first | exact List.Sublist.slnil | exact List.Sublist.refl _ | apply List.Sublist.cons_cons | apply List.Sublist.cons))) ?_
              refine a_take 2 pan_cx (by kernel_rfl) (fun _ hw => hw.sub (by repeat (first | exact List.Sublist.slnil | exact List.Sublist.refl _ | apply List.Sublist.cons_cons | apply List.Sublist.cons))) rfl (by kernel_rfl) (by kernel_rfl) (v_move rfl) rfl ?_
              refine a_want 3 pan_cx (by kernel_rfl) (fun _ hw => hw.sub (by repeat (first | exact List.Sublist.slnil | exact List.Sublist.refl _ | apply List.Sublist.cons_cons | apply List.Sublist.cons))) rfl (by kernel_rfl) (by kernel_rfl) rfl rfl (v_loadB 1 rfl Try.underlying72 rfl rfl rfl) rfl ?_
              refine a_want 5 pan_cx (by kernel_rfl) (fun _ hw => hw.sub (by repeat (first | exact List.Sublist.slnil | exact List.Sublist.refl _ | apply List.Sublist.cons_cons | apply List.Sublist.cons))) rfl (by kernel_rfl) (by kernel_rfl) rfl rfl (v_loadBA 0 rfl Try.underlying70 rfl Try.hi70 (Try.cz70.trans hlsn.symm) rfl) rfl ?_
              refine a_oneW 4 (by kernel_rfl) rfl rfl rfl ?_
              refine x_call0 (v := intsV (stAt s r r.length)) rfl rfl rfl Try.call51 rfl (fun w hw => by have := tabState_spec pt ht (filT s r F) w (hw.tbV 6 rfl rfl) (hn900 F); rwa [hste] at this) ?_
              refine a_and (fun _ hw => hw.sub (by repeat (first | exact List.Sublist.slnil | exact List.Sublist.refl _ | apply List.Sublist.cons_cons | apply List.Sublist.cons))) ?_
              refine a_want 6 pan_cx (by kernel_rfl) (fun _ hw => hw.sub (by repeat (first | exact List.Sublist.slnil | exact List.Sublist.refl _ | apply List.Sublist.cons_cons | apply List.Sublist.cons))) rfl (by kernel_rfl) (by kernel_rfl) rfl rfl (v_is (v' := .bool true) (v_eqlInts (p := stAt s r r.length) (q := stAt s r r.length) Try.underlying70 (by kernel_rfl) Try.underlying2 Try.hi2 Try.cz2 hsn hsn rfl rfl) (congrArg Value.bool (decide_eq_true rfl))) rfl ?_
              refine a_take 7 pan_cx (by kernel_rfl) (fun _ hw => hw.sub (by repeat (first | exact List.Sublist.slnil | exact List.Sublist.refl _ | apply List.Sublist.cons_cons | apply List.Sublist.cons))) rfl (by kernel_rfl) (by kernel_rfl) (v_pickT rfl rfl) rfl ?_
              refine a_take 8 pan_cx (by kernel_rfl) (fun _ hw => hw.sub (by repeat (first | exact List.Sublist.slnil | exact List.Sublist.refl _ | apply List.Sublist.cons_cons | apply List.Sublist.cons))) rfl (by kernel_rfl) (by kernel_rfl) (v_assign rfl) rfl ?_
              refine a_done (by kernel_rfl) ?_
              refine e_retQ (q_ret1 rfl (.tmp rfl) ?_)
              exact fun w' hw' => ⟨rfl, hw'.res.nil⟩
      · refine e_skip ?_
        refine e_seq ?_
        refine e_seq ?_
        refine e_region ?_
        refine w_val (v_move rfl) rfl ?_
        refine w_op rfl ?_
        refine x_call0 (v := .bool false) rfl rfl rfl Try.call32 rfl (fun w hw => by have := great_spec _ r w (hsr.mono hw.off) hb; rwa [hg] at this) ?_
        refine w_val (v_move rfl) rfl ?_
        refine w_want rfl rfl ?_
        refine w_val (v_move rfl) rfl ?_
        refine w_want rfl rfl ?_
        refine w_val (v_lenS Try.underlying53 rfl) rfl ?_
        refine w_want rfl rfl ?_
        refine w_val (v_is (v' := .bool false) (v_gtr rfl rfl) (by rw [decide_eq_false (by omega)])) rfl ?_
        refine w_val (v_pickF rfl rfl) rfl ?_
        refine w_val (v_move rfl) rfl ?_
        refine w_want rfl rfl ?_
        refine w_val (v_move rfl) rfl ?_
        refine w_want rfl rfl ?_
        refine w_op rfl ?_
        refine x_call0 (v := .int .i64 (roundFaultL r)) rfl rfl rfl Try.call41 rfl (fun w hw => RoundFault_spec _ r w (hsr.mono hw.off)) ?_
        refine w_want rfl rfl ?_
        refine w_val (v_is (v' := .bool true) (v_neq rfl rfl) (by rw [decide_eq_true hf])) rfl ?_
        refine w_val (v_pickF rfl rfl) rfl ?_
        refine w_nil ?_
        refine e_condT rfl ?_
        refine e_seq ?_
        refine e_region ?_
        refine w_val (v_assign rfl) rfl ?_
        refine w_nil ?_
        refine e_retQ (q_ret1 rfl (.tmp rfl) ?_)
        exact fun w' hw' => ⟨rfl, hw'.res.nil⟩
end Go.SL

