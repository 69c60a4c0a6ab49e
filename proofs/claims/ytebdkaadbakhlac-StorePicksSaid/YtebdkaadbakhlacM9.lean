/- Ytebdkaadbakhlac: part M9 of this seat's own texts. -/
import Derived.Test.YtebdkaadbakhlacM5
set_option linter.unusedVariables false
set_option linter.unusedSimpArgs false

open Go Go.Proofs Go.SL
set_option maxRecDepth 100000
set_option maxHeartbeats 4000000
namespace Go.SL
theorem StorePicks_spec (v : Value) (l : List SStepL) (v2 : Value) (ps : List (List Int))  (w : World) (h : IsSSteps w.cell? v l) (hin : ∀ x ∈ l, ∀ d ∈ x.round, ∀ o ∈ d, OpIn o) (hl : ∀ x ∈ l, ∀ d ∈ x.round, d.length ≤ 4398046511104) (hmax : l.length ≤ maxLen) (h2 : IsIntss w.cell? v2 ps) :
    Calls Try.prog 11 #[v, v2] w fun e w' => e = .returned (.bool true) ∧ Res w [] [] w' := by
  have hs := h
  simp only [maxLen] at hmax
  rw [← off_none w] at h hs h2
  obtain ⟨A, kp, rfl, hle, hc⟩ := h
  obtain ⟨A2p, kp2, rfl, hle2, hc2⟩ := h2
  refine enter0 (N := 82) Try.func11 rfl rfl rfl ?_
  refine e_seq ?_
  refine e_region ?_
  refine w_val (v_assign rfl) rfl ?_
  refine w_nil ?_
  refine e_seq ?_
  refine e_seq ?_
  refine e_region ?_
  refine w_op rfl ?_
  refine x_call0 (v := .bool true) rfl rfl rfl Try.call48 rfl (fun w hw => storeBegun_spec w) ?_
  refine w_val (v_not rfl) rfl ?_
  refine w_nil ?_
  refine e_condF rfl ?_
  refine e_skip ?_
  refine e_seq ?_
  refine e_seq ?_
  refine e_region ?_
  refine w_val (v_move rfl) rfl ?_
  refine w_op rfl ?_
  refine x_call (dst := some 12) (mc := []) (mr := []) (σ := Bool) (fun _ => True) (fun b => .bool b) (fun _ => []) rfl rfl rfl Try.call49 (fun w hw => greatSteps_spec _ l w (hs.mono hw.off) hl) rfl (fun b _ => ?_)
  cases b with
  | true =>
    refine w_val (v_move rfl) rfl ?_
    refine w_skip rfl rfl rfl rfl ?_
    refine w_skip rfl rfl rfl rfl ?_
    refine w_skip rfl rfl rfl rfl ?_
    refine w_val (v_pickT rfl rfl) rfl ?_
    refine w_nil ?_
    refine e_condDT rfl (by omega) ?_
    refine e_seq ?_
    refine e_region ?_
    refine w_val (v_assign rfl) rfl ?_
    refine w_nil ?_
    refine e_retQ (q_ret1 rfl (.tmp rfl) ?_)
    exact fun w' hw' => ⟨rfl, hw'.res.nil⟩
  | false =>
    by_cases h100 : 100 < ps.length
    · refine w_val (v_move rfl) rfl ?_
      refine w_want rfl rfl ?_
      refine w_val (v_move rfl) rfl ?_
      refine w_want rfl rfl ?_
      refine w_val (v_lenS Try.underlying107 rfl) rfl ?_
      refine w_want rfl rfl ?_
      refine w_val (v_is (v' := .bool true) (v_gtr rfl rfl) (by rw [decide_eq_true (by omega)])) rfl ?_
      refine w_val (v_pickF rfl rfl) rfl ?_
      refine w_nil ?_
      refine e_condT rfl ?_
      refine e_seq ?_
      refine e_region ?_
      refine w_val (v_assign rfl) rfl ?_
      refine w_nil ?_
      refine e_retQ (q_ret1 rfl (.tmp rfl) ?_)
      exact fun w' hw' => ⟨rfl, hw'.res.nil⟩
    · refine w_val (v_move rfl) rfl ?_
      refine w_want rfl rfl ?_
      refine w_val (v_move rfl) rfl ?_
      refine w_want rfl rfl ?_
      refine w_val (v_lenS Try.underlying107 rfl) rfl ?_
      refine w_want rfl rfl ?_
      refine w_val (v_is (v' := .bool false) (v_gtr rfl rfl) (by rw [decide_eq_false (by omega)])) rfl ?_
      refine w_val (v_pickF rfl rfl) rfl ?_
      refine w_nil ?_
      refine e_condF rfl ?_
      refine e_skip ?_
      refine e_seq ?_
      refine e_region ?_
      refine w_op rfl ?_
      refine x_call (dst := some 18) (mc := []) (σ := StP) (fun _ => True) (fun y => .pointer (some ⟨y.p, 0, none⟩)) (fun y => stH y ⟨[], 0, 0⟩) rfl rfl rfl Try.call50 (fun w _ => stNew_spec w) rfl (fun y _ => ?_); obtain ⟨p, pl, bv0, ev0, A0, k0⟩ := y; dsimp only
      refine w_op rfl ?_
      refine x_call (dst := some 19) (mc := []) (σ := StP) (fun _ => True) (fun y => .pointer (some ⟨y.p, 0, none⟩)) (fun y => stH y ⟨[], 0, 0⟩) rfl rfl rfl Try.call50 (fun w _ => stNew_spec w) rfl (fun y _ => ?_); obtain ⟨p2, pl2, bv9, ev9, A9, k9⟩ := y; dsimp only
      refine w_val (v_assign rfl) rfl ?_
      refine w_val (v_assign rfl) rfl ?_
      refine w_nil ?_
      refine e_seq ?_
      refine e_seq ?_
      refine e_region ?_
      refine w_val (v_assign rfl) rfl ?_
      refine w_nil ?_
      refine e_block ?_
      refine e_loopH (σ := Nat × QL × ((Value × Value) × Option Addr × Nat) × ((Value × Value) × Option Addr × Nat)) [0, 1, 5, 6] (.cons rfl (.cons rfl (.cons rfl (.cons rfl .nil)))) (fun x => [(7, .int .i64 (x.1 : Int))]) (fun x => stH ⟨p2, pl2, x.2.2.2.1.1, x.2.2.2.1.2, x.2.2.2.2.1, x.2.2.2.2.2⟩ x.2.1 ++ stH ⟨p, pl, x.2.2.1.1.1, x.2.2.1.1.2, x.2.2.1.2.1, x.2.2.1.2.2⟩ x.2.1) (fun x => x.1 ≤ l.length ∧ x.2.1.Ok) (fun x => l.length - x.1) (0, ⟨[], 0, 0⟩, ((bv0, ev0), A0, k0), ((bv9, ev9), A9, k9)) ⟨Nat.zero_le _, q0_ok⟩ (by repeat (first | exact Sub.nil _ | refine Sub.cons rfl ?_)) (fun _ hw => hw) ?_
      rintro ⟨i, q, ⟨⟨bv, ev⟩, A1, k1⟩, ⟨⟨cv, dv⟩, B1, j1⟩⟩ ⟨hi, hok⟩
      dsimp only at hi hok ⊢
      refine e_seq ?_
      refine e_seq ?_
      refine e_region ?_
      refine w_val (v_move rfl) rfl ?_
      refine w_val (v_move rfl) rfl ?_
      refine w_val (v_lenS Try.underlying88 rfl) rfl ?_
      refine w_val (v_lss rfl rfl) rfl ?_
      refine w_nil ?_
      refine e_condD rfl (fun hlt => ?_) (fun hlt => ?_)
      · have hi' : i < l.length := by omega
        obtain ⟨ad, u, pv, rfl, hcs, hr, hpp⟩ := hc i hi'
        have hxi := hin _ (List.getElem_mem hi')
        have hok' := doQ_ok hok hxi
        have hcs2 : Cells (off w (feet [])) (ad.add (((i : Nat) : Int).toNat * 4)) (sstC l[i] u pv) := by rw [Int.toNat_natCast]; exact hcs
        generalize l[i] = x at *
        obtain ⟨Ap, kpp, rfl, hlep, _⟩ := hpp.form
        obtain ⟨Aw, kw, rfl, _, _⟩ := hr.form
        have hcs3 : Cells (off w (feet [])) (ad.add (((i : Nat) : Int).toNat * 4)) [.int .i64 x.kind, .slice Aw x.round.length kw, .slice Ap x.picks.length kpp, .int .i64 x.keep] := hcs2
        refine e_skip ?_
        refine e_seq ?_
        refine e_block ?_
        refine e_seq ?_
        refine e_region ?_
        refine w_val (v_move rfl) rfl ?_
        refine w_val (v_move rfl) rfl ?_
        refine w_val (v_indexS Try.underlying88 Try.hi100 Try.cz100 rfl rfl (by first | omega | decide)) rfl ?_
        refine w_val (v_loadON Try.underlying100 rfl Try.hi100 rfl (hcs3) Try.cz100) rfl ?_
        refine w_op rfl ?_
        refine x_alloc (z := .agg #[.int .i64 0, .slice none 0 0, .slice none 0 0, .int .i64 0]) (by intro w; exact Try.zeroValue100 w) rfl (fun b8 => ?_)
        refine w_op rfl ?_
        refine x_storeA 0 rfl rfl rfl Try.hi100 Try.cz100 rfl (by first | (simp [Value.oneCell', opCells]; done) | assumption | exact one_ints _ | exact one_resCells _ _ | exact one_slotC _) ?_
        refine w_nil ?_
        refine e_seq ?_
        refine e_cutH (σ := Value × List Int) [0, 1, 5, 6, 7, 8] (.cons rfl (.cons rfl (.cons rfl (.cons rfl (.cons rfl (.cons rfl .nil)))))) (fun _ => []) (fun y => Chunk.blk b8 100 [.int .i64 x.kind, (.slice Aw x.round.length kw), y.1, .int .i64 x.keep] :: (stH ⟨p2, pl2, cv, dv, B1, j1⟩ q ++ stH ⟨p, pl, bv, ev, A1, k1⟩ q)) (fun y => IsInts (off w (feet [])) y.1 y.2 ∧ doQ q ⟨x.kind, x.keep, x.round, y.2⟩ = doQ q x) ?_ ?_
        · by_cases h3 : x.kind = 3
          · by_cases h300 : x.picks.length ≤ 300
            · refine e_seq ?_
              refine e_region ?_
              refine w_val (v_fieldAddrB (o := 0) Try.underlying100 rfl rfl Try.nz3 rfl) rfl ?_
              refine w_val (v_loadB 0 rfl Try.underlying3 rfl rfl rfl) rfl ?_
              refine w_val (v_is (v' := .bool true) (v_eql rfl rfl) (by rw [decide_eq_true h3])) rfl ?_
              refine w_val (v_move rfl) rfl ?_
              refine w_want rfl rfl ?_
              refine w_val (v_fieldAddrB (o := 2) Try.underlying100 rfl rfl Try.nz51 rfl) rfl ?_
              refine w_want rfl rfl ?_
              refine w_val (v_loadB 0 rfl Try.underlying51 rfl rfl rfl) rfl ?_
              refine w_want rfl rfl ?_
              refine w_val (v_lenS Try.underlying51 rfl) rfl ?_
              refine w_want rfl rfl ?_
              refine w_val (v_is (v' := .bool true) (v_leq rfl rfl) (by rw [decide_eq_true (by omega)])) rfl ?_
              refine w_val (v_pickT rfl rfl) rfl ?_
              refine w_nil ?_
              refine e_condT rfl ?_
              refine e_seq ?_
              refine e_region ?_
              refine w_val (v_fieldAddrB (o := 2) Try.underlying100 rfl rfl Try.nz51 rfl) rfl ?_
              refine w_op rfl ?_
              refine x_store1 0 rfl rfl rfl Try.hi51 Try.cz51 rfl (by simp) rfl ?_
              refine w_nil ?_
              refine e_seq ?_
              by_cases h4 : i < ps.length
              · obtain ⟨ad2, u2, rfl, hcu, hiu⟩ := hc2 i h4
                obtain ⟨Au, ku, rfl, _, _⟩ := hiu.form
                generalize ps[i] = pi at *
                by_cases h5 : pi.length ≤ 300
                · refine e_region ?_
                  refine w_val (v_move rfl) rfl ?_
                  refine w_val (v_move rfl) rfl ?_
                  refine w_val (v_lenS Try.underlying107 rfl) rfl ?_
                  refine w_val (v_is (v' := .bool true) (v_lss rfl rfl) (by rw [decide_eq_true (by omega)])) rfl ?_
                  refine w_val (v_move rfl) rfl ?_
                  refine w_want rfl rfl ?_
                  refine w_val (v_move rfl) rfl ?_
                  refine w_want rfl rfl ?_
                  refine w_val (v_move rfl) rfl ?_
                  refine w_want rfl rfl ?_
                  refine w_val (v_indexS Try.underlying107 Try.hi51 Try.cz51 rfl rfl (by first | omega | decide)) rfl ?_
                  refine w_want rfl rfl ?_
                  refine w_val (v_loadO Try.underlying51 rfl rfl (hcu)) rfl ?_
                  refine w_want rfl rfl ?_
                  refine w_val (v_lenS Try.underlying51 rfl) rfl ?_
                  refine w_want rfl rfl ?_
                  refine w_val (v_is (v' := .bool true) (v_leq rfl rfl) (by rw [decide_eq_true (by omega)])) rfl ?_
                  refine w_val (v_pickT rfl rfl) rfl ?_
                  refine w_nil ?_
                  refine e_condT rfl ?_
                  refine e_region ?_
                  refine w_val (v_move rfl) rfl ?_
                  refine w_val (v_move rfl) rfl ?_
                  refine w_val (v_indexS Try.underlying107 Try.hi51 Try.cz51 rfl rfl (by first | omega | decide)) rfl ?_
                  refine w_val (v_loadO Try.underlying51 rfl rfl (hcu)) rfl ?_
                  refine w_val (v_fieldAddrB (o := 2) Try.underlying100 rfl rfl Try.nz51 rfl) rfl ?_
                  refine w_op rfl ?_
                  refine x_store1 0 rfl rfl rfl Try.hi51 Try.cz51 rfl (by simp) rfl ?_
                  refine w_nil ?_
                  exact e_cutEnd ((.slice Au pi.length ku, pi)) (⟨hiu, doQ_picks q _ x rfl rfl rfl (fun _ => by dsimp only; omega)⟩) (by repeat (first | exact Sub.nil _ | refine Sub.cons rfl ?_)) (fun _ hw => hw)
                · refine e_region ?_
                  refine w_val (v_move rfl) rfl ?_
                  refine w_val (v_move rfl) rfl ?_
                  refine w_val (v_lenS Try.underlying107 rfl) rfl ?_
                  refine w_val (v_is (v' := .bool true) (v_lss rfl rfl) (by rw [decide_eq_true (by omega)])) rfl ?_
                  refine w_val (v_move rfl) rfl ?_
                  refine w_want rfl rfl ?_
                  refine w_val (v_move rfl) rfl ?_
                  refine w_want rfl rfl ?_
                  refine w_val (v_move rfl) rfl ?_
                  refine w_want rfl rfl ?_
                  refine w_val (v_indexS Try.underlying107 Try.hi51 Try.cz51 rfl rfl (by first | omega | decide)) rfl ?_
                  refine w_want rfl rfl ?_
                  refine w_val (v_loadO Try.underlying51 rfl rfl (hcu)) rfl ?_
                  refine w_want rfl rfl ?_
                  refine w_val (v_lenS Try.underlying51 rfl) rfl ?_
                  refine w_want rfl rfl ?_
                  refine w_val (v_is (v' := .bool false) (v_leq rfl rfl) (by rw [decide_eq_false (by omega)])) rfl ?_
                  refine w_val (v_pickT rfl rfl) rfl ?_
                  refine w_nil ?_
                  refine e_condF rfl ?_
                  refine e_skip ?_
                  exact e_cutEnd ((.slice none 0 0, [])) (⟨isInts_nil _, doQ_picks q _ x rfl rfl rfl (fun _ => by simp only [List.length_nil]; omega)⟩) (by repeat (first | exact Sub.nil _ | refine Sub.cons rfl ?_)) (fun _ hw => hw)
              · refine e_region ?_
                refine w_val (v_move rfl) rfl ?_
                refine w_val (v_move rfl) rfl ?_
                refine w_val (v_lenS Try.underlying107 rfl) rfl ?_
                refine w_val (v_is (v' := .bool false) (v_lss rfl rfl) (by rw [decide_eq_false (by omega)])) rfl ?_
                refine w_val (v_move rfl) rfl ?_
                refine w_skip rfl rfl rfl rfl ?_
                refine w_skip rfl rfl rfl rfl ?_
                refine w_skip rfl rfl rfl rfl ?_
                refine w_skip rfl rfl rfl rfl ?_
                refine w_skip rfl rfl rfl rfl ?_
                refine w_skip rfl rfl rfl rfl ?_
                refine w_val (v_pickF rfl rfl) rfl ?_
                refine w_nil ?_
                refine e_condF rfl ?_
                refine e_skip ?_
                exact e_cutEnd ((.slice none 0 0, [])) (⟨isInts_nil _, doQ_picks q _ x rfl rfl rfl (fun _ => by simp only [List.length_nil]; omega)⟩) (by repeat (first | exact Sub.nil _ | refine Sub.cons rfl ?_)) (fun _ hw => hw)
            · refine e_seq ?_
              refine e_region ?_
              refine w_val (v_fieldAddrB (o := 0) Try.underlying100 rfl rfl Try.nz3 rfl) rfl ?_
              refine w_val (v_loadB 0 rfl Try.underlying3 rfl rfl rfl) rfl ?_
              refine w_val (v_is (v' := .bool true) (v_eql rfl rfl) (by rw [decide_eq_true h3])) rfl ?_
              refine w_val (v_move rfl) rfl ?_
              refine w_want rfl rfl ?_
              refine w_val (v_fieldAddrB (o := 2) Try.underlying100 rfl rfl Try.nz51 rfl) rfl ?_
              refine w_want rfl rfl ?_
              refine w_val (v_loadB 0 rfl Try.underlying51 rfl rfl rfl) rfl ?_
              refine w_want rfl rfl ?_
              refine w_val (v_lenS Try.underlying51 rfl) rfl ?_
              refine w_want rfl rfl ?_
              refine w_val (v_is (v' := .bool false) (v_leq rfl rfl) (by rw [decide_eq_false (by omega)])) rfl ?_
              refine w_val (v_pickT rfl rfl) rfl ?_
              refine w_nil ?_
              refine e_condF rfl ?_
              refine e_skip ?_
              exact e_cutEnd ((.slice Ap x.picks.length kpp, x.picks)) (⟨hpp, doQ_picks q _ x rfl rfl rfl (fun _ => Iff.rfl)⟩) (by repeat (first | exact Sub.nil _ | refine Sub.cons rfl ?_)) (fun _ hw => hw)
          · refine e_seq ?_
            refine e_region ?_
            refine w_val (v_fieldAddrB (o := 0) Try.underlying100 rfl rfl Try.nz3 rfl) rfl ?_
            refine w_val (v_loadB 0 rfl Try.underlying3 rfl rfl rfl) rfl ?_
            refine w_val (v_is (v' := .bool false) (v_eql rfl rfl) (by rw [decide_eq_false h3])) rfl ?_
            refine w_val (v_move rfl) rfl ?_
            refine w_skip rfl rfl rfl rfl ?_
            refine w_skip rfl rfl rfl rfl ?_
            refine w_skip rfl rfl rfl rfl ?_
            refine w_skip rfl rfl rfl rfl ?_
            refine w_val (v_pickF rfl rfl) rfl ?_
            refine w_nil ?_
            refine e_condF rfl ?_
            refine e_skip ?_
            exact e_cutEnd ((.slice Ap x.picks.length kpp, x.picks)) (⟨hpp, doQ_picks q _ x rfl rfl rfl (fun _ => Iff.rfl)⟩) (by repeat (first | exact Sub.nil _ | refine Sub.cons rfl ?_)) (fun _ hw => hw)
        · rintro ⟨yv, yp⟩ ⟨hyp, hyd⟩
          dsimp only at hyp hyd ⊢
          obtain ⟨Ay, ky, rfl, _, _⟩ := hyp.form
          generalize hqc : doQ q x = qc at *
          obtain ⟨q2, c2⟩ := qc
          dsimp only at hok'
          have hz2 := stL_len q2.L q2.dn
          have h8 := hok'.last8 hok'.len
          refine e_seq ?_
          refine e_draw ([Chunk.blk b8 100 [.int .i64 x.kind, (.slice Aw x.round.length kw), .slice Ay yp.length ky, .int .i64 x.keep]]) Try.mixed ?_
          refine a_take 0 pan_cx (by kernel_rfl) (fun _ hw => hw.sub (by repeat (first | exact List.Sublist.slnil | exact List.Sublist.refl _ | apply List.Sublist.cons_cons | apply List.Sublist.cons))) rfl (by kernel_rfl) (by kernel_rfl) (v_move rfl) rfl ?_
          refine a_take 1 pan_cx (by kernel_rfl) (fun _ hw => hw.sub (by repeat (first | exact List.Sublist.slnil | exact List.Sublist.refl _ | apply List.Sublist.cons_cons | apply List.Sublist.cons))) rfl (by kernel_rfl) (by kernel_rfl) (v_move rfl) rfl ?_
          refine a_take 2 pan_cx (by kernel_rfl) (fun _ hw => hw.sub (by repeat (first | exact List.Sublist.slnil | exact List.Sublist.refl _ | apply List.Sublist.cons_cons | apply List.Sublist.cons))) rfl (by kernel_rfl) (by kernel_rfl) (v_move rfl) rfl ?_
          refine a_take 3 pan_cx (by kernel_rfl) (fun _ hw => hw.sub (by repeat (first | exact List.Sublist.slnil | exact List.Sublist.refl _ | apply List.Sublist.cons_cons | apply List.Sublist.cons))) rfl (by kernel_rfl) (by kernel_rfl) (v_indexS Try.underlying88 Try.hi100 Try.cz100 rfl rfl (by first | omega | decide)) rfl ?_
          refine a_take 4 pan_cx (by kernel_rfl) (fun _ hw => hw.sub (by repeat (first | exact List.Sublist.slnil | exact List.Sublist.refl _ | apply List.Sublist.cons_cons | apply List.Sublist.cons))) rfl (by kernel_rfl) (by kernel_rfl) (v_loadON Try.underlying100 rfl Try.hi100 rfl (hcs3) Try.cz100) rfl ?_
          refine a_take 6 pan_cx (by kernel_rfl) (fun _ hw => hw.sub (by repeat (first | exact List.Sublist.slnil | exact List.Sublist.refl _ | apply List.Sublist.cons_cons | apply List.Sublist.cons))) rfl (by kernel_rfl) (by kernel_rfl) (v_move rfl) rfl ?_
          refine a_take 7 pan_cx (by kernel_rfl) (fun _ hw => hw.sub (by repeat (first | exact List.Sublist.slnil | exact List.Sublist.refl _ | apply List.Sublist.cons_cons | apply List.Sublist.cons))) rfl (by kernel_rfl) (by kernel_rfl) (v_loadBA 0 rfl Try.underlying100 rfl Try.hi100 (Try.cz100.trans rfl) rfl) rfl ?_
          refine a_one 5 (by kernel_rfl) rfl rfl ?_
          refine x_callM (dst := some 62) (stH ⟨p, pl, bv, ev, A1, k1⟩ q) (Chunk.blk b8 100 [.int .i64 x.kind, (.slice Aw x.round.length kw), .slice Ay yp.length ky, .int .i64 x.keep] :: stH ⟨p2, pl2, cv, dv, B1, j1⟩ q) (σ := (Value × Value) × Option Addr × Nat) (fun _ => True) (fun _ => .int .i64 c2) (fun z => stH ⟨p, pl, z.1.1, z.1.2, z.2.1, z.2.2⟩ q2) (List.perm_append_comm (l₁ := [_, _, _, _, _, _])) rfl rfl rfl Try.call51 (fun w hw => by have := stDo_spec ⟨p, pl, bv, ev, A1, k1⟩ q x (.slice Aw x.round.length kw) (.slice Ap x.picks.length kpp) w (res_part hw).1 (res_part hw).2 hok (hr.mono (hw.offm (fun c hc => List.mem_append_left _ hc))) (Rds.mono (hw.offm (fun c hc => List.mem_append_left _ hc)) hpp) hxi; rwa [hqc] at this) rfl (fun z _ => ?_); obtain ⟨⟨bv2, ev2⟩, A2, k2⟩ := z; dsimp only
          refine a_and (fun _ hw => hw.sub (by repeat (first | exact List.Sublist.slnil | exact List.Sublist.refl _ | apply List.Sublist.cons_cons | apply List.Sublist.cons))) ?_
          refine a_one 8 (by kernel_rfl) rfl rfl ?_
          refine x_callM (dst := some 65) (stH ⟨p2, pl2, cv, dv, B1, j1⟩ q) (stH ⟨p, pl, bv2, ev2, A2, k2⟩ q2 ++ [Chunk.blk b8 100 [.int .i64 x.kind, (.slice Aw x.round.length kw), .slice Ay yp.length ky, .int .i64 x.keep]]) (σ := (Value × Value) × Option Addr × Nat) (fun _ => True) (fun _ => .int .i64 c2) (fun z => stH ⟨p2, pl2, z.1.1, z.1.2, z.2.1, z.2.2⟩ q2) (List.perm_append_comm (l₁ := [_, _, _, _, _, _]) (l₂ := [_, _, _, _, _])) rfl rfl rfl Try.call51 (fun w hw => by have := stDo_spec ⟨p2, pl2, cv, dv, B1, j1⟩ q ⟨x.kind, x.keep, x.round, yp⟩ (.slice Aw x.round.length kw) (.slice Ay yp.length ky) w (res_part hw).1 (res_part hw).2 hok (hr.mono (hw.offm (fun c hc => List.mem_append_left _ hc))) (Rds.mono (hw.offm (fun c hc => List.mem_append_left _ hc)) hyp) hxi; rwa [hyd] at this) rfl (fun z _ => ?_); obtain ⟨⟨bv3, ev3⟩, A3, k3⟩ := z; dsimp only
          refine a_and (fun _ hw => hw.sub (by repeat (first | exact List.Sublist.slnil | exact List.Sublist.refl _ | apply List.Sublist.cons_cons | apply List.Sublist.cons))) ?_
          refine a_take 9 pan_cx (by kernel_rfl) (fun _ hw => hw.sub (by repeat (first | exact List.Sublist.slnil | exact List.Sublist.refl _ | apply List.Sublist.cons_cons | apply List.Sublist.cons))) rfl (by kernel_rfl) (by kernel_rfl) (v_is (v' := .bool false) (v_neq rfl rfl) (by rw [decide_eq_false (fun h => h rfl)])) rfl ?_
          refine a_take 10 pan_cx (by kernel_rfl) (fun _ hw => hw.sub (by repeat (first | exact List.Sublist.slnil | exact List.Sublist.refl _ | apply List.Sublist.cons_cons | apply List.Sublist.cons))) rfl (by kernel_rfl) (by kernel_rfl) (v_move rfl) rfl ?_
          refine a_want 11 pan_cx (by kernel_rfl) (fun _ hw => hw.sub (by repeat (first | exact List.Sublist.slnil | exact List.Sublist.refl _ | apply List.Sublist.cons_cons | apply List.Sublist.cons))) rfl (by kernel_rfl) (by kernel_rfl) rfl rfl (v_move rfl) rfl ?_
          refine a_want 13 pan_cx (by kernel_rfl) (fun _ hw => hw.sub (by repeat (first | exact List.Sublist.slnil | exact List.Sublist.refl _ | apply List.Sublist.cons_cons | apply List.Sublist.cons))) rfl (by kernel_rfl) (by kernel_rfl) rfl rfl (v_move rfl) rfl ?_
          refine a_oneW 12 (by kernel_rfl) rfl rfl rfl ?_
          refine x_call0 (v := intsV (stL q2.L q2.dn)) rfl rfl rfl Try.call54 rfl (fun w hw => stState_spec ⟨p, pl, bv2, ev2, A2, k2⟩ q2 w (StV.at (y := ⟨p, pl, bv2, ev2, A2, k2⟩) (q := q2) hw 5 rfl rfl rfl rfl rfl)) ?_
          refine a_and (fun _ hw => hw.sub (by repeat (first | exact List.Sublist.slnil | exact List.Sublist.refl _ | apply List.Sublist.cons_cons | apply List.Sublist.cons))) ?_
          refine a_oneW 14 (by kernel_rfl) rfl rfl rfl ?_
          refine x_call0 (v := intsV (stL q2.L q2.dn)) rfl rfl rfl Try.call54 rfl (fun w hw => stState_spec ⟨p2, pl2, bv3, ev3, A3, k3⟩ q2 w (StV.at (y := ⟨p2, pl2, bv3, ev3, A3, k3⟩) (q := q2) hw 0 rfl rfl rfl rfl rfl)) ?_
          refine a_and (fun _ hw => hw.sub (by repeat (first | exact List.Sublist.slnil | exact List.Sublist.refl _ | apply List.Sublist.cons_cons | apply List.Sublist.cons))) ?_
          refine a_want 15 pan_cx (by kernel_rfl) (fun _ hw => hw.sub (by repeat (first | exact List.Sublist.slnil | exact List.Sublist.refl _ | apply List.Sublist.cons_cons | apply List.Sublist.cons))) rfl (by kernel_rfl) (by kernel_rfl) rfl rfl (v_is (v' := .bool false) (v_neqInts (p := stL q2.L q2.dn) (q := stL q2.L q2.dn) Try.underlying23 (by kernel_rfl) Try.underlying2 Try.hi2 Try.cz2 hz2 hz2 rfl rfl) (congrArg Value.bool (decide_eq_false (fun h => h rfl)))) rfl ?_
          refine a_take 16 pan_cx (by kernel_rfl) (fun _ hw => hw.sub (by repeat (first | exact List.Sublist.slnil | exact List.Sublist.refl _ | apply List.Sublist.cons_cons | apply List.Sublist.cons))) rfl (by kernel_rfl) (by kernel_rfl) (v_pickF rfl rfl) rfl ?_
          refine a_take 17 pan_cx (by kernel_rfl) (fun _ hw => hw.sub (by repeat (first | exact List.Sublist.slnil | exact List.Sublist.refl _ | apply List.Sublist.cons_cons | apply List.Sublist.cons))) rfl (by kernel_rfl) (by kernel_rfl) (v_move rfl) rfl ?_
          refine a_want 18 pan_cx (by kernel_rfl) (fun _ hw => hw.sub (by repeat (first | exact List.Sublist.slnil | exact List.Sublist.refl _ | apply List.Sublist.cons_cons | apply List.Sublist.cons))) rfl (by kernel_rfl) (by kernel_rfl) rfl rfl (v_move rfl) rfl ?_
          refine a_want 20 pan_cx (by kernel_rfl) (fun _ hw => hw.sub (by repeat (first | exact List.Sublist.slnil | exact List.Sublist.refl _ | apply List.Sublist.cons_cons | apply List.Sublist.cons))) rfl (by kernel_rfl) (by kernel_rfl) rfl rfl (v_move rfl) rfl ?_
          refine a_oneW 19 (by kernel_rfl) rfl rfl rfl ?_
          refine x_call (dst := some 76) (mc := []) (σ := Value) (fun _ => True) (fun sl => sl) (fun sl => [Own sl 30 5 (lastL q2.L q2.dn).length (resL (lastL q2.L q2.dn))]) rfl rfl rfl Try.call57 (fun w hw => stLast_spec ⟨p, pl, bv2, ev2, A2, k2⟩ q2 w (StV.at (y := ⟨p, pl, bv2, ev2, A2, k2⟩) (q := q2) hw 5 rfl rfl rfl rfl rfl) h8) rfl (fun ol _ => ?_)
          refine a_and (fun _ hw => hw.sub (by repeat (first | exact List.Sublist.slnil | exact List.Sublist.refl _ | apply List.Sublist.cons_cons | apply List.Sublist.cons))) ?_
          refine a_oneW 21 (by kernel_rfl) rfl rfl rfl ?_
          refine x_call (dst := some 78) (mc := []) (σ := Value) (fun _ => True) (fun sl => sl) (fun sl => [Own sl 30 5 (lastL q2.L q2.dn).length (resL (lastL q2.L q2.dn))]) rfl rfl rfl Try.call57 (fun w hw => stLast_spec ⟨p2, pl2, bv3, ev3, A3, k3⟩ q2 w (StV.at (y := ⟨p2, pl2, bv3, ev3, A3, k3⟩) (q := q2) hw 1 rfl rfl rfl rfl rfl) h8) rfl (fun ol2 _ => ?_)
          refine a_and (fun _ hw => hw.sub (by repeat (first | exact List.Sublist.slnil | exact List.Sublist.refl _ | apply List.Sublist.cons_cons | apply List.Sublist.cons))) ?_
          refine a_oneW 22 (by kernel_rfl) rfl rfl rfl ?_
          refine x_call0 (v := .bool true) rfl rfl rfl Try.call30 rfl (fun w hw => by have := sameResults_spec ol ol2 (lastL q2.L q2.dn) (lastL q2.L q2.dn) w (own_rds (hw.mem (i := 1) rfl)) (own_rds (hw.mem (i := 0) rfl)) (lastL_regs _ _) (lastL_regs _ _) (by omega); rwa [decide_eq_true rfl] at this) ?_
          refine a_and (fun _ hw => hw.sub (by repeat (first | exact List.Sublist.slnil | exact List.Sublist.refl _ | apply List.Sublist.cons_cons | apply List.Sublist.cons))) ?_
          refine a_want 23 pan_cx (by kernel_rfl) (fun _ hw => hw.sub (by repeat (first | exact List.Sublist.slnil | exact List.Sublist.refl _ | apply List.Sublist.cons_cons | apply List.Sublist.cons))) rfl (by kernel_rfl) (by kernel_rfl) rfl rfl (v_not rfl) rfl ?_
          refine a_take 24 pan_cx (by kernel_rfl) (fun _ hw => hw.sub (by repeat (first | exact List.Sublist.slnil | exact List.Sublist.refl _ | apply List.Sublist.cons_cons | apply List.Sublist.cons))) rfl (by kernel_rfl) (by kernel_rfl) (v_pickF rfl rfl) rfl ?_
          refine a_done (by kernel_rfl) ?_
          refine e_condF rfl ?_
          refine e_skip ?_
          refine e_blk ?_
          refine e_region ?_
          refine w_val (v_move rfl) rfl ?_
          refine w_val (v_add rfl rfl (by omega)) rfl ?_
          refine w_val (v_assign rfl) rfl ?_
          refine w_nil ?_
          exact e_round ((i + 1, q2, ((bv2, ev2), A2, k2), ((bv3, ev3), A3, k3))) (⟨by dsimp only; omega, hok'⟩) (by dsimp only; omega) (by repeat (first | exact Sub.nil _ | refine Sub.cons rfl ?_)) (fun _ hw => hw.pick [2, 3, 4, 5, 6, 7, 8, 9, 10, 11] (by decide))
      · refine e_exit rfl ?_
        refine e_seq ?_
        refine e_region ?_
        refine w_val (v_assign rfl) rfl ?_
        refine w_nil ?_
        refine e_retQ (q_ret1 rfl (.tmp rfl) ?_)
        exact fun w' hw' => ⟨rfl, hw'.res.nil⟩
end Go.SL

