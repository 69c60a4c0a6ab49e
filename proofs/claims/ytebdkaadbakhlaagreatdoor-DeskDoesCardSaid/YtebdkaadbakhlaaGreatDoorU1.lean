/- YtebdkaadbakhlaaGreatDoor: part U1 of this seat's own texts. -/
import Derived.Test.YtebdkaadbakhlaaGreatDoorW2
import Derived.Test.YtebdkaadbakhlaaGreatDoorP1
import Derived.Test.YtebdkaadbakhlaaGreatDoorSerM
import Derived.Test.YtebdkaadbakhlaaGreatDoorP2
set_option linter.unusedVariables false
set_option linter.unusedSimpArgs false
section
open Go Go.Proofs Go.SL
set_option maxRecDepth 100000
namespace Go.SL
theorem runL_step {ar : Int → Int → Int → Int} {d : DeedL} {k : Nat} {g s : List Int} {R : Bool × List Int × List Int} (h : k < d.length) (hr : runL ar (d.drop k) g s = R) {o : OpL} (ho : d[k] = o) {g' s' : List Int} {j : Nat} (hs : stepL ar o g s = some (g', s', j)) :
  runL ar (d.drop (k + 1 + j)) g' s' = R := by
 rw [← hr, runL_at ar h, ho, hs]
theorem runL_stop {ar : Int → Int → Int → Int} {d : DeedL} {k : Nat} {g s : List Int} {R : Bool × List Int × List Int} (h : k < d.length) (hr : runL ar (d.drop k) g s = R) {o : OpL} (ho : d[k] = o) (hs : stepL ar o g s = none) : R = (true, g, s) := by
 rw [← hr, runL_at ar h, ho, hs]
theorem refDo_spec (s0 : List Int) (v : Value) (d : DeedL) (w : World) (h : IsDeed w.cell? v d) (hs0 : s0.length = 10) (hck : (checkL d).1 = 0) : Calls Tryz.prog 102 #[intsV s0, v] w
  fun e w' => e = .returned (.tuple #[intsV (doL arithL s0 d).1, .agg (resCells (doL arithL s0 d).2.1 (doL arithL s0 d).2.2).toArray]) ∧ Res w [] [] w' := by
 rw [← off_none w] at h
 obtain ⟨h14, hchk⟩ := checked hck
 obtain ⟨A, kp, rfl, hle, hc⟩ := h.form
 generalize hR : runL arithL d zero4 s0 = R
 have hdo : doL arithL s0 d = if R.1 = true then (s0, 9, R.2.1) else (R.2.2, 0, R.2.1) := by rw [← hR]; rfl
 refine enter0 (N := 86) Tryz.func102 rfl rfl rfl <| esr <| w_op rfl ?_
 refine x_box rfl rfl (fun b2 => ?_)
 refine w_op rfl ?_
 refine x_alloc (z := .agg #[.int .i64 0, .int .i64 0, .int .i64 0, .int .i64 0, .int .i64 0, .int .i64 0, .int .i64 0, .int .i64 0, .int .i64 0, .int .i64 0]) (by intro w; exact Tryz.zeroValue32 w) rfl (fun b4 => ?_)
 refine w_op rfl ?_
 refine x_alloc (z := .agg #[.int .i64 0, .int .i64 0, .int .i64 0, .int .i64 0, .int .i64 0]) (by intro w; exact Tryz.zeroValue96 w) rfl (fun b5 => ?_)
 refine wsr ?_
 refine w_val (v_loadBA 2 rfl uT32 rfl Tryz.hi32 (Tryz.cz32.trans (by simp [Value.cells, intsV, resCells, intCells, hs0])) rfl) rfl ?_
 refine w_op rfl ?_
 refine x_alloc (z := .agg #[.int .i64 0, .int .i64 0, .int .i64 0, .int .i64 0, .int .i64 0, .int .i64 0, .int .i64 0, .int .i64 0, .int .i64 0, .int .i64 0]) (by intro w; exact Tryz.zeroValue32 w) rfl (fun b6 => ?_)
 refine w_op rfl ?_
 refine x_storeA 0 rfl rfl rfl Tryz.hi32 (Tryz.cz32.trans (by simp [Value.cells, intsV, resCells, intCells, hs0])) (by simp [Value.cells, intsV, resCells, intCells, hs0]) (by first | exact one_intCells _ | exact one_resCells _ _) ?_
 refine wsr <| w_op rfl ?_
 refine x_alloc (z := .agg #[.int .i64 0, .int .i64 0, .int .i64 0, .int .i64 0]) (by intro w; exact Tryz.zeroValue94 w) rfl (fun b7 => ?_)
 refine wsr <| wa rfl rfl <| w_nil <| e_seq <| e_block ?_
 refine e_loopH (σ := Nat × List Int × List Int) [1, 2, 4, 5, 6, 7] (.cons rfl (.cons rfl (.cons rfl (.cons rfl (.cons rfl (.cons rfl .nil)))))) (fun x => [(8, .int .i64 x.1)]) (fun x => [.blk b7 94 (intCells x.2.1), .blk b6 32 (intCells s0), .blk b5 96 (intCells [0, 0, 0, 0, 0]), .blk b4 32 (intCells [0, 0, 0, 0, 0, 0, 0, 0, 0, 0]), .blk b2 32 (intCells x.2.2)]) (fun x => x.1 ≤ d.length ∧ x.2.1.length = 4 ∧ x.2.2.length = 10 ∧ runL arithL (d.drop x.1) x.2.1 x.2.2 = R) (fun x => d.length - x.1) (0, zero4, s0) ⟨by simp, rfl, hs0, hR⟩ (by repeat first | exact .nil _ | refine .cons rfl ?_) (fun _ h => h) ?_
 rintro ⟨k, g, s⟩ ⟨hk, hg, hs, hrel⟩
 dsimp only at hk hg hs hrel ⊢
 refine e_seq <| esr <| wm rfl rfl <| wm rfl rfl <| w_val (v_lenS uT80 rfl) rfl <| w_val (v_lss rfl rfl) rfl <| w_nil ?_
 refine e_condD rfl (fun hlt => ?_) (fun hlt => ?_)
 ·have hlt' : k < d.length := by omega
  obtain ⟨ad, rfl, hop⟩ := IsDeed.cells hc hlt'
  obtain ⟨hf, hskip⟩ := hchk k hlt'
  have hrg := rng_all hf
  have hnx := fun g' s' j => runL_step (g' := g') (s' := s') (j := j) hlt' hrel rfl
  have hst := runL_stop hlt' hrel rfl
  generalize ho : d[k] = o at *
  refine e_skip <| e_block <| esr <| wm rfl rfl <| wm rfl rfl ?_
  refine w_val (v_indexS uT80 Tryz.hi109 Tryz.cz109 rfl rfl (by first | omega | decide)) rfl ?_
  refine w_val (v_loadON uT109 rfl Tryz.hi109 rfl (hop) Tryz.cz109) rfl <| w_op rfl ?_
  refine x_alloc (z := .agg #[.int .i64 0, .int .i64 0, .int .i64 0, .int .i64 0, .int .i64 0]) (by intro w; exact Tryz.zeroValue109 w) rfl (fun b9 => ?_)
  refine w_op rfl ?_
  refine x_storeA 0 rfl rfl rfl Tryz.hi109 Tryz.cz109 rfl (by first | (simp [Value.oneCell', opCells]; done) | assumption | exact one_ints _ | exact one_resCells _ _ | exact one_slotC _) ?_
  refine wsr <| wm rfl rfl ?_
  refine w_val (v_add rfl rfl (by omega)) rfl ?_
  refine wa rfl rfl <| wsr <| w_val (v_fieldAddrB (o := 0) uT109 rfl rfl Tryz.nz3 rfl) rfl <| w_val (v_loadB 0 rfl uT3 rfl rfl rfl) rfl <| w_nil <| e_block <| esr <| w_val (v_eql rfl rfl) rfl <| wa rfl rfl <| w_nil ?_
  rcases hrg with ⟨hk, ha⟩ | ⟨hk, ha⟩ | ⟨hk, ha, ha', hb⟩ | ⟨hk, ha, ha', hb⟩ | ⟨hk, ha, ha', hb⟩ | ⟨hk, ha, ha', hb, hb', hc'⟩
  ·refine e_condDT rfl (by omega) ?_
   refine e_region <| w_val (v_fieldAddrB (o := 1) uT109 rfl rfl Tryz.nz3 rfl) rfl <| w_val (v_loadB 0 rfl uT3 rfl rfl rfl) rfl <| w_val (v_fieldAddrB (o := 4) uT109 rfl rfl Tryz.nz2 rfl) rfl <| w_val (v_loadB 0 rfl uT2 rfl rfl rfl) rfl ?_
   refine w_val (v_indexAB uT94 Tryz.hi2 Tryz.cz2 rfl rfl (by omega)) rfl ?_
   refine w_op rfl ?_
   refine x_store1 1 rfl rfl rfl Tryz.hi2 Tryz.cz2 rfl (by first | (simp; done) | (simp [intCells_len]; omega) | exact Nat.zero_lt_succ _) rfl ?_
   refine w_nil <| e_blk <| e_blk ?_
   rw [set_ints]
   exact e_round ((k + 1, st g o.a o.n, s)) (⟨by dsimp only; omega, by simp [st, hg], hs, hnx _ _ 0 (step_num _ _ _ hk)⟩) (by dsimp only; omega) (by repeat first | exact .nil _ | refine .cons rfl ?_) (fun _ hw => hw.sub (List.sublist_cons_self _ _))
  ·refine e_condDF rfl (by omega) ?_
   refine esr <| w_val (v_eql rfl rfl) rfl <| wa rfl rfl <| w_nil ?_
   refine e_condDF rfl (by omega) ?_
   refine esr <| w_val (v_eql rfl rfl) rfl <| wa rfl rfl <| w_nil ?_
   refine e_condDF rfl (by omega) ?_
   refine esr <| w_val (v_eql rfl rfl) rfl <| wa rfl rfl <| w_nil ?_
   refine e_condDT rfl (by omega) ?_
   refine esr <| w_val (v_fieldAddrB (o := 1) uT109 rfl rfl Tryz.nz3 rfl) rfl <| w_val (v_loadB 0 rfl uT3 rfl rfl rfl) rfl ?_
   refine w_val (v_indexAB uT94 Tryz.hi2 Tryz.cz2 rfl rfl (by first | omega | decide)) rfl ?_
   refine w_val (v_loadB 1 rfl uT2 rfl rfl (ints_at g o.a (by omega) (by omega))) rfl ?_
   refine w_val (v_neq rfl rfl) rfl <| w_nil ?_
   refine e_condD rfl (fun h8 => ?_) (fun h8 => ?_)
   ·have hR' := hst (step_stop _ _ _ hk h8)
    obtain ⟨g0, g1, g2, g3, rfl⟩ := list4 hg
    refine e_seq <| e_draw ([.blk b7 94 (intCells [g0, g1, g2, g3]), .blk b6 32 (intCells s0)]) Tryz.mixed ?_
    refine tk 0 rfl (v_loadBA 1 rfl uT32 rfl Tryz.hi32 (Tryz.cz32.trans (by simp [Value.cells, intsV, resCells, intCells, hs0, hg, hs])) rfl) rfl ?_
    refine tk 1 rfl (v_loadBA 0 rfl uT94 rfl Tryz.hi94 Tryz.cz94 rfl) rfl ?_
    refine tk 2 rfl (v_build _ rfl (by intro _; simp [Instr.build, Instr.fill, intCells, Tryz.zeroValue96, go_sem]; rfl)) rfl ?_
    refine t1 3 rfl rfl ?_
    refine x_storeA 4 rfl rfl rfl Tryz.hi32 (Tryz.cz32.trans (by simp [Value.cells, intsV, resCells, intCells, hs0, hg, hs])) (by simp [Value.cells, intsV, resCells, intCells, hs0, hg, hs]) (by first | exact one_intCells _ | exact one_resCells _ _) ?_
    refine tn <| t1 4 rfl rfl ?_
    refine x_storeA 3 rfl rfl rfl Tryz.hi96 Tryz.cz96 rfl (by first | (simp [Value.oneCell', opCells]; done) | assumption | exact one_ints _ | exact one_resCells _ _ | exact one_slotC _) ?_
    refine tn <| td ?_
    refine e_retQ (q_ret2 rfl (ResV.agg 4 rfl rfl (by rw [isAggD, uT32]; rfl) (Tryz.cz32.trans (by simp [intCells, hs0])) Tryz.hi32) (ResV.agg 3 rfl rfl (by rw [isAggD, uT96]; rfl) (Tryz.cz96.trans (by simp [intCells, hs0])) Tryz.hi96) ?_)
    exact fun w' hw' => ⟨by rw [hdo, hR']; rfl, hw'.res.nil⟩
   ·refine e_skip <| e_blk <| e_blk ?_
    exact e_round ((k + 1, g, s)) (⟨by dsimp only; omega, hg, hs, hnx _ _ 0 (step_stay _ _ _ hk h8)⟩) (by dsimp only; omega) (by repeat first | exact .nil _ | refine .cons rfl ?_) (fun _ hw => hw.sub (List.sublist_cons_self _ _))
  ·refine e_condDF rfl (by omega) ?_
   refine esr <| w_val (v_eql rfl rfl) rfl <| wa rfl rfl <| w_nil ?_
   refine e_condDT rfl (by omega) ?_
   refine e_draw ([.blk b9 109 (opCells o), .blk b2 32 (intCells s)]) Tryz.mixed <| tk 0 rfl (v_fieldAddrB (o := 1) uT109 rfl rfl Tryz.nz3 rfl) rfl <| tk 1 rfl (v_loadB 0 rfl uT3 rfl rfl rfl) rfl <| tk 2 rfl (v_fieldAddrB (o := 2) uT109 rfl rfl Tryz.nz3 rfl) rfl <| tk 3 rfl (v_loadB 0 rfl uT3 rfl rfl rfl) rfl ?_
   refine tk 4 rfl (v_indexAB uT32 Tryz.hi2 Tryz.cz2 rfl rfl (by first | omega | decide)) rfl ?_
   refine tk 5 rfl (v_loadB 1 rfl uT2 rfl rfl (ints_at s o.b (by omega) (by omega))) rfl ?_
   refine tk 6 rfl (v_indexAB uT94 Tryz.hi2 Tryz.cz2 rfl rfl (by first | omega | decide)) rfl ?_
   refine t1 7 rfl rfl ?_
   refine x_store1 1 rfl rfl rfl Tryz.hi2 Tryz.cz2 rfl (by first | (simp; done) | (simp [intCells_len]; omega) | exact Nat.zero_lt_succ _) rfl ?_
   refine tn <| td <| e_blk <| e_blk ?_
   rw [set_ints]
   exact e_round ((k + 1, st g o.a (gt s o.b), s)) (⟨by dsimp only; omega, by simp [st, hg], hs, hnx _ _ 0 (step_load _ _ _ hk)⟩) (by dsimp only; omega) (by repeat first | exact .nil _ | refine .cons rfl ?_) (fun _ hw => hw.sub (List.sublist_cons_self _ _))
  ·refine e_condDF rfl (by omega) ?_
   refine esr <| w_val (v_eql rfl rfl) rfl <| wa rfl rfl <| w_nil ?_
   refine e_condDF rfl (by omega) ?_
   refine esr <| w_val (v_eql rfl rfl) rfl <| wa rfl rfl <| w_nil ?_
   refine e_condDT rfl (by omega) ?_
   refine e_draw ([.blk b9 109 (opCells o), .blk b7 94 (intCells g)]) Tryz.mixed <| tk 0 rfl (v_fieldAddrB (o := 1) uT109 rfl rfl Tryz.nz3 rfl) rfl <| tk 1 rfl (v_loadB 0 rfl uT3 rfl rfl rfl) rfl <| tk 2 rfl (v_fieldAddrB (o := 2) uT109 rfl rfl Tryz.nz3 rfl) rfl <| tk 3 rfl (v_loadB 0 rfl uT3 rfl rfl rfl) rfl ?_
   refine tk 4 rfl (v_indexAB uT94 Tryz.hi2 Tryz.cz2 rfl rfl (by first | omega | decide)) rfl ?_
   refine tk 5 rfl (v_loadB 1 rfl uT2 rfl rfl (ints_at g o.b (by omega) (by omega))) rfl ?_
   refine tk 6 rfl (v_indexAB uT32 Tryz.hi2 Tryz.cz2 rfl rfl (by first | omega | decide)) rfl ?_
   refine t1 7 rfl rfl ?_
   refine x_store1 5 rfl rfl rfl Tryz.hi2 Tryz.cz2 rfl (by first | (simp; done) | (simp [intCells_len]; omega) | exact Nat.zero_lt_succ _) rfl ?_
   refine tn <| td <| e_blk <| e_blk ?_
   rw [set_ints]
   exact e_round ((k + 1, g, st s o.a (gt g o.b))) (⟨by dsimp only; omega, hg, by simp [st, hs], hnx _ _ 0 (step_store _ _ _ hk)⟩) (by dsimp only; omega) (by repeat first | exact .nil _ | refine .cons rfl ?_) (fun _ hw => hw.sub (List.sublist_cons_self _ _))
  ·refine e_condDF rfl (by omega) ?_
   refine esr <| w_val (v_eql rfl rfl) rfl <| wa rfl rfl <| w_nil ?_
   refine e_condDF rfl (by omega) ?_
   refine esr <| w_val (v_eql rfl rfl) rfl <| wa rfl rfl <| w_nil ?_
   refine e_condDF rfl (by omega) ?_
   refine esr <| w_val (v_eql rfl rfl) rfl <| wa rfl rfl <| w_nil ?_
   refine e_condDF rfl (by omega) ?_
   refine esr <| w_val (v_eql rfl rfl) rfl <| wa rfl rfl <| w_nil ?_
   refine e_condDT rfl (by omega) ?_
   refine esr <| w_val (v_fieldAddrB (o := 1) uT109 rfl rfl Tryz.nz3 rfl) rfl <| w_val (v_loadB 0 rfl uT3 rfl rfl rfl) rfl ?_
   refine w_val (v_indexAB uT94 Tryz.hi2 Tryz.cz2 rfl rfl (by first | omega | decide)) rfl ?_
   refine w_val (v_loadB 1 rfl uT2 rfl rfl (ints_at g o.a (by omega) (by omega))) rfl ?_
   refine w_val (v_eql rfl rfl) rfl <| w_nil ?_
   refine e_condD rfl (fun h9 => ?_) (fun h9 => ?_)
   ·refine e_region <| wm rfl rfl <| w_val (v_fieldAddrB (o := 2) uT109 rfl rfl Tryz.nz3 rfl) rfl <| w_val (v_loadB 0 rfl uT3 rfl rfl rfl) rfl ?_
    refine w_val (v_add rfl rfl (by omega)) rfl ?_
    refine wa rfl rfl <| w_nil <| e_blk <| e_blk ?_
    rw [show ((k : Int) + 1 + o.b) = ((k + 1 + o.b.toNat : Nat) : Int) from by omega]
    exact e_round ((k + 1 + o.b.toNat, g, s)) (⟨by dsimp only; omega, hg, hs, hnx _ _ _ (step_skip _ _ _ hk h9)⟩) (by dsimp only; omega) (by repeat first | exact .nil _ | refine .cons rfl ?_) (fun _ hw => hw.sub (List.sublist_cons_self _ _))
   ·refine e_skip <| e_blk <| e_blk ?_
    exact e_round ((k + 1, g, s)) (⟨by dsimp only; omega, hg, hs, hnx _ _ 0 (step_noskip _ _ _ hk h9)⟩) (by dsimp only; omega) (by repeat first | exact .nil _ | refine .cons rfl ?_) (fun _ hw => hw.sub (List.sublist_cons_self _ _))
  ·refine e_condDF rfl (by omega) ?_
   refine esr <| w_val (v_eql rfl rfl) rfl <| wa rfl rfl <| w_nil ?_
   refine e_condDF rfl (by omega) ?_
   refine esr <| w_val (v_eql rfl rfl) rfl <| wa rfl rfl <| w_nil ?_
   refine e_condDF rfl (by omega) ?_
   refine esr <| w_val (v_eql rfl rfl) rfl <| wa rfl rfl <| w_nil ?_
   refine e_condDF rfl (by omega) ?_
   refine esr <| w_val (v_eql rfl rfl) rfl <| wa rfl rfl <| w_nil ?_
   refine e_condDF rfl (by omega) ?_
   refine e_cutH (σ := Unit) [1, 2, 4, 5, 6, 7, 8] (.cons rfl (.cons rfl (.cons rfl (.cons rfl (.cons rfl (.cons rfl (.cons rfl .nil))))))) (fun _ => []) (fun _ => [.blk b9 109 (opCells o), .blk b7 94 (intCells (st g o.a (arithL o.kind (gt g o.b) (gt g o.c)))), .blk b6 32 (intCells s0), .blk b5 96 (intCells [0, 0, 0, 0, 0]), .blk b4 32 (intCells [0, 0, 0, 0, 0, 0, 0, 0, 0, 0]), .blk b2 32 (intCells s)]) (fun _ => True) ?_ ?_
   ·refine e_draw ([.blk b9 109 (opCells o)]) Tryz.mixed <| tk 0 rfl (v_fieldAddrB (o := 1) uT109 rfl rfl Tryz.nz3 rfl) rfl <| tk 1 rfl (v_loadB 0 rfl uT3 rfl rfl rfl) rfl <| tk 2 rfl (v_fieldAddrB (o := 0) uT109 rfl rfl Tryz.nz3 rfl) rfl <| tk 3 rfl (v_loadB 0 rfl uT3 rfl rfl rfl) rfl <| tk 4 rfl (v_fieldAddrB (o := 2) uT109 rfl rfl Tryz.nz3 rfl) rfl <| tk 5 rfl (v_loadB 0 rfl uT3 rfl rfl rfl) rfl ?_
    refine tk 6 rfl (v_indexAB uT94 Tryz.hi2 Tryz.cz2 rfl rfl (by first | omega | decide)) rfl ?_
    refine tk 8 rfl (v_fieldAddrB (o := 3) uT109 rfl rfl Tryz.nz3 rfl) rfl <| tk 9 rfl (v_loadB 0 rfl uT3 rfl rfl rfl) rfl ?_
    refine tk 10 rfl (v_indexAB uT94 Tryz.hi2 Tryz.cz2 rfl rfl (by first | omega | decide)) rfl ?_
    refine a_all [7, 11] (by kernel_rfl) rfl ?_
    intro i hi
    simp only [List.mem_cons, List.not_mem_nil, or_false] at hi
    rcases hi with rfl | rfl
    ·refine a_op rfl rfl ?_
     refine x_val (v_loadB 1 rfl uT2 rfl rfl (ints_at g o.b (by omega) (by omega))) rfl ?_
     refine tn <| t1 11 rfl rfl ?_
     refine x_val (v_loadB 1 rfl uT2 rfl rfl (ints_at g o.c (by omega) (by omega))) rfl ?_
     refine tn <| t1 12 rfl rfl ?_
     refine x_call0 (v := .int .i64 (arithL o.kind (gt g o.b) (gt g o.c))) rfl rfl rfl Tryz.call135 rfl (fun w hw => reckon_spec _ _ _ w) ?_
     refine tn ?_
     refine tk 13 rfl (v_indexAB uT94 Tryz.hi2 Tryz.cz2 rfl rfl (by first | omega | decide)) rfl ?_
     refine t1 14 rfl rfl ?_
     refine x_store1 1 rfl rfl rfl Tryz.hi2 Tryz.cz2 rfl (by first | (simp; done) | (simp [intCells_len]; omega) | exact Nat.zero_lt_succ _) rfl ?_
     refine tn <| td ?_
     rw [set_ints]
     exact e_cutEnd () trivial (by repeat first | exact .nil _ | refine .cons rfl ?_) (fun _ hw => hw)
    ·refine a_op rfl rfl ?_
     refine x_val (v_loadB 1 rfl uT2 rfl rfl (ints_at g o.c (by omega) (by omega))) rfl ?_
     refine tn <| t1 7 rfl rfl ?_
     refine x_val (v_loadB 1 rfl uT2 rfl rfl (ints_at g o.b (by omega) (by omega))) rfl ?_
     refine tn <| t1 12 rfl rfl ?_
     refine x_call0 (v := .int .i64 (arithL o.kind (gt g o.b) (gt g o.c))) rfl rfl rfl Tryz.call135 rfl (fun w hw => reckon_spec _ _ _ w) ?_
     refine tn ?_
     refine tk 13 rfl (v_indexAB uT94 Tryz.hi2 Tryz.cz2 rfl rfl (by first | omega | decide)) rfl ?_
     refine t1 14 rfl rfl ?_
     refine x_store1 1 rfl rfl rfl Tryz.hi2 Tryz.cz2 rfl (by first | (simp; done) | (simp [intCells_len]; omega) | exact Nat.zero_lt_succ _) rfl ?_
     refine tn <| td ?_
     rw [set_ints]
     exact e_cutEnd () trivial (by repeat first | exact .nil _ | refine .cons rfl ?_) (fun _ hw => hw)
   ·rintro - -
    refine e_blk <| e_blk ?_
    exact e_round ((k + 1, st g o.a (arithL o.kind (gt g o.b) (gt g o.c)), s)) (⟨by dsimp only; omega, by simp [st, hg], hs, hnx _ _ 0 (step_ar _ _ _ hk)⟩) (by dsimp only; omega) (by repeat first | exact .nil _ | refine .cons rfl ?_) (fun _ hw => hw.sub (List.sublist_cons_self _ _))
 ·have hR' : R = (false, g, s) := by rw [← hrel, runL_end _ (by omega)]
  obtain ⟨g0, g1, g2, g3, rfl⟩ := list4 hg
  refine e_exit rfl <| e_seq <| e_draw ([.blk b7 94 (intCells [g0, g1, g2, g3]), .blk b2 32 (intCells s)]) Tryz.mixed ?_
  refine tk 0 rfl (v_loadBA 1 rfl uT32 rfl Tryz.hi32 (Tryz.cz32.trans (by simp [Value.cells, intsV, resCells, intCells, hs0, hg, hs])) rfl) rfl ?_
  refine tk 1 rfl (v_loadBA 0 rfl uT94 rfl Tryz.hi94 Tryz.cz94 rfl) rfl ?_
  refine tk 2 rfl (v_build _ rfl (by intro _; simp [Instr.build, Instr.fill, intCells, Tryz.zeroValue96, go_sem]; rfl)) rfl ?_
  refine t1 3 rfl rfl ?_
  refine x_storeA 3 rfl rfl rfl Tryz.hi32 (Tryz.cz32.trans (by simp [Value.cells, intsV, resCells, intCells, hs0, hg, hs])) (by simp [Value.cells, intsV, resCells, intCells, hs0, hg, hs]) (by first | exact one_intCells _ | exact one_resCells _ _) ?_
  refine tn <| t1 4 rfl rfl ?_
  refine x_storeA 2 rfl rfl rfl Tryz.hi96 Tryz.cz96 rfl (by first | (simp [Value.oneCell', opCells]; done) | assumption | exact one_ints _ | exact one_resCells _ _ | exact one_slotC _) ?_
  refine tn <| td ?_
  refine e_retQ (q_ret2 rfl (ResV.agg 3 rfl rfl (by rw [isAggD, uT32]; rfl) (Tryz.cz32.trans (by simp [intCells, hs])) Tryz.hi32) (ResV.agg 2 rfl rfl (by rw [isAggD, uT96]; rfl) (Tryz.cz96.trans (by simp [intCells, hs])) Tryz.hi96) ?_)
  exact fun w' hw' => ⟨by rw [hdo, hR']; rfl, hw'.res.nil⟩
end Go.SL
end
section
open Go Go.Proofs Go.SL
set_option maxRecDepth 100000
namespace Go.SL
end Go.SL
end
section
open Go Go.Proofs Go.SL
set_option maxRecDepth 100000
namespace Go.SL
def zero10 : List Int := [0, 0, 0, 0, 0, 0, 0, 0, 0, 0]
end Go.SL
end
section
open Go Go.Proofs Go.SL
set_option maxRecDepth 100000
namespace Go.SL
end Go.SL
end
section
open Go Go.Proofs Go.SL
set_option maxRecDepth 100000
namespace Go.SL
end Go.SL
end
