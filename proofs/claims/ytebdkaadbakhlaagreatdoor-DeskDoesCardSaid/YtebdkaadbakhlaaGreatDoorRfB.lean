/- YtebdkaadbakhlaaGreatDoor: part RfB of this seat's own texts: WHATEVER THE INPUT, the law fB returns true and leaves what was there; no condition. -/
import Derived.Test.YtebdkaadbakhlaaGreatDoorRfA
set_option linter.unusedVariables false
set_option linter.unusedSimpArgs false
open Go Go.Proofs Go.SL Go.RowKit
set_option maxRecDepth 100000
set_option maxHeartbeats 8000000
namespace Go.SL
theorem rLine_spec (s : Nat) (x : RdS) (d : DkL) (told t : List UInt8) (N : Nat) (w : World) (h : ∀ c ∈ rdH s x d told, c.holds w) (hsep : (rdH s x d told).Pairwise Disj) (hd : d.Ok N) (hN : N ≤ 1000) (hL : LF w (feet (rdH s x d told))) (hNm : NamesV (SL.off w (feet (rdH s x d told)))) (ht : told.length ≤ 70000000) (hs : t.length ≤ 9000) :
  Calls Tryz.prog 16 #[.pointer (some ⟨s, 0, none⟩), strV t] w fun e w' => ∃ x' : RdS, True ∧ e = .returned (.tuple #[]) ∧ Res w (rdH s x d told) (rdH s x' (lineL d t).1 (told ++ (lineL d t).2)) w' := by
 have hdl := hd.len
 have hq := hd.q
 have hz := stL_len d.q.L d.q.dn
 obtain ⟨rv, rvs, rG, lv, vs, G, lw⟩ := x
 unfold lineL
 refine enter (mc := rdH s ⟨rv, rvs, rG, lv, vs, G, lw⟩ d told) (N := 295) Tryz.func16 rfl rfl rfl ?_ ?_ ?_
 ·exact h
 ·exact hsep
 refine e_seq <| e_seq ?_
 by_cases hp : Lib.hasPrefix t [100, 101, 101, 100, 32] = true
 ·obtain ⟨hp5, hpt⟩ := (pre_five t).1 hp
  have hpt : t.take (5 : Int).toNat = [100, 101, 101, 100, 32] := hpt
  rw [if_pos hp]
  have hps := fun (w1 : World) hL1 hN1 => refDeedOf_spec (t.drop 5) w1 (by rw [List.length_drop]; omega) hL1 hN1
  obtain ⟨hf1, hf2⟩ := parse_flt (s := t.drop 5) (by rw [List.length_drop]; omega)
  unfold deedL tellNo
  refine e_region <| wm rfl rfl <| w_val (v_strLen uT9 rfl) rfl ?_
  refine w_val (v_is (v' := .bool true) (v_geq rfl rfl) (by rw [decide_eq_true (by omega)])) rfl ?_
  refine wm rfl rfl <| w_want rfl rfl <| wm rfl rfl <| w_want rfl rfl ?_
  refine w_val (v_strTo uT9 rfl rfl (by omega)) rfl ?_
  refine w_want rfl rfl ?_
  refine w_val (v_is (v' := .bool true) (v_strEql rfl rfl) (by rw [decide_eq_true hpt])) rfl ?_
  refine w_val (v_pickT rfl rfl) rfl <| w_nil <| e_condT rfl <| esr <| wm rfl rfl ?_
  refine w_val (v_is (v' := strV (t.drop 5)) (v_strFrom uT9 rfl rfl (by omega)) rfl) rfl ?_
  generalize t.drop 5 = u at *
  generalize parseL u = pr at *
  obtain ⟨y, f0, f1⟩ := pr
  dsimp only at hps hf1 hf2 ⊢
  have hi0 := itoa_len hf1
  have hi1 := itoa_len hf2
  refine w_op rfl ?_
  refine x_call (dst := some 31) (mc := []) (σ := Value) (fun _ => True) (fun v => .tuple #[v, .agg #[.int .i64 f0, .int .i64 f1]]) (fun v => [Own v 109 5 y.length (deedCells y)]) rfl rfl rfl Tryz.call28 (fun w hw => hps w (hL.lai hw) (hNm.mono hw.off)) rfl (fun v _ => ?_); refine g_shape 0 rfl (fun Ax kx hvx _ => ?_); subst hvx
  refine wm rfl rfl <| w_val (v_extract rfl rfl) rfl <| w_val (v_extract rfl rfl) rfl <| w_op rfl ?_
  refine x_alloc (z := .agg #[.int .i64 0, .int .i64 0]) (by intro w; exact Tryz.zeroValue42 w) rfl (fun b5 => ?_)
  refine wa rfl rfl <| w_op rfl ?_
  refine x_storeA 0 rfl rfl rfl Tryz.hi42 Tryz.cz42 rfl (by first | (simp [Value.oneCell', opCells]; done) | assumption | exact one_ints _ | exact one_resCells _ _ | exact one_slotC _) ?_
  refine w_nil <| e_seq <| esr <| w_val (v_fieldAddrB (o := 0) uT42 rfl rfl Tryz.nz3 rfl) rfl <| w_val (v_loadB 0 rfl uT3 rfl rfl rfl) rfl <| w_val (v_neq rfl rfl) rfl <| w_nil ?_
  by_cases hne : f0 ≠ 0
  ·rw [if_pos hne]
   dsimp only
   refine e_condDT rfl (by omega) ?_
   refine e_draw ([.blk b5 42 [.int .i64 f0, .int .i64 f1]]) Tryz.mixed <| tk 0 rfl (v_move rfl) rfl <| tk 1 rfl (v_fieldAddrB (o := 0) uT42 rfl rfl Tryz.nz3 rfl) rfl <| tk 2 rfl (v_loadB 0 rfl uT3 rfl rfl rfl) rfl <| tk 6 rfl (v_fieldAddrB (o := 1) uT42 rfl rfl Tryz.nz3 rfl) rfl <| tk 7 rfl (v_loadB 0 rfl uT3 rfl rfl rfl) rfl <| t1 3 rfl rfl ?_
   refine x_call0 (v := strV (Lib.itoa f0)) rfl rfl rfl Tryz.call30 rfl (fun w hw => refNum_spec f0 w hf1 (hL.lai hw)) ?_
   refine tn ?_
   refine tk 4 rfl (v_is (v' := strV ([110, 111, 32] ++ Lib.itoa f0)) (v_strAdd rfl rfl (by simp only [lnA]; omega)) rfl) rfl ?_
   refine tk 5 rfl (v_is (v' := strV (([110, 111, 32] ++ Lib.itoa f0) ++ [32])) (v_strAdd rfl rfl (by simp only [lnA]; omega)) rfl) rfl ?_
   refine t1 8 rfl rfl ?_
   refine x_call0 (v := strV (Lib.itoa f1)) rfl rfl rfl Tryz.call30 rfl (fun w hw => refNum_spec f1 w hf2 (hL.lai hw)) ?_
   refine tn ?_
   refine tk 9 rfl (v_strAdd rfl rfl (by simp only [lnA]; omega)) rfl ?_
   refine t1 10 rfl rfl ?_
   refine g_heap (m' := [chBd (⟨s, strV (told), rv, lv, vs, G, lw⟩ : ChPd) d.q] ++ [Chunk.blk b5 42 [.int .i64 f0, .int .i64 f1], Own (.slice Ax y.length kx) 109 5 y.length (deedCells y), chWd (⟨s, strV (told), rv, lv, vs, G, lw⟩ : ChPd) d.q, chKd (⟨s, strV (told), rv, lv, vs, G, lw⟩ : ChPd) d.q, chOd (⟨s, strV (told), rv, lv, vs, G, lw⟩ : ChPd) d.q, Rw rv 80 1 (d.r).length rvs, Keep rG (Deeds rvs d.r)]) (fun _ hw => hw.pick [2, 0, 1, 3, 4, 5, 6, 7] (by decide)) ?_; refine x_call (dst := some 47) (mc := [chBd (⟨s, strV (told), rv, lv, vs, G, lw⟩ : ChPd) d.q]) (mr := [Chunk.blk b5 42 [.int .i64 f0, .int .i64 f1], Own (.slice Ax y.length kx) 109 5 y.length (deedCells y), chWd (⟨s, strV (told), rv, lv, vs, G, lw⟩ : ChPd) d.q, chKd (⟨s, strV (told), rv, lv, vs, G, lw⟩ : ChPd) d.q, chOd (⟨s, strV (told), rv, lv, vs, G, lw⟩ : ChPd) d.q, Rw rv 80 1 (d.r).length rvs, Keep rG (Deeds rvs d.r)]) (σ := Unit) (fun _ => True) (fun _ => .tuple #[]) (fun _ => [chBd (⟨s, strV ((told) ++ ((((([110, 111, 32] ++ Lib.itoa f0) ++ [32]) ++ Lib.itoa f1)) ++ [10])), rv, lv, vs, G, lw⟩ : ChPd) d.q]) rfl rfl rfl Tryz.call29 (fun w hw => rsay_spec s (told) (((([110, 111, 32] ++ Lib.itoa f0) ++ [32]) ++ Lib.itoa f1)) _ w (hw.mem (i := 0) rfl) (by simp only [lnA]; omega)) rfl (fun _ _ => ?_)
   refine tn <| td ?_
   refine e_retQ (q_ret0 rfl ?_)
   exact fun w' hw' => ⟨⟨rv, rvs, rG, lv, vs, G, lw⟩, trivial, rfl, (hw'.pick [0, 3, 4, 5, 6, 7] (by decide)).res⟩
  ·rw [if_neg hne]
   dsimp only
   refine g_shapeR2 6 rfl fun Ar kr hrv _ _ => ?_
   subst hrv
   refine e_condDF rfl (by omega) ?_
   refine e_region <| wm rfl rfl <| wm rfl rfl <| wn rfl rfl <| w_val (v_fieldAddrB (o := 15) uT39 rfl rfl Tryz.nz37 rfl) rfl <| w_val (v_loadB 2 rfl uT37 rfl rfl (chRd_r hz)) rfl <| wm rfl rfl <| w_op rfl ?_
   refine x_buildSlice _ ([.slice Ax y.length kx]) rfl (run_buildSlice uT37 Tryz.hi80 Tryz.cz80 Tryz.zeroValue80 rfl (by kernel_rfl)) rfl (fun b54 => ?_)
   refine w_op rfl ?_
   refine x_appendRS (z := .slice none 0 0) (n := d.r.length) (xs := rvs) (size := 1) (bytes := 24) (k := 1) (news := [.slice Ax y.length kx]) 7 rfl rfl rfl uT37 (by kernel_rfl) rfl (by decide) (by omega) (fun w hw => blk_rds (hw.hold _ (List.mem_cons_self ..)) rfl) (by intro u hu; simp only [List.mem_singleton] at hu; subst hu; rfl) (by omega) (by simp only [maxLen]; omega) rfl (fun A2 k2 _ => ?_)
   refine wn rfl rfl <| w_val (v_fieldAddrB (o := 15) uT39 rfl rfl Tryz.nz37 rfl) rfl <| w_op rfl ?_
   refine x_store1 3 rfl rfl rfl Tryz.hi37 Tryz.cz37 rfl (by rw [chRd_len hz]; decide) rfl ?_; rw [chRd_r_set hz]
   refine w_nil ?_
   refine e_retQ (q_ret0 rfl ?_)
   refine fun w' hw' => ⟨⟨.slice A2 (d.r.length + 1) k2, rvs ++ [.slice Ax y.length kx], feet [Own (.slice Ax y.length kx) 109 5 y.length (deedCells y), Keep rG (Deeds rvs d.r)], lv, vs, G, lw⟩, trivial, rfl, ?_⟩
   rw [List.append_nil]
   show Res _ _ [chBd (⟨s, strV (told), (.slice A2 (d.r.length + 1) k2), lv, vs, G, lw⟩ : ChPd) d.q, chWd (⟨s, strV (told), (.slice A2 (d.r.length + 1) k2), lv, vs, G, lw⟩ : ChPd) d.q, chKd (⟨s, strV (told), (.slice A2 (d.r.length + 1) k2), lv, vs, G, lw⟩ : ChPd) d.q, chOd (⟨s, strV (told), (.slice A2 (d.r.length + 1) k2), lv, vs, G, lw⟩ : ChPd) d.q, Rw (.slice A2 (d.r.length + 1) k2) 80 1 (d.r ++ [y]).length (rvs ++ [.slice Ax y.length kx]), Keep (feet [Own (.slice Ax y.length kx) 109 5 y.length (deedCells y), Keep rG (Deeds rvs d.r)]) (Deeds (rvs ++ [.slice Ax y.length kx]) (d.r ++ [y]))] _
   rw [List.length_append, List.length_singleton]
   have h4 : St w _ [Own (.slice Ax y.length kx) 109 5 y.length (deedCells y), Keep rG (Deeds rvs d.r), chBd (⟨s, strV (told), (.slice A2 (d.r.length + 1) k2), lv, vs, G, lw⟩ : ChPd) d.q, chWd (⟨s, strV (told), (.slice A2 (d.r.length + 1) k2), lv, vs, G, lw⟩ : ChPd) d.q, chKd (⟨s, strV (told), (.slice A2 (d.r.length + 1) k2), lv, vs, G, lw⟩ : ChPd) d.q, chOd (⟨s, strV (told), (.slice A2 (d.r.length + 1) k2), lv, vs, G, lw⟩ : ChPd) d.q, Rw (.slice A2 (d.r.length + 1) k2) 80 1 (d.r.length + 1) (rvs ++ [.slice Ax y.length kx])] w' := hw'.pick [2, 8, 3, 4, 5, 6, 7] (by decide)
   exact (h4.deedIn rfl |>.pick [1, 2, 3, 4, 5, 0] (by decide)).res
 ·have hp2 := fun h5 h6 => hp ((pre_five t).2 ⟨h5, h6⟩)
  rw [if_neg hp]
  have hws := fun (w1 : World) => refWords_spec t w1 (by omega)
  have hwl := wordsW_len t []
  have hwl2 : ∀ y ∈ wordsL t, y.length ≤ 9000 := fun y hy => by have := hwl y hy; simp at this; omega
  have hwc : (wordsL t).length ≤ 9001 := by have := wordsW_count t []; unfold wordsL; omega
  refine e_cutK (σ := Unit) [0, 1] (.cons rfl (.cons rfl .nil)) (fun _ => [(27, .bool false)]) (fun _ => True) ?_ ?_
  ·by_cases h5 : 5 ≤ t.length
   ·have h6 : ¬ t.take (5 : Int).toNat = [100, 101, 101, 100, 32] := fun h6 => hp2 h5 h6
    refine e_region <| wm rfl rfl <| w_val (v_strLen uT9 rfl) rfl ?_
    refine w_val (v_is (v' := .bool true) (v_geq rfl rfl) (by rw [decide_eq_true (by omega)])) rfl ?_
    refine wm rfl rfl <| w_want rfl rfl <| wm rfl rfl <| w_want rfl rfl ?_
    refine w_val (v_strTo uT9 rfl rfl (by omega)) rfl ?_
    refine w_want rfl rfl ?_
    refine w_val (v_is (v' := .bool false) (v_strEql rfl rfl) (by rw [decide_eq_false h6])) rfl ?_
    refine w_val (v_pickT rfl rfl) rfl <| w_nil ?_
    exact e_cutEnd (()) (trivial) (by repeat first | exact .nil _ | refine .cons rfl ?_) (fun _ hw => hw)
   ·refine e_region <| wm rfl rfl <| w_val (v_strLen uT9 rfl) rfl ?_
    refine w_val (v_is (v' := .bool false) (v_geq rfl rfl) (by rw [decide_eq_false (by omega)])) rfl ?_
    refine wm rfl rfl <| w_skip rfl rfl rfl rfl <| w_skip rfl rfl rfl rfl <| w_skip rfl rfl rfl rfl <| w_val (v_pickF rfl rfl) rfl <| w_nil ?_
    exact e_cutEnd (()) (trivial) (by repeat first | exact .nil _ | refine .cons rfl ?_) (fun _ hw => hw)
  ·rintro - -
   refine e_condF rfl ?_
   generalize wordsL t = W at *
   refine e_skip <| esr <| wm rfl rfl ?_
   cases W with
   | nil =>
    refine w_op rfl ?_
    refine x_call (dst := some 59) (mc := []) (σ := Value) (fun _ => True) (fun v => v) (fun v => [Own v 9 1 0 (strC [])]) rfl rfl rfl Tryz.call31 (fun w hw => hws w) rfl (fun v59 _ => ?_); refine g_shape 0 rfl (fun A8 k8 hv8 _ => ?_); subst hv8
    refine w_op rfl ?_
    refine x_alloc (z := .slice none 0 0) (by intro w; exact Tryz.zeroValue22 w) rfl (fun b6 => ?_)
    refine w_op rfl ?_
    refine x_store1 0 rfl rfl rfl Tryz.hi22 Tryz.cz22 rfl (by first | (simp; done) | (simp [intCells_len]; omega) | exact Nat.zero_lt_succ _) rfl ?_
    refine w_nil <| e_seq <| esr <| w_val (v_loadB 0 rfl uT22 rfl rfl rfl) rfl <| w_val (v_lenS uT22 rfl) rfl ?_
    refine w_val (v_is (v' := .bool true) (v_eql rfl rfl) (by rfl)) rfl ?_
    refine w_nil ?_
    refine e_condDT rfl (by omega) ?_
    refine e_retQ (q_ret0 rfl ?_)
    refine fun w' hw' => ⟨⟨rv, rvs, rG, lv, vs, G, lw⟩, trivial, rfl, ?_⟩
    show Res _ _ (rdH s ⟨rv, rvs, rG, lv, vs, G, lw⟩ d (told ++ [])) _
    rw [List.append_nil]
    exact (hw'.pick [2, 3, 4, 5, 6, 7] (by decide)).res
   | cons wd ws =>
    refine w_op rfl ?_
    refine x_call (dst := some 59) (mc := []) (σ := Value) (fun _ => True) (fun v => v) (fun v => [Own v 9 1 (wd :: ws).length (strC (wd :: ws))]) rfl rfl rfl Tryz.call31 (fun w hw => hws w) rfl (fun v59 _ => ?_); refine g_shapeW 0 rfl (by simp) (fun gw K hvw hK => ?_); subst hvw
    refine w_op rfl ?_
    refine x_alloc (z := .slice none 0 0) (by intro w; exact Tryz.zeroValue22 w) rfl (fun b6 => ?_)
    refine w_op rfl ?_
    refine x_store1 0 rfl rfl rfl Tryz.hi22 Tryz.cz22 rfl (by first | (simp; done) | (simp [intCells_len]; omega) | exact Nat.zero_lt_succ _) rfl ?_
    refine w_nil <| e_seq <| esr <| w_val (v_loadB 0 rfl uT22 rfl rfl rfl) rfl <| w_val (v_lenS uT22 rfl) rfl ?_
    refine w_val (v_is (v' := .bool false) (v_eql rfl rfl) (by rw [decide_eq_false (by simp; omega)])) rfl ?_
    refine w_nil <| e_condF rfl <| e_skip <| esr <| w_op rfl ?_
    refine x_alloc (z := .slice none 0 0) (by intro w; exact Tryz.zeroValue70 w) rfl (fun b7 => ?_)
    refine w_nil <| e_seq <| esr <| wa rfl rfl <| w_nil <| e_block ?_
    refine e_loopH (σ := Nat × Value × List Int) [0, 6, 7] (.cons rfl (.cons rfl (.cons rfl .nil))) (fun z => [(8, .int .i64 ((z.1 : Int) + 1))]) (fun z => [Chunk.blk b7 70 [z.2.1], Own z.2.1 3 1 z.2.2.length (intsC z.2.2), Chunk.blk b6 22 [.slice (some ⟨gw, 0, none⟩) (wd :: ws).length K], Own (.slice (some ⟨gw, 0, none⟩) (wd :: ws).length K) 9 1 (wd :: ws).length (strC (wd :: ws))] ++ rdH s ⟨rv, rvs, rG, lv, vs, G, lw⟩ d told) (fun z => z.1 ≤ ws.length ∧ z.2.2.length = z.1 ∧ numsL (ws.take z.1) = some z.2.2) (fun z => ws.length - z.1) (0, .slice none 0 0, []) ⟨Nat.zero_le _, rfl, rfl⟩ (by repeat first | exact .nil _ | refine .cons rfl ?_) (fun _ hw => (hw.ownNil 3 1).pick [1, 0, 2, 3, 4, 5, 6, 7, 8, 9] (by decide)) ?_
    rintro ⟨i, nv, ns⟩ ⟨hi, hnl, hns⟩
    dsimp only at hi hnl hns ⊢
    refine e_seq <| esr <| wm rfl rfl <| w_val (v_loadB 2 rfl uT22 rfl rfl rfl) rfl <| w_val (v_lenS uT22 rfl) rfl <| w_val (v_lss rfl rfl) rfl <| w_nil ?_
    refine e_condD rfl (fun hlt => ?_) (fun hlt => ?_)
    ·have hi' : i < ws.length := by simp at hlt; omega
     have hcell : (strC (wd :: ws))[0 + ((i : Int) + 1).toNat * 1]? = some (strV ws[i]) := by
      rw [show ((i : Int) + 1).toNat = i + 1 from by omega, Nat.mul_one, Nat.zero_add]; exact strC_at (by rw [List.getElem?_cons_succ]; exact List.getElem?_eq_getElem hi')
     have hlong := fun (w1 : World) hL1 => refLong_spec ws[i] w1 (by have := hwl2 ws[i] (List.mem_cons_of_mem _ (List.getElem_mem hi')); omega) hL1
     have hnapp := fun v => numsL_app (ws.take i) hns (x := ws[i]) (v := v)
     rw [← List.take_succ_eq_append_getElem hi'] at hnapp
     have hbad := numsL_none hi'
     generalize ws[i] = y at *
     refine e_skip <| e_seq <| e_block <| esr <| w_val (v_loadB 2 rfl uT22 rfl rfl rfl) rfl <| wm rfl rfl ?_
     refine w_val (v_indexSB uT22 Tryz.hi9 Tryz.cz9 rfl rfl (by omega)) rfl ?_
     refine w_val (v_loadW2 3 rfl hcell uT9 rfl rfl) rfl <| w_op rfl ?_
     refine x_call (dst := some 74) (mc := []) (σ := Int) (fun n => ∀ v, longL y = some v → n = v) (fun n => .tuple #[.int .i64 n, .bool (longL y).isSome]) (fun _ => []) rfl rfl rfl Tryz.call32 (fun w hw => hlong w (hL.lai hw)) rfl (fun n hnv => ?_)
     cases hlo : longL y with
     | none =>
      rw [wordsD_none (hbad hlo)]
      refine wm rfl rfl <| w_val (v_extract rfl rfl) rfl <| w_val (v_extract rfl rfl) rfl <| wa rfl rfl <| wa rfl rfl <| w_nil <| e_seq <| esr <| wm rfl rfl <| w_val (v_not rfl) rfl <| w_nil <| e_condT rfl <| esr <| wm rfl rfl <| w_op rfl ?_
      refine g_heap (m' := [chBd (⟨s, strV (told), rv, lv, vs, G, lw⟩ : ChPd) d.q] ++ [Chunk.blk b7 70 [nv], Own nv 3 1 ns.length (intsC ns), Chunk.blk b6 22 [.slice (some ⟨gw, 0, none⟩) (wd :: ws).length K], Own (.slice (some ⟨gw, 0, none⟩) (wd :: ws).length K) 9 1 (wd :: ws).length (strC (wd :: ws)), chWd (⟨s, strV (told), rv, lv, vs, G, lw⟩ : ChPd) d.q, chKd (⟨s, strV (told), rv, lv, vs, G, lw⟩ : ChPd) d.q, chOd (⟨s, strV (told), rv, lv, vs, G, lw⟩ : ChPd) d.q, Rw rv 80 1 (d.r).length rvs, Keep rG (Deeds rvs d.r)]) (fun _ hw => hw.pick [4, 0, 1, 2, 3, 5, 6, 7, 8, 9] (by decide)) ?_; refine x_call (dst := some 80) (mc := [chBd (⟨s, strV (told), rv, lv, vs, G, lw⟩ : ChPd) d.q]) (mr := [Chunk.blk b7 70 [nv], Own nv 3 1 ns.length (intsC ns), Chunk.blk b6 22 [.slice (some ⟨gw, 0, none⟩) (wd :: ws).length K], Own (.slice (some ⟨gw, 0, none⟩) (wd :: ws).length K) 9 1 (wd :: ws).length (strC (wd :: ws)), chWd (⟨s, strV (told), rv, lv, vs, G, lw⟩ : ChPd) d.q, chKd (⟨s, strV (told), rv, lv, vs, G, lw⟩ : ChPd) d.q, chOd (⟨s, strV (told), rv, lv, vs, G, lw⟩ : ChPd) d.q, Rw rv 80 1 (d.r).length rvs, Keep rG (Deeds rvs d.r)]) (σ := Unit) (fun _ => True) (fun _ => .tuple #[]) (fun _ => [chBd (⟨s, strV ((told) ++ (([119, 104, 97, 116]) ++ [10])), rv, lv, vs, G, lw⟩ : ChPd) d.q]) rfl rfl rfl Tryz.call29 (fun w hw => rsay_spec s (told) ([119, 104, 97, 116]) _ w (hw.mem (i := 0) rfl) (by simp only [lnA]; omega)) rfl (fun _ _ => ?_)
      refine w_nil ?_
      refine e_retQ (q_ret0 rfl ?_)
      exact fun w' hw' => ⟨⟨rv, rvs, rG, lv, vs, G, lw⟩, trivial, rfl, (hw'.pick [0, 5, 6, 7, 8, 9] (by decide)).res⟩
     | some v =>
      have hv := hnv v hlo
      subst hv
      refine wm rfl rfl <| w_val (v_extract rfl rfl) rfl <| w_val (v_extract rfl rfl) rfl <| wa rfl rfl <| wa rfl rfl <| w_nil <| e_seq <| esr <| wm rfl rfl <| w_val (v_not rfl) rfl <| w_nil <| e_condF rfl <| e_skip <| e_region <| w_val (v_loadB 0 rfl uT70 rfl rfl rfl) rfl <| wm rfl rfl <| w_op rfl ?_
      refine x_buildSlice _ (intsC [n]) rfl (run_buildSlice uT70 Tryz.hi3 Tryz.cz3 Tryz.zeroValue3 rfl (by kernel_rfl)) rfl (fun b83 => ?_)
      refine w_op rfl ?_
      refine x_appendIS (z := .int .i64 0) (n := ns.length) (xs := intsC ns) (size := 1) (bytes := 8) (k := 1) (news := intsC [n]) 2 rfl rfl rfl uT70 (by kernel_rfl) rfl (by decide) (fun w hw => blk_rds (hw.hold _ (List.mem_cons_self ..)) rfl) (by intro u hu; simp only [intsC, List.map_cons, List.map_nil, List.mem_singleton] at hu; subst hu; rfl) (by omega) (by simp only [maxLen]; omega) rfl (fun A4 cap4 _ => ?_)
      refine w_op rfl ?_
      refine x_store1 1 rfl rfl rfl Tryz.hi70 Tryz.cz70 rfl (by first | (simp; done) | (simp [intCells_len]; omega) | exact Nat.zero_lt_succ _) rfl ?_
      refine w_nil <| e_blk <| e_region <| wm rfl rfl ?_
      refine w_val (v_add rfl rfl (by omega)) rfl ?_
      refine wa rfl rfl <| w_nil ?_
      exact e_round ((i + 1, .slice A4 (ns.length + 1) cap4, ns ++ [n])) (⟨by dsimp only; omega, by dsimp only; rw [List.length_append, hnl]; rfl, hnapp n hlo⟩) (by dsimp only; omega) (by repeat first | exact .nil _ | refine .cons rfl ?_) (fun _ hw => by dsimp only; rw [List.length_append, List.length_singleton, intsC_app]; exact hw.pick [1, 2, 3, 4, 5, 6, 7, 8, 9, 10] (by decide))
    ·have e : i = ws.length := by simp at hlt; omega
     subst e
     rw [List.take_length] at hns
     rw [wordsD_some hns]
     refine g_shape2 1 rfl fun An kn hnv hkn hAn => ?_
     subst hnv
     refine e_exit rfl <| esr <| w_val (v_makeFunc rfl) rfl <| wa rfl rfl <| w_nil <| e_block <| esr <| wm rfl rfl <| w_op rfl ?_
     refine x_call0 (v := .bool (decide (wd = [112, 117, 116] ∧ ns.length = 0))) rfl rfl rfl Tryz.call33 rfl (fun w hw => ris_spec b6 b7 [112, 117, 116] wd 0 ns.length K kn An gw (wd :: ws).length w (by simp) (by rw [blk_cell (hw.mem (i := 2) rfl)]; rfl) (own_first (hw.mem (i := 3) rfl) (by simp) rfl) (by rw [blk_cell (hw.mem (i := 0) rfl)]; rfl)) ?_
     refine wa rfl rfl <| w_nil ?_
     refine e_condD rfl (fun hk => ?_) (fun hk => ?_)
     ·rw [show askL d wd ns = some _ from by unfold askL; rw [if_pos hk]]
      dsimp only [Option.getD_some]
      refine g_shapeR2 8 rfl fun Ar kr hrv _ _ => ?_
      subst hrv
      have hc2 := code_in (q := d.q) (⟨1, 0, d.r, []⟩ : SStepL)
      have hdo := fun (w1 : World) (u pv : Value) h1 h2 (h3 : IsRound (SL.off w1 (feet (chHd (⟨s, strV (told), (.slice Ar d.r.length kr), lv, vs, G, lw⟩ : ChPd) d.q))) u ((⟨1, 0, d.r, []⟩ : SStepL)).round) (h4 : IsInts (SL.off w1 (feet (chHd (⟨s, strV (told), (.slice Ar d.r.length kr), lv, vs, G, lw⟩ : ChPd) d.q))) pv ((⟨1, 0, d.r, []⟩ : SStepL)).picks) => chDoD_spec (⟨s, strV (told), (.slice Ar d.r.length kr), lv, vs, G, lw⟩ : ChPd) d.q (⟨1, 0, d.r, []⟩ : SStepL) u pv w1 h1 h2 hq h3 h4 hd.inn
      generalize doQ d.q (⟨1, 0, d.r, []⟩ : SStepL) = qc at *
      obtain ⟨q2, c2⟩ := qc
      dsimp only at hc2 hdo ⊢
      have hz2 := stL_len q2.L q2.dn
      refine e_seq <| e_draw ([]) Tryz.mixed <| tk 0 rfl (v_move rfl) rfl <| tk 1 rfl (v_move rfl) rfl <| tk 2 rfl (v_nilCheck rfl) rfl <| tk 3 rfl (v_fieldAddrB (o := 1) uT39 rfl rfl Tryz.nz35 rfl) rfl <| tk 4 rfl (v_move rfl) rfl <| tk 5 rfl (v_nilCheck rfl) rfl <| tk 6 rfl (v_fieldAddrB (o := 15) uT39 rfl rfl Tryz.nz37 rfl) rfl <| t1 7 rfl rfl <| x_val (v_loadB 4 rfl uT37 rfl rfl (chRd_r hz)) rfl <| tn ?_
      refine tk 8 rfl (v_build (v := sstV (⟨1, 0, d.r, []⟩ : SStepL) (.slice Ar d.r.length kr) (.slice none 0 0)) _ rfl (by intro _; simp [Instr.build, Instr.fill, Tryz.zeroValue90, go_sem]; rfl)) rfl ?_
      refine t1 9 rfl rfl ?_
      refine g_heap (m' := chHd (⟨s, strV (told), (.slice Ar d.r.length kr), lv, vs, G, lw⟩ : ChPd) d.q ++ [Chunk.blk b7 70 [(.slice An ns.length kn)], Own (.slice An ns.length kn) 3 1 ns.length (intsC ns), Chunk.blk b6 22 [.slice (some ⟨gw, 0, none⟩) (wd :: ws).length K], Own (.slice (some ⟨gw, 0, none⟩) (wd :: ws).length K) 9 1 (wd :: ws).length (strC (wd :: ws)), Rw (.slice Ar d.r.length kr) 80 1 d.r.length rvs, Keep rG (Deeds rvs d.r)]) (fun _ hw => hw.pick [4, 5, 6, 7, 0, 1, 2, 3, 8, 9] (by decide)) ?_; refine x_call (dst := some 100) (mc := chHd (⟨s, strV (told), (.slice Ar d.r.length kr), lv, vs, G, lw⟩ : ChPd) d.q) (mr := [Chunk.blk b7 70 [(.slice An ns.length kn)], Own (.slice An ns.length kn) 3 1 ns.length (intsC ns), Chunk.blk b6 22 [.slice (some ⟨gw, 0, none⟩) (wd :: ws).length K], Own (.slice (some ⟨gw, 0, none⟩) (wd :: ws).length K) 9 1 (wd :: ws).length (strC (wd :: ws)), Rw (.slice Ar d.r.length kr) 80 1 d.r.length rvs, Keep rG (Deeds rvs d.r)]) (σ := Value × List Value × (Nat → Prop) × Value) (fun _ => True) (fun _ => .int .i64 c2) (fun z => chHd (⟨s, strV (told), (.slice Ar d.r.length kr), z.1, z.2.1, z.2.2.1, z.2.2.2⟩ : ChPd) q2) rfl rfl rfl Tryz.call35 (fun w hw => hdo w (.slice Ar d.r.length kr) (.slice none 0 0) (res_part hw).1 (res_part hw).2 (IsRound.mono hw.apart ((keep_cut (Deeds.up _ _) (hw.partR (Keep rG (Deeds rvs d.r)) (by simp))).round (row_rds (hw.partR (Rw (.slice Ar d.r.length kr) 80 1 d.r.length rvs) (by simp))))) (isInts_nil _)) rfl (fun z _ => ?_); obtain ⟨lv2, vs2, G2, lw2⟩ := z; dsimp only
      refine tn <| t1 10 rfl rfl ?_
      refine g_heap (m' := [chBd (⟨s, strV (told), (.slice Ar d.r.length kr), lv2, vs2, G2, lw2⟩ : ChPd) q2] ++ [chWd (⟨s, strV (told), (.slice Ar d.r.length kr), lv2, vs2, G2, lw2⟩ : ChPd) q2, chKd (⟨s, strV (told), (.slice Ar d.r.length kr), lv2, vs2, G2, lw2⟩ : ChPd) q2, chOd (⟨s, strV (told), (.slice Ar d.r.length kr), lv2, vs2, G2, lw2⟩ : ChPd) q2, Chunk.blk b7 70 [(.slice An ns.length kn)], Own (.slice An ns.length kn) 3 1 ns.length (intsC ns), Chunk.blk b6 22 [.slice (some ⟨gw, 0, none⟩) (wd :: ws).length K], Own (.slice (some ⟨gw, 0, none⟩) (wd :: ws).length K) 9 1 (wd :: ws).length (strC (wd :: ws)), Rw (.slice Ar d.r.length kr) 80 1 d.r.length rvs, Keep rG (Deeds rvs d.r)]) (fun _ hw => hw.pick [0, 1, 2, 3, 4, 5, 6, 7, 8, 9] (by decide)) ?_; refine x_call (dst := some 101) (mc := [chBd (⟨s, strV (told), (.slice Ar d.r.length kr), lv2, vs2, G2, lw2⟩ : ChPd) q2]) (mr := [chWd (⟨s, strV (told), (.slice Ar d.r.length kr), lv2, vs2, G2, lw2⟩ : ChPd) q2, chKd (⟨s, strV (told), (.slice Ar d.r.length kr), lv2, vs2, G2, lw2⟩ : ChPd) q2, chOd (⟨s, strV (told), (.slice Ar d.r.length kr), lv2, vs2, G2, lw2⟩ : ChPd) q2, Chunk.blk b7 70 [(.slice An ns.length kn)], Own (.slice An ns.length kn) 3 1 ns.length (intsC ns), Chunk.blk b6 22 [.slice (some ⟨gw, 0, none⟩) (wd :: ws).length K], Own (.slice (some ⟨gw, 0, none⟩) (wd :: ws).length K) 9 1 (wd :: ws).length (strC (wd :: ws)), Rw (.slice Ar d.r.length kr) 80 1 d.r.length rvs, Keep rG (Deeds rvs d.r)]) (σ := Unit) (fun _ => True) (fun _ => .tuple #[]) (fun _ => [chBd (⟨s, strV ((told) ++ tellCode c2), (.slice Ar d.r.length kr), lv2, vs2, G2, lw2⟩ : ChPd) q2]) rfl rfl rfl Tryz.call34 (fun w hw => rcode_spec s (told) c2 _ w (hw.mem (i := 0) rfl) (hL.part hw) hc2 (by omega)) rfl (fun _ _ => ?_)
      refine tn <| td <| e_region <| wm rfl rfl <| wn rfl rfl <| w_val (v_fieldAddrB (o := 15) uT39 rfl rfl Tryz.nz37 rfl) rfl <| w_op rfl ?_
      refine x_store1 (v := .slice none 0 0) 0 rfl rfl rfl Tryz.hi37 Tryz.cz37 rfl (by rw [chRd_len hz2]; decide) rfl ?_; rw [chRd_r_set hz2]
      refine w_nil <| e_blk ?_
      refine e_endQ (q_ret0 rfl ?_)
      refine fun w' hw' => ⟨⟨.slice none 0 0, [], feet [], lv2, vs2, G2, lw2⟩, trivial, rfl, ?_⟩
      exact (((hw'.keep0 (Deeds [] []) Deeds.nil).rowNil 80 1).pick [2, 3, 4, 5, 0, 1] (by decide)).res
     ·have n0 := hk
      clear hk
      refine esr <| wm rfl rfl <| w_op rfl ?_
      refine x_call0 (v := .bool (decide (wd = [115, 121, 110, 99] ∧ ns.length = 0))) rfl rfl rfl Tryz.call33 rfl (fun w hw => ris_spec b6 b7 [115, 121, 110, 99] wd 0 ns.length K kn An gw (wd :: ws).length w (by simp) (by rw [blk_cell (hw.mem (i := 2) rfl)]; rfl) (own_first (hw.mem (i := 3) rfl) (by simp) rfl) (by rw [blk_cell (hw.mem (i := 0) rfl)]; rfl)) ?_
      refine wa rfl rfl <| w_nil ?_
      refine e_condD rfl (fun hk => ?_) (fun hk => ?_)
      ·rw [show askL d wd ns = some _ from by unfold askL; rw [if_neg n0, if_pos hk]]
       dsimp only [Option.getD_some]
       have hc2 := code_in (q := d.q) (⟨2, 0, [], []⟩ : SStepL)
       have hdo := fun (w1 : World) (u pv : Value) h1 h2 (h3 : IsRound (SL.off w1 (feet (chHd (⟨s, strV (told), rv, lv, vs, G, lw⟩ : ChPd) d.q))) u ((⟨2, 0, [], []⟩ : SStepL)).round) (h4 : IsInts (SL.off w1 (feet (chHd (⟨s, strV (told), rv, lv, vs, G, lw⟩ : ChPd) d.q))) pv ((⟨2, 0, [], []⟩ : SStepL)).picks) => chDoD_spec (⟨s, strV (told), rv, lv, vs, G, lw⟩ : ChPd) d.q (⟨2, 0, [], []⟩ : SStepL) u pv w1 h1 h2 hq h3 h4 (fun d hd => by cases hd)
       generalize doQ d.q (⟨2, 0, [], []⟩ : SStepL) = qc at *
       obtain ⟨q2, c2⟩ := qc
       dsimp only at hc2 hdo ⊢
       have hz2 := stL_len q2.L q2.dn
       refine e_region <| wm rfl rfl <| wm rfl rfl <| wn rfl rfl <| w_val (v_fieldAddrB (o := 1) uT39 rfl rfl Tryz.nz35 rfl) rfl ?_
       refine w_val (v_build (v := sstV (⟨2, 0, [], []⟩ : SStepL) (.slice none 0 0) (.slice none 0 0)) _ rfl (by intro _; simp [Instr.build, Instr.fill, Tryz.zeroValue90, go_sem]; rfl)) rfl ?_
       refine w_op rfl ?_
       refine g_heap (m' := chHd (⟨s, strV (told), rv, lv, vs, G, lw⟩ : ChPd) d.q ++ [Chunk.blk b7 70 [(.slice An ns.length kn)], Own (.slice An ns.length kn) 3 1 ns.length (intsC ns), Chunk.blk b6 22 [.slice (some ⟨gw, 0, none⟩) (wd :: ws).length K], Own (.slice (some ⟨gw, 0, none⟩) (wd :: ws).length K) 9 1 (wd :: ws).length (strC (wd :: ws)), Rw rv 80 1 d.r.length rvs, Keep rG (Deeds rvs d.r)]) (fun _ hw => hw.pick [4, 5, 6, 7, 0, 1, 2, 3, 8, 9] (by decide)) ?_; refine x_call (dst := some 113) (mc := chHd (⟨s, strV (told), rv, lv, vs, G, lw⟩ : ChPd) d.q) (mr := [Chunk.blk b7 70 [(.slice An ns.length kn)], Own (.slice An ns.length kn) 3 1 ns.length (intsC ns), Chunk.blk b6 22 [.slice (some ⟨gw, 0, none⟩) (wd :: ws).length K], Own (.slice (some ⟨gw, 0, none⟩) (wd :: ws).length K) 9 1 (wd :: ws).length (strC (wd :: ws)), Rw rv 80 1 d.r.length rvs, Keep rG (Deeds rvs d.r)]) (σ := Value × List Value × (Nat → Prop) × Value) (fun _ => True) (fun _ => .int .i64 c2) (fun z => chHd (⟨s, strV (told), rv, z.1, z.2.1, z.2.2.1, z.2.2.2⟩ : ChPd) q2) rfl rfl rfl Tryz.call35 (fun w hw => hdo w (.slice none 0 0) (.slice none 0 0) (res_part hw).1 (res_part hw).2 (isRound_nil _) (isInts_nil _)) rfl (fun z _ => ?_); obtain ⟨lv2, vs2, G2, lw2⟩ := z; dsimp only
       refine w_op rfl ?_
       refine g_heap (m' := [chBd (⟨s, strV (told), rv, lv2, vs2, G2, lw2⟩ : ChPd) q2] ++ [chWd (⟨s, strV (told), rv, lv2, vs2, G2, lw2⟩ : ChPd) q2, chKd (⟨s, strV (told), rv, lv2, vs2, G2, lw2⟩ : ChPd) q2, chOd (⟨s, strV (told), rv, lv2, vs2, G2, lw2⟩ : ChPd) q2, Chunk.blk b7 70 [(.slice An ns.length kn)], Own (.slice An ns.length kn) 3 1 ns.length (intsC ns), Chunk.blk b6 22 [.slice (some ⟨gw, 0, none⟩) (wd :: ws).length K], Own (.slice (some ⟨gw, 0, none⟩) (wd :: ws).length K) 9 1 (wd :: ws).length (strC (wd :: ws)), Rw rv 80 1 d.r.length rvs, Keep rG (Deeds rvs d.r)]) (fun _ hw => hw.pick [0, 1, 2, 3, 4, 5, 6, 7, 8, 9] (by decide)) ?_; refine x_call (dst := some 114) (mc := [chBd (⟨s, strV (told), rv, lv2, vs2, G2, lw2⟩ : ChPd) q2]) (mr := [chWd (⟨s, strV (told), rv, lv2, vs2, G2, lw2⟩ : ChPd) q2, chKd (⟨s, strV (told), rv, lv2, vs2, G2, lw2⟩ : ChPd) q2, chOd (⟨s, strV (told), rv, lv2, vs2, G2, lw2⟩ : ChPd) q2, Chunk.blk b7 70 [(.slice An ns.length kn)], Own (.slice An ns.length kn) 3 1 ns.length (intsC ns), Chunk.blk b6 22 [.slice (some ⟨gw, 0, none⟩) (wd :: ws).length K], Own (.slice (some ⟨gw, 0, none⟩) (wd :: ws).length K) 9 1 (wd :: ws).length (strC (wd :: ws)), Rw rv 80 1 d.r.length rvs, Keep rG (Deeds rvs d.r)]) (σ := Unit) (fun _ => True) (fun _ => .tuple #[]) (fun _ => [chBd (⟨s, strV ((told) ++ tellCode c2), rv, lv2, vs2, G2, lw2⟩ : ChPd) q2]) rfl rfl rfl Tryz.call34 (fun w hw => rcode_spec s (told) c2 _ w (hw.mem (i := 0) rfl) (hL.part hw) hc2 (by omega)) rfl (fun _ _ => ?_)
       refine w_nil <| e_blk ?_
       refine e_endQ (q_ret0 rfl ?_)
       exact fun w' hw' => ⟨⟨rv, rvs, rG, lv2, vs2, G2, lw2⟩, trivial, rfl, (hw'.pick [0, 1, 2, 3, 8, 9] (by decide)).res⟩
      ·have n1 := hk
       clear hk
       refine esr <| w_val (v_loadB 2 rfl uT22 rfl rfl rfl) rfl ?_
       refine w_val (v_indexSB uT22 Tryz.hi9 Tryz.cz9 rfl rfl (by simp)) rfl ?_
       refine w_val (v_loadW2 3 rfl (show _ = some (strV wd) from rfl) uT9 rfl rfl) rfl <| w_val (v_strEql rfl rfl) rfl <| wa rfl rfl <| w_nil ?_
       refine e_condD rfl (fun hk => ?_) (fun hk => ?_)
       ·rw [show askL d wd ns = some _ from by unfold askL; rw [if_neg n0, if_neg n1, if_pos hk]]
        dsimp only [Option.getD_some]
        have hc2 := code_in (q := d.q) (⟨3, 0, [], ns⟩ : SStepL)
        have hdo := fun (w1 : World) (u pv : Value) h1 h2 (h3 : IsRound (SL.off w1 (feet (chHd (⟨s, strV (told), rv, lv, vs, G, lw⟩ : ChPd) d.q))) u ((⟨3, 0, [], ns⟩ : SStepL)).round) (h4 : IsInts (SL.off w1 (feet (chHd (⟨s, strV (told), rv, lv, vs, G, lw⟩ : ChPd) d.q))) pv ((⟨3, 0, [], ns⟩ : SStepL)).picks) => chDoD_spec (⟨s, strV (told), rv, lv, vs, G, lw⟩ : ChPd) d.q (⟨3, 0, [], ns⟩ : SStepL) u pv w1 h1 h2 hq h3 h4 (fun d hd => by cases hd)
        generalize doQ d.q (⟨3, 0, [], ns⟩ : SStepL) = qc at *
        obtain ⟨q2, c2⟩ := qc
        dsimp only at hc2 hdo ⊢
        have hz2 := stL_len q2.L q2.dn
        refine e_draw ([]) Tryz.mixed <| tk 0 rfl (v_move rfl) rfl <| tk 1 rfl (v_move rfl) rfl <| tk 2 rfl (v_nilCheck rfl) rfl <| tk 3 rfl (v_fieldAddrB (o := 1) uT39 rfl rfl Tryz.nz35 rfl) rfl <| t1 4 rfl rfl <| x_val (v_loadB 0 rfl uT70 rfl rfl rfl) rfl <| tn ?_
        refine tk 5 rfl (v_build (v := sstV (⟨3, 0, [], ns⟩ : SStepL) (.slice none 0 0) (.slice An ns.length kn)) _ rfl (by intro _; simp [Instr.build, Instr.fill, Tryz.zeroValue90, go_sem]; rfl)) rfl ?_
        refine t1 6 rfl rfl ?_
        refine g_heap (m' := chHd (⟨s, strV (told), rv, lv, vs, G, lw⟩ : ChPd) d.q ++ [Chunk.blk b7 70 [(.slice An ns.length kn)], Own (.slice An ns.length kn) 3 1 ns.length (intsC ns), Chunk.blk b6 22 [.slice (some ⟨gw, 0, none⟩) (wd :: ws).length K], Own (.slice (some ⟨gw, 0, none⟩) (wd :: ws).length K) 9 1 (wd :: ws).length (strC (wd :: ws)), Rw rv 80 1 d.r.length rvs, Keep rG (Deeds rvs d.r)]) (fun _ hw => hw.pick [4, 5, 6, 7, 0, 1, 2, 3, 8, 9] (by decide)) ?_; refine x_call (dst := some 126) (mc := chHd (⟨s, strV (told), rv, lv, vs, G, lw⟩ : ChPd) d.q) (mr := [Chunk.blk b7 70 [(.slice An ns.length kn)], Own (.slice An ns.length kn) 3 1 ns.length (intsC ns), Chunk.blk b6 22 [.slice (some ⟨gw, 0, none⟩) (wd :: ws).length K], Own (.slice (some ⟨gw, 0, none⟩) (wd :: ws).length K) 9 1 (wd :: ws).length (strC (wd :: ws)), Rw rv 80 1 d.r.length rvs, Keep rG (Deeds rvs d.r)]) (σ := Value × List Value × (Nat → Prop) × Value) (fun _ => True) (fun _ => .int .i64 c2) (fun z => chHd (⟨s, strV (told), rv, z.1, z.2.1, z.2.2.1, z.2.2.2⟩ : ChPd) q2) rfl rfl rfl Tryz.call35 (fun w hw => hdo w (.slice none 0 0) (.slice An ns.length kn) (res_part hw).1 (res_part hw).2 (isRound_nil _) (Rds.mono hw.apart (own_rds (hw.partR (Own (.slice An ns.length kn) 3 1 ns.length (intsC ns)) (by simp))))) rfl (fun z _ => ?_); obtain ⟨lv2, vs2, G2, lw2⟩ := z; dsimp only
        refine tn <| t1 7 rfl rfl ?_
        refine g_heap (m' := [chBd (⟨s, strV (told), rv, lv2, vs2, G2, lw2⟩ : ChPd) q2] ++ [chWd (⟨s, strV (told), rv, lv2, vs2, G2, lw2⟩ : ChPd) q2, chKd (⟨s, strV (told), rv, lv2, vs2, G2, lw2⟩ : ChPd) q2, chOd (⟨s, strV (told), rv, lv2, vs2, G2, lw2⟩ : ChPd) q2, Chunk.blk b7 70 [(.slice An ns.length kn)], Own (.slice An ns.length kn) 3 1 ns.length (intsC ns), Chunk.blk b6 22 [.slice (some ⟨gw, 0, none⟩) (wd :: ws).length K], Own (.slice (some ⟨gw, 0, none⟩) (wd :: ws).length K) 9 1 (wd :: ws).length (strC (wd :: ws)), Rw rv 80 1 d.r.length rvs, Keep rG (Deeds rvs d.r)]) (fun _ hw => hw.pick [0, 1, 2, 3, 4, 5, 6, 7, 8, 9] (by decide)) ?_; refine x_call (dst := some 127) (mc := [chBd (⟨s, strV (told), rv, lv2, vs2, G2, lw2⟩ : ChPd) q2]) (mr := [chWd (⟨s, strV (told), rv, lv2, vs2, G2, lw2⟩ : ChPd) q2, chKd (⟨s, strV (told), rv, lv2, vs2, G2, lw2⟩ : ChPd) q2, chOd (⟨s, strV (told), rv, lv2, vs2, G2, lw2⟩ : ChPd) q2, Chunk.blk b7 70 [(.slice An ns.length kn)], Own (.slice An ns.length kn) 3 1 ns.length (intsC ns), Chunk.blk b6 22 [.slice (some ⟨gw, 0, none⟩) (wd :: ws).length K], Own (.slice (some ⟨gw, 0, none⟩) (wd :: ws).length K) 9 1 (wd :: ws).length (strC (wd :: ws)), Rw rv 80 1 d.r.length rvs, Keep rG (Deeds rvs d.r)]) (σ := Unit) (fun _ => True) (fun _ => .tuple #[]) (fun _ => [chBd (⟨s, strV ((told) ++ tellCode c2), rv, lv2, vs2, G2, lw2⟩ : ChPd) q2]) rfl rfl rfl Tryz.call34 (fun w hw => rcode_spec s (told) c2 _ w (hw.mem (i := 0) rfl) (hL.part hw) hc2 (by omega)) rfl (fun _ _ => ?_)
        refine tn <| td <| e_blk ?_
        refine e_endQ (q_ret0 rfl ?_)
        exact fun w' hw' => ⟨⟨rv, rvs, rG, lv2, vs2, G2, lw2⟩, trivial, rfl, (hw'.pick [0, 1, 2, 3, 8, 9] (by decide)).res⟩
       ·have n2 := hk
        clear hk
        refine esr <| wm rfl rfl <| w_op rfl ?_
        refine x_call0 (v := .bool (decide (wd = [99, 114, 97, 115, 104] ∧ ns.length = 1))) rfl rfl rfl Tryz.call33 rfl (fun w hw => ris_spec b6 b7 [99, 114, 97, 115, 104] wd 1 ns.length K kn An gw (wd :: ws).length w (by simp) (by rw [blk_cell (hw.mem (i := 2) rfl)]; rfl) (own_first (hw.mem (i := 3) rfl) (by simp) rfl) (by rw [blk_cell (hw.mem (i := 0) rfl)]; rfl)) ?_
        refine wa rfl rfl <| w_nil ?_
        refine e_condD rfl (fun hk => ?_) (fun hk => ?_)
        ·rw [show askL d wd ns = some _ from by unfold askL; rw [if_neg n0, if_neg n1, if_neg n2, if_pos hk]]
         dsimp only [Option.getD_some]
         have hc2 := code_in (q := d.q) (⟨4, ns.headD 0, [], []⟩ : SStepL)
         have hdo := fun (w1 : World) (u pv : Value) h1 h2 (h3 : IsRound (SL.off w1 (feet (chHd (⟨s, strV (told), rv, lv, vs, G, lw⟩ : ChPd) d.q))) u ((⟨4, ns.headD 0, [], []⟩ : SStepL)).round) (h4 : IsInts (SL.off w1 (feet (chHd (⟨s, strV (told), rv, lv, vs, G, lw⟩ : ChPd) d.q))) pv ((⟨4, ns.headD 0, [], []⟩ : SStepL)).picks) => chDoD_spec (⟨s, strV (told), rv, lv, vs, G, lw⟩ : ChPd) d.q (⟨4, ns.headD 0, [], []⟩ : SStepL) u pv w1 h1 h2 hq h3 h4 (fun d hd => by cases hd)
         generalize doQ d.q (⟨4, ns.headD 0, [], []⟩ : SStepL) = qc at *
         obtain ⟨q2, c2⟩ := qc
         dsimp only at hc2 hdo ⊢
         have hz2 := stL_len q2.L q2.dn
         have hget : (intsC ns)[0]? = some (.int .i64 (ns.headD 0)) := by
          cases ns with
          | nil => simp at hk
          | cons a r => rfl
         obtain ⟨adn, rfl⟩ := hAn (by omega)
         refine e_draw ([]) Tryz.mixed <| tk 0 rfl (v_move rfl) rfl <| tk 1 rfl (v_move rfl) rfl <| tk 2 rfl (v_nilCheck rfl) rfl <| tk 3 rfl (v_fieldAddrB (o := 1) uT39 rfl rfl Tryz.nz35 rfl) rfl <| t1 4 rfl rfl <| x_val (v_loadB 0 rfl uT70 rfl rfl rfl) rfl <| tn ?_
         refine tk 5 rfl (v_indexS uT70 Tryz.hi3 Tryz.cz3 rfl rfl (by first | omega | decide)) rfl ?_
         refine t1 6 rfl rfl ?_
         refine x_val (v_loadW (j := 0) 1 rfl (by omega) hget uT3 rfl rfl) rfl ?_
         refine tn ?_
         refine tk 7 rfl (v_build (v := sstV (⟨4, ns.headD 0, [], []⟩ : SStepL) (.slice none 0 0) (.slice none 0 0)) _ rfl (by intro _; simp [Instr.build, Instr.fill, Tryz.zeroValue90, go_sem]; rfl)) rfl ?_
         refine t1 8 rfl rfl ?_
         refine g_heap (m' := chHd (⟨s, strV (told), rv, lv, vs, G, lw⟩ : ChPd) d.q ++ [Chunk.blk b7 70 [(.slice (some adn) ns.length kn)], Own (.slice (some adn) ns.length kn) 3 1 ns.length (intsC ns), Chunk.blk b6 22 [.slice (some ⟨gw, 0, none⟩) (wd :: ws).length K], Own (.slice (some ⟨gw, 0, none⟩) (wd :: ws).length K) 9 1 (wd :: ws).length (strC (wd :: ws)), Rw rv 80 1 d.r.length rvs, Keep rG (Deeds rvs d.r)]) (fun _ hw => hw.pick [4, 5, 6, 7, 0, 1, 2, 3, 8, 9] (by decide)) ?_; refine x_call (dst := some 139) (mc := chHd (⟨s, strV (told), rv, lv, vs, G, lw⟩ : ChPd) d.q) (mr := [Chunk.blk b7 70 [(.slice (some adn) ns.length kn)], Own (.slice (some adn) ns.length kn) 3 1 ns.length (intsC ns), Chunk.blk b6 22 [.slice (some ⟨gw, 0, none⟩) (wd :: ws).length K], Own (.slice (some ⟨gw, 0, none⟩) (wd :: ws).length K) 9 1 (wd :: ws).length (strC (wd :: ws)), Rw rv 80 1 d.r.length rvs, Keep rG (Deeds rvs d.r)]) (σ := Value × List Value × (Nat → Prop) × Value) (fun _ => True) (fun _ => .int .i64 c2) (fun z => chHd (⟨s, strV (told), rv, z.1, z.2.1, z.2.2.1, z.2.2.2⟩ : ChPd) q2) rfl rfl rfl Tryz.call35 (fun w hw => hdo w (.slice none 0 0) (.slice none 0 0) (res_part hw).1 (res_part hw).2 (isRound_nil _) (isInts_nil _)) rfl (fun z _ => ?_); obtain ⟨lv2, vs2, G2, lw2⟩ := z; dsimp only
         refine tn <| t1 9 rfl rfl ?_
         refine g_heap (m' := [chBd (⟨s, strV (told), rv, lv2, vs2, G2, lw2⟩ : ChPd) q2] ++ [chWd (⟨s, strV (told), rv, lv2, vs2, G2, lw2⟩ : ChPd) q2, chKd (⟨s, strV (told), rv, lv2, vs2, G2, lw2⟩ : ChPd) q2, chOd (⟨s, strV (told), rv, lv2, vs2, G2, lw2⟩ : ChPd) q2, Chunk.blk b7 70 [(.slice (some adn) ns.length kn)], Own (.slice (some adn) ns.length kn) 3 1 ns.length (intsC ns), Chunk.blk b6 22 [.slice (some ⟨gw, 0, none⟩) (wd :: ws).length K], Own (.slice (some ⟨gw, 0, none⟩) (wd :: ws).length K) 9 1 (wd :: ws).length (strC (wd :: ws)), Rw rv 80 1 d.r.length rvs, Keep rG (Deeds rvs d.r)]) (fun _ hw => hw.pick [0, 1, 2, 3, 4, 5, 6, 7, 8, 9] (by decide)) ?_; refine x_call (dst := some 140) (mc := [chBd (⟨s, strV (told), rv, lv2, vs2, G2, lw2⟩ : ChPd) q2]) (mr := [chWd (⟨s, strV (told), rv, lv2, vs2, G2, lw2⟩ : ChPd) q2, chKd (⟨s, strV (told), rv, lv2, vs2, G2, lw2⟩ : ChPd) q2, chOd (⟨s, strV (told), rv, lv2, vs2, G2, lw2⟩ : ChPd) q2, Chunk.blk b7 70 [(.slice (some adn) ns.length kn)], Own (.slice (some adn) ns.length kn) 3 1 ns.length (intsC ns), Chunk.blk b6 22 [.slice (some ⟨gw, 0, none⟩) (wd :: ws).length K], Own (.slice (some ⟨gw, 0, none⟩) (wd :: ws).length K) 9 1 (wd :: ws).length (strC (wd :: ws)), Rw rv 80 1 d.r.length rvs, Keep rG (Deeds rvs d.r)]) (σ := Unit) (fun _ => True) (fun _ => .tuple #[]) (fun _ => [chBd (⟨s, strV ((told) ++ tellCode c2), rv, lv2, vs2, G2, lw2⟩ : ChPd) q2]) rfl rfl rfl Tryz.call34 (fun w hw => rcode_spec s (told) c2 _ w (hw.mem (i := 0) rfl) (hL.part hw) hc2 (by omega)) rfl (fun _ _ => ?_)
         refine tn <| td <| e_blk ?_
         refine e_endQ (q_ret0 rfl ?_)
         exact fun w' hw' => ⟨⟨rv, rvs, rG, lv2, vs2, G2, lw2⟩, trivial, rfl, (hw'.pick [0, 1, 2, 3, 8, 9] (by decide)).res⟩
        ·have n3 := hk
         clear hk
         refine esr <| wm rfl rfl <| w_op rfl ?_
         refine x_call0 (v := .bool (decide (wd = [115, 116, 97, 116, 101] ∧ ns.length = 0))) rfl rfl rfl Tryz.call33 rfl (fun w hw => ris_spec b6 b7 [115, 116, 97, 116, 101] wd 0 ns.length K kn An gw (wd :: ws).length w (by simp) (by rw [blk_cell (hw.mem (i := 2) rfl)]; rfl) (own_first (hw.mem (i := 3) rfl) (by simp) rfl) (by rw [blk_cell (hw.mem (i := 0) rfl)]; rfl)) ?_
         refine wa rfl rfl <| w_nil ?_
         refine e_condD rfl (fun hk => ?_) (fun hk => ?_)
         ·rw [show askL d wd ns = some _ from by unfold askL; rw [if_neg n0, if_neg n1, if_neg n2, if_neg n3, if_pos hk]]
          dsimp only [Option.getD_some]
          have hzi := stL_in hq.inn d.q.dn
          have hll := longs_len hzi
          unfold tellState
          refine e_region <| wm rfl rfl <| wm rfl rfl <| wn rfl rfl <| w_val (v_fieldAddrB (o := 1) uT39 rfl rfl Tryz.nz35 rfl) rfl <| w_val (v_fieldAddrB (o := 3) uT35 rfl rfl Tryz.nz32 rfl) rfl ?_
          refine w_val (v_sliceArr uT32 (by decide) Tryz.hi2 Tryz.cz2 rfl) rfl ?_
          refine w_op rfl ?_
          refine x_call0 (v := strV (longsL (stL d.q.L d.q.dn))) rfl rfl rfl Tryz.call36 rfl (fun w hw => rlongs_spec _ (stL d.q.L d.q.dn) w (ints_rds (n := 10) (hw.mem (i := 4) rfl) (fun j v hj => chRd_at hj) hz.symm) hzi (by omega) (hL.lai hw)) ?_
          refine w_val (v_is (v' := strV ([115, 116, 97, 116, 101] ++ longsL (stL d.q.L d.q.dn))) (v_strAdd rfl rfl (by simp only [lnA]; omega)) rfl) rfl ?_
          refine w_op rfl ?_
          refine g_heap (m' := [chBd (⟨s, strV (told), rv, lv, vs, G, lw⟩ : ChPd) d.q] ++ [Chunk.blk b7 70 [(.slice An ns.length kn)], Own (.slice An ns.length kn) 3 1 ns.length (intsC ns), Chunk.blk b6 22 [.slice (some ⟨gw, 0, none⟩) (wd :: ws).length K], Own (.slice (some ⟨gw, 0, none⟩) (wd :: ws).length K) 9 1 (wd :: ws).length (strC (wd :: ws)), chWd (⟨s, strV (told), rv, lv, vs, G, lw⟩ : ChPd) d.q, chKd (⟨s, strV (told), rv, lv, vs, G, lw⟩ : ChPd) d.q, chOd (⟨s, strV (told), rv, lv, vs, G, lw⟩ : ChPd) d.q, Rw rv 80 1 (d.r).length rvs, Keep rG (Deeds rvs d.r)]) (fun _ hw => hw.pick [4, 0, 1, 2, 3, 5, 6, 7, 8, 9] (by decide)) ?_; refine x_call (dst := some 152) (mc := [chBd (⟨s, strV (told), rv, lv, vs, G, lw⟩ : ChPd) d.q]) (mr := [Chunk.blk b7 70 [(.slice An ns.length kn)], Own (.slice An ns.length kn) 3 1 ns.length (intsC ns), Chunk.blk b6 22 [.slice (some ⟨gw, 0, none⟩) (wd :: ws).length K], Own (.slice (some ⟨gw, 0, none⟩) (wd :: ws).length K) 9 1 (wd :: ws).length (strC (wd :: ws)), chWd (⟨s, strV (told), rv, lv, vs, G, lw⟩ : ChPd) d.q, chKd (⟨s, strV (told), rv, lv, vs, G, lw⟩ : ChPd) d.q, chOd (⟨s, strV (told), rv, lv, vs, G, lw⟩ : ChPd) d.q, Rw rv 80 1 (d.r).length rvs, Keep rG (Deeds rvs d.r)]) (σ := Unit) (fun _ => True) (fun _ => .tuple #[]) (fun _ => [chBd (⟨s, strV ((told) ++ ((([115, 116, 97, 116, 101] ++ longsL (stL d.q.L d.q.dn))) ++ [10])), rv, lv, vs, G, lw⟩ : ChPd) d.q]) rfl rfl rfl Tryz.call29 (fun w hw => rsay_spec s (told) (([115, 116, 97, 116, 101] ++ longsL (stL d.q.L d.q.dn))) _ w (hw.mem (i := 0) rfl) (by simp only [lnA]; omega)) rfl (fun _ _ => ?_)
          refine w_nil <| e_blk ?_
          refine e_endQ (q_ret0 rfl ?_)
          exact fun w' hw' => ⟨⟨rv, rvs, rG, lv, vs, G, lw⟩, trivial, rfl, (hw'.pick [0, 5, 6, 7, 8, 9] (by decide)).res⟩
         ·have n4 := hk
          clear hk
          refine esr <| wm rfl rfl <| w_op rfl ?_
          refine x_call0 (v := .bool (decide (wd = [108, 97, 115, 116] ∧ ns.length = 0))) rfl rfl rfl Tryz.call33 rfl (fun w hw => ris_spec b6 b7 [108, 97, 115, 116] wd 0 ns.length K kn An gw (wd :: ws).length w (by simp) (by rw [blk_cell (hw.mem (i := 2) rfl)]; rfl) (own_first (hw.mem (i := 3) rfl) (by simp) rfl) (by rw [blk_cell (hw.mem (i := 0) rfl)]; rfl)) ?_
          refine wa rfl rfl <| w_nil ?_
          refine e_condD rfl (fun hk => ?_) (fun hk => ?_)
          ·rw [show askL d wd ns = some _ from by unfold askL; rw [if_neg n0, if_neg n1, if_neg n2, if_neg n3, if_neg n4, if_pos hk]]
           dsimp only [Option.getD_some]
           have h8 := hq.last8 hq.len
           have hrg := lastL_regs d.q.L d.q.dn
           have hrin := lastL_in hq.inn d.q.dn
           refine g_shape2 7 rfl fun Aw kw hlw hkw hAw => ?_
           subst hlw
           refine e_seq <| esr <| wa rfl rfl <| w_nil <| e_block ?_
           refine e_loopH (σ := Nat) [0] (.cons rfl .nil) (fun j => [(12, .int .i64 (j : Int))]) (fun j => [chBd (⟨s, strV (told ++ ((lastL d.q.L d.q.dn).take j).flatMap tellRes), rv, lv, vs, G, (.slice Aw (lastL d.q.L d.q.dn).length kw)⟩ : ChPd) d.q, Chunk.blk b7 70 [(.slice An ns.length kn)], Own (.slice An ns.length kn) 3 1 ns.length (intsC ns), Chunk.blk b6 22 [.slice (some ⟨gw, 0, none⟩) (wd :: ws).length K], Own (.slice (some ⟨gw, 0, none⟩) (wd :: ws).length K) 9 1 (wd :: ws).length (strC (wd :: ws)), chWd (⟨s, strV (told ++ ((lastL d.q.L d.q.dn).take j).flatMap tellRes), rv, lv, vs, G, (.slice Aw (lastL d.q.L d.q.dn).length kw)⟩ : ChPd) d.q, chKd (⟨s, strV (told ++ ((lastL d.q.L d.q.dn).take j).flatMap tellRes), rv, lv, vs, G, (.slice Aw (lastL d.q.L d.q.dn).length kw)⟩ : ChPd) d.q, chOd (⟨s, strV (told ++ ((lastL d.q.L d.q.dn).take j).flatMap tellRes), rv, lv, vs, G, (.slice Aw (lastL d.q.L d.q.dn).length kw)⟩ : ChPd) d.q, Rw rv 80 1 (d.r).length rvs, Keep rG (Deeds rvs d.r)]) (fun j => j ≤ (lastL d.q.L d.q.dn).length) (fun j => (lastL d.q.L d.q.dn).length - j) 0 (Nat.zero_le _) (by repeat first | exact .nil _ | refine .cons rfl ?_) (fun _ hw => by dsimp only; rw [List.take_zero, List.flatMap_nil, List.append_nil]; exact hw.pick [4, 0, 1, 2, 3, 5, 6, 7, 8, 9] (by decide)) ?_
           rintro j hj
           dsimp only at hj ⊢
           have htl : (((lastL d.q.L d.q.dn).take j).flatMap tellRes).length ≤ 120 * (lastL d.q.L d.q.dn).length := by
            have := flat_len (f := tellRes) (m := 120) (l := (lastL d.q.L d.q.dn).take j) (fun x hx => tellRes_len (hrg x (List.mem_of_mem_take hx)) (hrin x (List.mem_of_mem_take hx)).1 (hrin x (List.mem_of_mem_take hx)).2)
            rw [List.length_take] at this
            have : 120 * min j (lastL d.q.L d.q.dn).length ≤ 120 * (lastL d.q.L d.q.dn).length := Nat.mul_le_mul_left _ (Nat.min_le_right _ _)
            omega
           refine e_seq <| esr <| wm rfl rfl <| wm rfl rfl <| wn rfl rfl <| w_val (v_fieldAddrB (o := 1) uT39 rfl rfl Tryz.nz35 rfl) rfl <| w_val (v_fieldAddrB (o := 13) uT35 rfl rfl Tryz.nz33 rfl) rfl <| w_val (v_loadB 0 rfl uT33 rfl rfl (chRd_last hz)) rfl <| w_val (v_lenS uT33 rfl) rfl <| w_val (v_lss rfl rfl) rfl <| w_nil ?_
           refine e_condD rfl (fun hlt2 => ?_) (fun hlt2 => ?_)
           ·have hi2 : j < (lastL d.q.L d.q.dn).length := by omega
            have hx4 := hrg _ (List.getElem_mem hi2)
            have hxi := hrin _ (List.getElem_mem hi2)
            have hat : (lastL d.q.L d.q.dn)[j]? = some (lastL d.q.L d.q.dn)[j] := List.getElem?_eq_getElem hi2
            have hsn : ((lastL d.q.L d.q.dn).take (j + 1)).flatMap tellRes = ((lastL d.q.L d.q.dn).take j).flatMap tellRes ++ tellRes (lastL d.q.L d.q.dn)[j] := by rw [List.take_succ_eq_append_getElem hi2, List.flatMap_append, List.flatMap_cons, List.flatMap_nil, List.append_nil]
            obtain ⟨adw, rfl⟩ := hAw (by omega)
            have hcode := itoa_len hxi.1
            have hlg := longs_len hxi.2
            generalize hT : told ++ ((lastL d.q.L d.q.dn).take j).flatMap tellRes = told1 at *
            have hT1 : told1.length ≤ 90001000 := by rw [← hT, List.length_append]; omega
            generalize (lastL d.q.L d.q.dn)[j] = xx at *
            obtain ⟨c, g⟩ := xx
            dsimp only at hx4 hxi hcode hlg
            refine e_skip <| e_seq <| e_block <| esr <| wm rfl rfl <| wn rfl rfl <| w_val (v_fieldAddrB (o := 1) uT39 rfl rfl Tryz.nz35 rfl) rfl <| w_val (v_fieldAddrB (o := 13) uT35 rfl rfl Tryz.nz33 rfl) rfl <| w_val (v_loadB 0 rfl uT33 rfl rfl (chRd_last hz)) rfl <| wm rfl rfl ?_
            refine w_val (v_indexS uT33 Tryz.hi96 Tryz.cz96 rfl rfl (by first | omega | decide)) rfl ?_
            refine w_val (v_loadN uT96 rfl Tryz.hi96 (Tryz.cz96.trans (by simp [resCells, intCells, hx4])) rfl (fun w hw => own_resD (hw.mem (i := 7) rfl) hrg rfl hi2 hat)) rfl ?_
            refine w_op rfl ?_
            refine x_alloc (z := .agg #[.int .i64 0, .int .i64 0, .int .i64 0, .int .i64 0, .int .i64 0]) (by intro w; exact Tryz.zeroValue96 w) rfl (fun b13 => ?_)
            refine w_op rfl ?_
            refine x_storeA (vs := (resCells c g).toArray) 0 rfl rfl rfl Tryz.hi96 (Tryz.cz96.trans (by simp [resCells, intCells, hx4])) (by simp [Value.cells, resCells, intCells, hx4]) (one_resCells _ _) ?_
            refine w_nil <| e_draw ([.blk b13 96 (resCells c g)]) Tryz.mixed <| tk 0 rfl (v_move rfl) rfl <| tk 1 rfl (v_fieldAddrB (o := 0) uT96 rfl rfl Tryz.nz3 rfl) rfl <| tk 2 rfl (v_loadB 0 rfl uT3 rfl rfl rfl) rfl <| tk 5 rfl (v_fieldAddrB (o := 1) uT96 rfl rfl Tryz.nz94 rfl) rfl ?_
            refine tk 6 rfl (v_sliceArr uT94 (by decide) Tryz.hi2 Tryz.cz2 rfl) rfl ?_
            refine t1 3 rfl rfl ?_
            refine x_call0 (v := strV (Lib.itoa c)) rfl rfl rfl Tryz.call30 rfl (fun w hw => refNum_spec c w hxi.1 (hL.lai hw)) ?_
            refine tn ?_
            refine tk 4 rfl (v_is (v' := strV ([99, 97, 109, 101, 32] ++ Lib.itoa c)) (v_strAdd rfl rfl (by simp only [lnA]; omega)) rfl) rfl ?_
            refine t1 7 rfl rfl ?_
            refine x_call0 (v := strV (longsL g)) rfl rfl rfl Tryz.call36 rfl (fun w hw => rlongs_spec _ g w (ints_rds (hw.mem (i := 0) rfl) (res_regs c g) hx4.symm) hxi.2 (by omega) (hL.lai hw)) ?_
            refine tn ?_
            refine tk 8 rfl (v_strAdd rfl rfl (by simp only [lnA]; omega)) rfl ?_
            refine t1 9 rfl rfl ?_
            refine g_heap (m' := [chBd (⟨s, strV (told1), rv, lv, vs, G, (.slice (some adw) (lastL d.q.L d.q.dn).length kw)⟩ : ChPd) d.q] ++ [.blk b13 96 (resCells c g), Chunk.blk b7 70 [(.slice An ns.length kn)], Own (.slice An ns.length kn) 3 1 ns.length (intsC ns), Chunk.blk b6 22 [.slice (some ⟨gw, 0, none⟩) (wd :: ws).length K], Own (.slice (some ⟨gw, 0, none⟩) (wd :: ws).length K) 9 1 (wd :: ws).length (strC (wd :: ws)), chWd (⟨s, strV (told1), rv, lv, vs, G, (.slice (some adw) (lastL d.q.L d.q.dn).length kw)⟩ : ChPd) d.q, chKd (⟨s, strV (told1), rv, lv, vs, G, (.slice (some adw) (lastL d.q.L d.q.dn).length kw)⟩ : ChPd) d.q, chOd (⟨s, strV (told1), rv, lv, vs, G, (.slice (some adw) (lastL d.q.L d.q.dn).length kw)⟩ : ChPd) d.q, Rw rv 80 1 (d.r).length rvs, Keep rG (Deeds rvs d.r)]) (fun _ hw => hw.pick [1, 0, 2, 3, 4, 5, 6, 7, 8, 9, 10] (by decide)) ?_; refine x_call (dst := some 183) (mc := [chBd (⟨s, strV (told1), rv, lv, vs, G, (.slice (some adw) (lastL d.q.L d.q.dn).length kw)⟩ : ChPd) d.q]) (mr := [.blk b13 96 (resCells c g), Chunk.blk b7 70 [(.slice An ns.length kn)], Own (.slice An ns.length kn) 3 1 ns.length (intsC ns), Chunk.blk b6 22 [.slice (some ⟨gw, 0, none⟩) (wd :: ws).length K], Own (.slice (some ⟨gw, 0, none⟩) (wd :: ws).length K) 9 1 (wd :: ws).length (strC (wd :: ws)), chWd (⟨s, strV (told1), rv, lv, vs, G, (.slice (some adw) (lastL d.q.L d.q.dn).length kw)⟩ : ChPd) d.q, chKd (⟨s, strV (told1), rv, lv, vs, G, (.slice (some adw) (lastL d.q.L d.q.dn).length kw)⟩ : ChPd) d.q, chOd (⟨s, strV (told1), rv, lv, vs, G, (.slice (some adw) (lastL d.q.L d.q.dn).length kw)⟩ : ChPd) d.q, Rw rv 80 1 (d.r).length rvs, Keep rG (Deeds rvs d.r)]) (σ := Unit) (fun _ => True) (fun _ => .tuple #[]) (fun _ => [chBd (⟨s, strV ((told1) ++ (((([99, 97, 109, 101, 32] ++ Lib.itoa c) ++ longsL g)) ++ [10])), rv, lv, vs, G, (.slice (some adw) (lastL d.q.L d.q.dn).length kw)⟩ : ChPd) d.q]) rfl rfl rfl Tryz.call29 (fun w hw => rsay_spec s (told1) ((([99, 97, 109, 101, 32] ++ Lib.itoa c) ++ longsL g)) _ w (hw.mem (i := 0) rfl) (by simp only [lnA]; omega)) rfl (fun _ _ => ?_)
            refine tn <| td <| e_blk <| e_region <| wm rfl rfl ?_
            refine w_val (v_add rfl rfl (by omega)) rfl ?_
            refine wa rfl rfl <| w_nil ?_
            exact e_round (j + 1) (by omega) (by omega) (by repeat first | exact .nil _ | refine .cons rfl ?_) (fun _ hw => by dsimp only; rw [hsn, ← List.append_assoc, hT]; exact hw.pick [0, 2, 3, 4, 5, 6, 7, 8, 9, 10] (by decide))
           ·have e : j = (lastL d.q.L d.q.dn).length := by omega
            subst e
            rw [List.take_length] at htl ⊢
            refine e_exit rfl <| e_region <| wm rfl rfl <| w_op rfl ?_
            refine g_heap (m' := [chBd (⟨s, strV (told ++ (lastL d.q.L d.q.dn).flatMap tellRes), rv, lv, vs, G, (.slice Aw (lastL d.q.L d.q.dn).length kw)⟩ : ChPd) d.q] ++ [Chunk.blk b7 70 [(.slice An ns.length kn)], Own (.slice An ns.length kn) 3 1 ns.length (intsC ns), Chunk.blk b6 22 [.slice (some ⟨gw, 0, none⟩) (wd :: ws).length K], Own (.slice (some ⟨gw, 0, none⟩) (wd :: ws).length K) 9 1 (wd :: ws).length (strC (wd :: ws)), chWd (⟨s, strV (told), rv, lv, vs, G, (.slice Aw (lastL d.q.L d.q.dn).length kw)⟩ : ChPd) d.q, chKd (⟨s, strV (told), rv, lv, vs, G, (.slice Aw (lastL d.q.L d.q.dn).length kw)⟩ : ChPd) d.q, chOd (⟨s, strV (told), rv, lv, vs, G, (.slice Aw (lastL d.q.L d.q.dn).length kw)⟩ : ChPd) d.q, Rw rv 80 1 (d.r).length rvs, Keep rG (Deeds rvs d.r)]) (fun _ hw => hw.pick [0, 1, 2, 3, 4, 5, 6, 7, 8, 9] (by decide)) ?_; refine x_call (dst := some 185) (mc := [chBd (⟨s, strV (told ++ (lastL d.q.L d.q.dn).flatMap tellRes), rv, lv, vs, G, (.slice Aw (lastL d.q.L d.q.dn).length kw)⟩ : ChPd) d.q]) (mr := [Chunk.blk b7 70 [(.slice An ns.length kn)], Own (.slice An ns.length kn) 3 1 ns.length (intsC ns), Chunk.blk b6 22 [.slice (some ⟨gw, 0, none⟩) (wd :: ws).length K], Own (.slice (some ⟨gw, 0, none⟩) (wd :: ws).length K) 9 1 (wd :: ws).length (strC (wd :: ws)), chWd (⟨s, strV (told), rv, lv, vs, G, (.slice Aw (lastL d.q.L d.q.dn).length kw)⟩ : ChPd) d.q, chKd (⟨s, strV (told), rv, lv, vs, G, (.slice Aw (lastL d.q.L d.q.dn).length kw)⟩ : ChPd) d.q, chOd (⟨s, strV (told), rv, lv, vs, G, (.slice Aw (lastL d.q.L d.q.dn).length kw)⟩ : ChPd) d.q, Rw rv 80 1 (d.r).length rvs, Keep rG (Deeds rvs d.r)]) (σ := Unit) (fun _ => True) (fun _ => .tuple #[]) (fun _ => [chBd (⟨s, strV ((told ++ (lastL d.q.L d.q.dn).flatMap tellRes) ++ (([101, 110, 100]) ++ [10])), rv, lv, vs, G, (.slice Aw (lastL d.q.L d.q.dn).length kw)⟩ : ChPd) d.q]) rfl rfl rfl Tryz.call29 (fun w hw => rsay_spec s (told ++ (lastL d.q.L d.q.dn).flatMap tellRes) ([101, 110, 100]) _ w (hw.mem (i := 0) rfl) (by simp only [lnA]; omega)) rfl (fun _ _ => ?_)
            refine w_nil <| e_blk ?_
            refine e_endQ (q_ret0 rfl ?_)
            refine fun w' hw' => ⟨⟨rv, rvs, rG, lv, vs, G, (.slice Aw (lastL d.q.L d.q.dn).length kw)⟩, trivial, rfl, ?_⟩
            have := (hw'.pick [0, 5, 6, 7, 8, 9] (by decide)).res
            rw [List.append_assoc] at this
            exact this
          ·have n5 := hk
           clear hk
           refine esr <| wm rfl rfl <| w_op rfl ?_
           refine x_call0 (v := .bool (decide (wd = [116, 104, 101, 110] ∧ ns.length = 1))) rfl rfl rfl Tryz.call33 rfl (fun w hw => ris_spec b6 b7 [116, 104, 101, 110] wd 1 ns.length K kn An gw (wd :: ws).length w (by simp) (by rw [blk_cell (hw.mem (i := 2) rfl)]; rfl) (own_first (hw.mem (i := 3) rfl) (by simp) rfl) (by rw [blk_cell (hw.mem (i := 0) rfl)]; rfl)) ?_
           refine wa rfl rfl <| w_nil ?_
           refine e_condD rfl (fun hk => ?_) (fun hk => ?_)
           ·rw [show askL d wd ns = some _ from by unfold askL; rw [if_neg n0, if_neg n1, if_neg n2, if_neg n3, if_neg n4, if_neg n5, if_pos hk]]
            dsimp only [Option.getD_some]
            have hget : (intsC ns)[0]? = some (.int .i64 (ns.headD 0)) := by
             cases ns with
             | nil => simp at hk
             | cons a r => rfl
            obtain ⟨adn, rfl⟩ := hAn (by omega)
            have hcall := fun (w1 : World) (h1 : ScVd w1.cell? s lv d.q.L d.q.k vs) => chThenD_spec s lv vs d.q (ns.headD 0) w1 h1 hq
            have hz2 := thenL_len d.q.L (ns.headD 0)
            have hzi := thenL_in hq.inn (ns.headD 0)
            have hll := longs_len hzi
            unfold tellThen
            generalize thenL d.q.L (ns.headD 0) = tn at *
            obtain ⟨zz, bb⟩ := tn
            dsimp only at hcall hz2 hzi hll ⊢
            refine e_seq ?_
            refine e_cutH (σ := Nat) [0] (.cons rfl .nil) (fun b => [(14, .pointer (some ⟨b, 0, none⟩)), (15, .bool bb)]) (fun b => [.blk b 32 (intCells zz), Chunk.blk b7 70 [(.slice (some adn) ns.length kn)], Own (.slice (some adn) ns.length kn) 3 1 ns.length (intsC ns), Chunk.blk b6 22 [.slice (some ⟨gw, 0, none⟩) (wd :: ws).length K], Own (.slice (some ⟨gw, 0, none⟩) (wd :: ws).length K) 9 1 (wd :: ws).length (strC (wd :: ws)), chBd (⟨s, strV (told), rv, lv, vs, G, lw⟩ : ChPd) d.q, chWd (⟨s, strV (told), rv, lv, vs, G, lw⟩ : ChPd) d.q, chKd (⟨s, strV (told), rv, lv, vs, G, lw⟩ : ChPd) d.q, chOd (⟨s, strV (told), rv, lv, vs, G, lw⟩ : ChPd) d.q, Rw rv 80 1 (d.r).length rvs, Keep rG (Deeds rvs d.r)]) (fun _ => True) ?_ ?_
            ·refine e_draw ([Chunk.blk b7 70 [(.slice (some adn) ns.length kn)], Own (.slice (some adn) ns.length kn) 3 1 ns.length (intsC ns)]) Tryz.mixed <| tk 0 rfl (v_move rfl) rfl <| tk 1 rfl (v_nilCheck rfl) rfl <| tk 2 rfl (v_fieldAddrB (o := 1) uT39 rfl rfl Tryz.nz35 rfl) rfl <| tk 3 rfl (v_loadB 0 rfl uT70 rfl rfl rfl) rfl ?_
             refine tk 4 rfl (v_indexS uT70 Tryz.hi3 Tryz.cz3 rfl rfl (by first | omega | decide)) rfl ?_
             refine tk 5 rfl (v_loadW (j := 0) 1 rfl (by omega) hget uT3 rfl rfl) rfl ?_
             refine a_all [6, 10] (by kernel_rfl) rfl ?_
             intro i hi
             simp only [List.mem_cons, List.not_mem_nil, or_false] at hi
             rcases hi with rfl | rfl
             ·refine a_op rfl rfl ?_
              refine x_call0 (v := .tuple #[intsV zz, .bool bb]) rfl rfl rfl Tryz.call37 rfl (fun w hw => hcall w (ScVd.ofX (e0 := 39) (tv := strV told) (tl := chTd rv d.q.dn (stL d.q.L d.q.dn) lw) (G := G) (fun c hc => by simp only [scHd, List.mem_cons, List.not_mem_nil, or_false] at hc; rcases hc with rfl | rfl | rfl; (first | exact hw.mem (i := 4) rfl | exact hw.mem (i := 5) rfl); (first | exact hw.mem (i := 5) rfl | exact hw.mem (i := 6) rfl); (first | exact hw.mem (i := 6) rfl | exact hw.mem (i := 7) rfl)))) ?_
              refine tn <| tk 7 rfl (v_move rfl) rfl <| tk 8 rfl (v_extract rfl rfl) rfl <| tk 9 rfl (v_extract rfl rfl) rfl <| t1 10 rfl rfl ?_
              refine x_alloc (z := .agg #[.int .i64 0, .int .i64 0, .int .i64 0, .int .i64 0, .int .i64 0, .int .i64 0, .int .i64 0, .int .i64 0, .int .i64 0, .int .i64 0]) (by intro w; exact Tryz.zeroValue32 w) rfl (fun b14 => ?_)
              refine tn <| t1 11 rfl rfl ?_
              refine x_storeA (vs := (intCells zz).toArray) 0 rfl rfl rfl Tryz.hi32 (Tryz.cz32.trans (by simp [intCells, hz2])) (by simp [Value.cells, intCells, hz2]) (one_intCells _) ?_
              refine tn <| tk 12 rfl (v_assign rfl) rfl <| td ?_
              exact e_cutEnd b14 trivial (by repeat first | exact .nil _ | refine .cons rfl ?_) (fun _ hw => hw)
             ·refine a_op rfl rfl ?_
              refine x_alloc (z := .agg #[.int .i64 0, .int .i64 0, .int .i64 0, .int .i64 0, .int .i64 0, .int .i64 0, .int .i64 0, .int .i64 0, .int .i64 0, .int .i64 0]) (by intro w; exact Tryz.zeroValue32 w) rfl (fun b14 => ?_)
              refine tn <| t1 6 rfl rfl ?_
              refine x_call0 (v := .tuple #[intsV zz, .bool bb]) rfl rfl rfl Tryz.call37 rfl (fun w hw => hcall w (ScVd.ofX (e0 := 39) (tv := strV told) (tl := chTd rv d.q.dn (stL d.q.L d.q.dn) lw) (G := G) (fun c hc => by simp only [scHd, List.mem_cons, List.not_mem_nil, or_false] at hc; rcases hc with rfl | rfl | rfl; (first | exact hw.mem (i := 4) rfl | exact hw.mem (i := 5) rfl); (first | exact hw.mem (i := 5) rfl | exact hw.mem (i := 6) rfl); (first | exact hw.mem (i := 6) rfl | exact hw.mem (i := 7) rfl)))) ?_
              refine tn <| tk 7 rfl (v_move rfl) rfl <| tk 8 rfl (v_extract rfl rfl) rfl <| tk 9 rfl (v_extract rfl rfl) rfl <| t1 11 rfl rfl ?_
              refine x_storeA (vs := (intCells zz).toArray) 0 rfl rfl rfl Tryz.hi32 (Tryz.cz32.trans (by simp [intCells, hz2])) (by simp [Value.cells, intCells, hz2]) (one_intCells _) ?_
              refine tn <| tk 12 rfl (v_assign rfl) rfl <| td ?_
              exact e_cutEnd b14 trivial (by repeat first | exact .nil _ | refine .cons rfl ?_) (fun _ hw => hw)
            ·rintro b14 -
             cases bb with
             | false =>
              rw [if_neg (by simp), tellCode7]
              refine esr <| wm rfl rfl <| w_nil <| e_condF rfl <| e_region <| wm rfl rfl <| w_op rfl ?_
              refine x_call0 (v := strV (Lib.itoa 7)) rfl rfl rfl Tryz.call30 rfl (fun w hw => refNum_spec 7 w (by simp [In64]) (hL.lai hw)) ?_
              refine w_val (v_is (v' := strV ([110, 111, 32] ++ Lib.itoa 7)) (v_strAdd rfl rfl (by have := itoa_len (n := 7) (by simp [In64]); simp only [lnA]; omega)) rfl) rfl ?_
              refine w_op rfl ?_
              refine g_heap (m' := [chBd (⟨s, strV (told), rv, lv, vs, G, lw⟩ : ChPd) d.q] ++ [.blk b14 32 (intCells zz), Chunk.blk b7 70 [(.slice (some adn) ns.length kn)], Own (.slice (some adn) ns.length kn) 3 1 ns.length (intsC ns), Chunk.blk b6 22 [.slice (some ⟨gw, 0, none⟩) (wd :: ws).length K], Own (.slice (some ⟨gw, 0, none⟩) (wd :: ws).length K) 9 1 (wd :: ws).length (strC (wd :: ws)), chWd (⟨s, strV (told), rv, lv, vs, G, lw⟩ : ChPd) d.q, chKd (⟨s, strV (told), rv, lv, vs, G, lw⟩ : ChPd) d.q, chOd (⟨s, strV (told), rv, lv, vs, G, lw⟩ : ChPd) d.q, Rw rv 80 1 (d.r).length rvs, Keep rG (Deeds rvs d.r)]) (fun _ hw => hw.pick [5, 0, 1, 2, 3, 4, 6, 7, 8, 9, 10] (by decide)) ?_; refine x_call (dst := some 208) (mc := [chBd (⟨s, strV (told), rv, lv, vs, G, lw⟩ : ChPd) d.q]) (mr := [.blk b14 32 (intCells zz), Chunk.blk b7 70 [(.slice (some adn) ns.length kn)], Own (.slice (some adn) ns.length kn) 3 1 ns.length (intsC ns), Chunk.blk b6 22 [.slice (some ⟨gw, 0, none⟩) (wd :: ws).length K], Own (.slice (some ⟨gw, 0, none⟩) (wd :: ws).length K) 9 1 (wd :: ws).length (strC (wd :: ws)), chWd (⟨s, strV (told), rv, lv, vs, G, lw⟩ : ChPd) d.q, chKd (⟨s, strV (told), rv, lv, vs, G, lw⟩ : ChPd) d.q, chOd (⟨s, strV (told), rv, lv, vs, G, lw⟩ : ChPd) d.q, Rw rv 80 1 (d.r).length rvs, Keep rG (Deeds rvs d.r)]) (σ := Unit) (fun _ => True) (fun _ => .tuple #[]) (fun _ => [chBd (⟨s, strV ((told) ++ ((([110, 111, 32] ++ Lib.itoa 7)) ++ [10])), rv, lv, vs, G, lw⟩ : ChPd) d.q]) rfl rfl rfl Tryz.call29 (fun w hw => rsay_spec s (told) (([110, 111, 32] ++ Lib.itoa 7)) _ w (hw.mem (i := 0) rfl) (by have := itoa_len (n := 7) (by simp [In64]); simp only [lnA]; omega)) rfl (fun _ _ => ?_)
              refine w_nil <| e_blk ?_
              refine e_endQ (q_ret0 rfl ?_)
              exact fun w' hw' => ⟨⟨rv, rvs, rG, lv, vs, G, lw⟩, trivial, rfl, (hw'.pick [0, 6, 7, 8, 9, 10] (by decide)).res⟩
             | true =>
              rw [if_pos rfl]
              unfold tellState
              refine esr <| wm rfl rfl <| w_nil <| e_condT rfl <| e_region <| wm rfl rfl ?_
              refine w_val (v_sliceArr uT32 (by decide) Tryz.hi2 Tryz.cz2 rfl) rfl ?_
              refine w_op rfl ?_
              refine x_call0 (v := strV (longsL zz)) rfl rfl rfl Tryz.call36 rfl (fun w hw => rlongs_spec _ zz w (ints_rds (hw.mem (i := 0) rfl) (fun j v hj => by simpa using hj) hz2.symm) hzi (by omega) (hL.lai hw)) ?_
              refine w_val (v_is (v' := strV ([115, 116, 97, 116, 101] ++ longsL zz)) (v_strAdd rfl rfl (by simp only [lnA]; omega)) rfl) rfl ?_
              refine w_op rfl ?_
              refine g_heap (m' := [chBd (⟨s, strV (told), rv, lv, vs, G, lw⟩ : ChPd) d.q] ++ [.blk b14 32 (intCells zz), Chunk.blk b7 70 [(.slice (some adn) ns.length kn)], Own (.slice (some adn) ns.length kn) 3 1 ns.length (intsC ns), Chunk.blk b6 22 [.slice (some ⟨gw, 0, none⟩) (wd :: ws).length K], Own (.slice (some ⟨gw, 0, none⟩) (wd :: ws).length K) 9 1 (wd :: ws).length (strC (wd :: ws)), chWd (⟨s, strV (told), rv, lv, vs, G, lw⟩ : ChPd) d.q, chKd (⟨s, strV (told), rv, lv, vs, G, lw⟩ : ChPd) d.q, chOd (⟨s, strV (told), rv, lv, vs, G, lw⟩ : ChPd) d.q, Rw rv 80 1 (d.r).length rvs, Keep rG (Deeds rvs d.r)]) (fun _ hw => hw.pick [5, 0, 1, 2, 3, 4, 6, 7, 8, 9, 10] (by decide)) ?_; refine x_call (dst := some 204) (mc := [chBd (⟨s, strV (told), rv, lv, vs, G, lw⟩ : ChPd) d.q]) (mr := [.blk b14 32 (intCells zz), Chunk.blk b7 70 [(.slice (some adn) ns.length kn)], Own (.slice (some adn) ns.length kn) 3 1 ns.length (intsC ns), Chunk.blk b6 22 [.slice (some ⟨gw, 0, none⟩) (wd :: ws).length K], Own (.slice (some ⟨gw, 0, none⟩) (wd :: ws).length K) 9 1 (wd :: ws).length (strC (wd :: ws)), chWd (⟨s, strV (told), rv, lv, vs, G, lw⟩ : ChPd) d.q, chKd (⟨s, strV (told), rv, lv, vs, G, lw⟩ : ChPd) d.q, chOd (⟨s, strV (told), rv, lv, vs, G, lw⟩ : ChPd) d.q, Rw rv 80 1 (d.r).length rvs, Keep rG (Deeds rvs d.r)]) (σ := Unit) (fun _ => True) (fun _ => .tuple #[]) (fun _ => [chBd (⟨s, strV ((told) ++ ((([115, 116, 97, 116, 101] ++ longsL zz)) ++ [10])), rv, lv, vs, G, lw⟩ : ChPd) d.q]) rfl rfl rfl Tryz.call29 (fun w hw => rsay_spec s (told) (([115, 116, 97, 116, 101] ++ longsL zz)) _ w (hw.mem (i := 0) rfl) (by simp only [lnA]; omega)) rfl (fun _ _ => ?_)
              refine w_nil <| e_blk ?_
              refine e_endQ (q_ret0 rfl ?_)
              exact fun w' hw' => ⟨⟨rv, rvs, rG, lv, vs, G, lw⟩, trivial, rfl, (hw'.pick [0, 6, 7, 8, 9, 10] (by decide)).res⟩
           ·have n6 := hk
            clear hk
            refine esr <| wm rfl rfl <| w_op rfl ?_
            refine x_call0 (v := .bool (decide (wd = [114, 111, 117, 110, 100] ∧ ns.length = 1))) rfl rfl rfl Tryz.call33 rfl (fun w hw => ris_spec b6 b7 [114, 111, 117, 110, 100] wd 1 ns.length K kn An gw (wd :: ws).length w (by simp) (by rw [blk_cell (hw.mem (i := 2) rfl)]; rfl) (own_first (hw.mem (i := 3) rfl) (by simp) rfl) (by rw [blk_cell (hw.mem (i := 0) rfl)]; rfl)) ?_
            refine wa rfl rfl <| w_nil ?_
            refine e_condD rfl (fun hk => ?_) (fun hk => ?_)
            ·rw [show askL d wd ns = some _ from by unfold askL; rw [if_neg n0, if_neg n1, if_neg n2, if_neg n3, if_neg n4, if_neg n5, if_neg n6, if_pos hk]]
             dsimp only [Option.getD_some]
             have hget : (intsC ns)[0]? = some (.int .i64 (ns.headD 0)) := by
              cases ns with
              | nil => simp at hk
              | cons a r => rfl
             obtain ⟨adn, rfl⟩ := hAn (by omega)
             refine g_shapeR2 5 rfl fun Al kl hlv hkl hAl => ?_
             subst hlv
             have h25 := hq.log.len
             have j7 := itoa_len (n := 7) (by simp [In64])
             by_cases hn0 : ns.headD 0 < 0
             ·rw [show tellRound d.q.L (ns.headD 0) = tellCode 7 from by unfold tellRound; rw [if_pos (.inl hn0)], tellCode7]
              refine e_seq <| e_seq <| e_draw ([Chunk.blk b7 70 [(.slice (some adn) ns.length kn)], Own (.slice (some adn) ns.length kn) 3 1 ns.length (intsC ns), chBd (⟨s, strV (told), rv, (.slice Al d.q.L.length kl), vs, G, lw⟩ : ChPd) d.q]) Tryz.mixed <| tk 0 rfl (v_loadB 0 rfl uT70 rfl rfl rfl) rfl ?_
              refine tk 1 rfl (v_indexS uT70 Tryz.hi3 Tryz.cz3 rfl rfl (by first | omega | decide)) rfl ?_
              refine tk 2 rfl (v_loadW (j := 0) 1 rfl (by omega) hget uT3 rfl rfl) rfl ?_
              refine tk 3 rfl (v_is (v' := .bool true) (v_lss rfl rfl) (by rw [decide_eq_true hn0])) rfl ?_
              refine tk 4 rfl (v_move rfl) rfl <| tq 5 rfl rfl rfl rfl rfl <| tq 6 rfl rfl rfl rfl rfl <| tq 7 rfl rfl rfl rfl rfl <| tq 8 rfl rfl rfl rfl rfl <| tq 9 rfl rfl rfl rfl rfl <| tq 10 rfl rfl rfl rfl rfl <| tq 11 rfl rfl rfl rfl rfl <| tq 12 rfl rfl rfl rfl rfl <| tq 13 rfl rfl rfl rfl rfl <| tq 14 rfl rfl rfl rfl rfl <| tq 15 rfl rfl rfl rfl rfl <| tk 16 rfl (v_pickT rfl rfl) rfl <| td <| e_condT rfl <| esr <| wm rfl rfl <| w_op rfl ?_
              refine x_call0 (v := strV (Lib.itoa 7)) rfl rfl rfl Tryz.call30 rfl (fun w hw => refNum_spec 7 w (by simp [In64]) (hL.lai hw)) ?_
              refine w_val (v_is (v' := strV ([110, 111, 32] ++ Lib.itoa 7)) (v_strAdd rfl rfl (by simp only [lnA]; omega)) rfl) rfl ?_
              refine w_op rfl ?_
              refine g_heap (m' := [chBd (⟨s, strV (told), rv, (.slice Al d.q.L.length kl), vs, G, lw⟩ : ChPd) d.q] ++ [Chunk.blk b7 70 [(.slice (some adn) ns.length kn)], Own (.slice (some adn) ns.length kn) 3 1 ns.length (intsC ns), Chunk.blk b6 22 [.slice (some ⟨gw, 0, none⟩) (wd :: ws).length K], Own (.slice (some ⟨gw, 0, none⟩) (wd :: ws).length K) 9 1 (wd :: ws).length (strC (wd :: ws)), chWd (⟨s, strV (told), rv, (.slice Al d.q.L.length kl), vs, G, lw⟩ : ChPd) d.q, chKd (⟨s, strV (told), rv, (.slice Al d.q.L.length kl), vs, G, lw⟩ : ChPd) d.q, chOd (⟨s, strV (told), rv, (.slice Al d.q.L.length kl), vs, G, lw⟩ : ChPd) d.q, Rw rv 80 1 (d.r).length rvs, Keep rG (Deeds rvs d.r)]) (fun _ hw => hw.pick [4, 0, 1, 2, 3, 5, 6, 7, 8, 9] (by decide)) ?_; refine x_call (dst := some 232) (mc := [chBd (⟨s, strV (told), rv, (.slice Al d.q.L.length kl), vs, G, lw⟩ : ChPd) d.q]) (mr := [Chunk.blk b7 70 [(.slice (some adn) ns.length kn)], Own (.slice (some adn) ns.length kn) 3 1 ns.length (intsC ns), Chunk.blk b6 22 [.slice (some ⟨gw, 0, none⟩) (wd :: ws).length K], Own (.slice (some ⟨gw, 0, none⟩) (wd :: ws).length K) 9 1 (wd :: ws).length (strC (wd :: ws)), chWd (⟨s, strV (told), rv, (.slice Al d.q.L.length kl), vs, G, lw⟩ : ChPd) d.q, chKd (⟨s, strV (told), rv, (.slice Al d.q.L.length kl), vs, G, lw⟩ : ChPd) d.q, chOd (⟨s, strV (told), rv, (.slice Al d.q.L.length kl), vs, G, lw⟩ : ChPd) d.q, Rw rv 80 1 (d.r).length rvs, Keep rG (Deeds rvs d.r)]) (σ := Unit) (fun _ => True) (fun _ => .tuple #[]) (fun _ => [chBd (⟨s, strV ((told) ++ ((([110, 111, 32] ++ Lib.itoa 7)) ++ [10])), rv, (.slice Al d.q.L.length kl), vs, G, lw⟩ : ChPd) d.q]) rfl rfl rfl Tryz.call29 (fun w hw => rsay_spec s (told) (([110, 111, 32] ++ Lib.itoa 7)) _ w (hw.mem (i := 0) rfl) (by simp only [lnA]; omega)) rfl (fun _ _ => ?_)
              refine w_nil ?_
              refine e_retQ (q_ret0 rfl ?_)
              exact fun w' hw' => ⟨⟨rv, rvs, rG, (.slice Al d.q.L.length kl), vs, G, lw⟩, trivial, rfl, (hw'.pick [0, 5, 6, 7, 8, 9] (by decide)).res⟩
             by_cases hnl : (d.q.L.length : Int) ≤ ns.headD 0
             ·rw [show tellRound d.q.L (ns.headD 0) = tellCode 7 from by unfold tellRound; rw [if_pos (.inr hnl)], tellCode7]
              refine e_seq <| e_seq <| e_draw ([Chunk.blk b7 70 [(.slice (some adn) ns.length kn)], Own (.slice (some adn) ns.length kn) 3 1 ns.length (intsC ns), chBd (⟨s, strV (told), rv, (.slice Al d.q.L.length kl), vs, G, lw⟩ : ChPd) d.q]) Tryz.mixed <| tk 0 rfl (v_loadB 0 rfl uT70 rfl rfl rfl) rfl ?_
              refine tk 1 rfl (v_indexS uT70 Tryz.hi3 Tryz.cz3 rfl rfl (by first | omega | decide)) rfl ?_
              refine tk 2 rfl (v_loadW (j := 0) 1 rfl (by omega) hget uT3 rfl rfl) rfl ?_
              refine tk 3 rfl (v_is (v' := .bool false) (v_lss rfl rfl) (by rw [decide_eq_false hn0])) rfl ?_
              refine tk 4 rfl (v_move rfl) rfl <| tw 5 rfl rfl rfl (v_loadB 0 rfl uT70 rfl rfl rfl) rfl ?_
              refine tw 6 rfl rfl rfl (v_indexS uT70 Tryz.hi3 Tryz.cz3 rfl rfl (by first | omega | decide)) rfl ?_
              refine tw 7 rfl rfl rfl (v_loadW (j := 0) 1 rfl (by omega) hget uT3 rfl rfl) rfl ?_
              refine tw 8 rfl rfl rfl (v_move rfl) rfl <| tw 9 rfl rfl rfl (v_nilCheck rfl) rfl <| tw 10 rfl rfl rfl (v_fieldAddrB (o := 1) uT39 rfl rfl Tryz.nz35 rfl) rfl <| tw 11 rfl rfl rfl (v_fieldAddrB (o := 0) uT35 rfl rfl Tryz.nz30 rfl) rfl <| tw 12 rfl rfl rfl (v_fieldAddrB (o := 0) uT30 rfl rfl Tryz.nz28 rfl) rfl <| tw 13 rfl rfl rfl (v_loadB 2 rfl uT28 rfl rfl rfl) rfl <| tw 14 rfl rfl rfl (v_lenS uT28 rfl) rfl ?_
              refine tw 15 rfl rfl rfl (v_is (v' := .bool true) (v_geq rfl rfl) (by rw [decide_eq_true (by omega)])) rfl ?_
              refine tk 16 rfl (v_pickF rfl rfl) rfl <| td <| e_condT rfl <| esr <| wm rfl rfl <| w_op rfl ?_
              refine x_call0 (v := strV (Lib.itoa 7)) rfl rfl rfl Tryz.call30 rfl (fun w hw => refNum_spec 7 w (by simp [In64]) (hL.lai hw)) ?_
              refine w_val (v_is (v' := strV ([110, 111, 32] ++ Lib.itoa 7)) (v_strAdd rfl rfl (by simp only [lnA]; omega)) rfl) rfl ?_
              refine w_op rfl ?_
              refine g_heap (m' := [chBd (⟨s, strV (told), rv, (.slice Al d.q.L.length kl), vs, G, lw⟩ : ChPd) d.q] ++ [Chunk.blk b7 70 [(.slice (some adn) ns.length kn)], Own (.slice (some adn) ns.length kn) 3 1 ns.length (intsC ns), Chunk.blk b6 22 [.slice (some ⟨gw, 0, none⟩) (wd :: ws).length K], Own (.slice (some ⟨gw, 0, none⟩) (wd :: ws).length K) 9 1 (wd :: ws).length (strC (wd :: ws)), chWd (⟨s, strV (told), rv, (.slice Al d.q.L.length kl), vs, G, lw⟩ : ChPd) d.q, chKd (⟨s, strV (told), rv, (.slice Al d.q.L.length kl), vs, G, lw⟩ : ChPd) d.q, chOd (⟨s, strV (told), rv, (.slice Al d.q.L.length kl), vs, G, lw⟩ : ChPd) d.q, Rw rv 80 1 (d.r).length rvs, Keep rG (Deeds rvs d.r)]) (fun _ hw => hw.pick [4, 0, 1, 2, 3, 5, 6, 7, 8, 9] (by decide)) ?_; refine x_call (dst := some 232) (mc := [chBd (⟨s, strV (told), rv, (.slice Al d.q.L.length kl), vs, G, lw⟩ : ChPd) d.q]) (mr := [Chunk.blk b7 70 [(.slice (some adn) ns.length kn)], Own (.slice (some adn) ns.length kn) 3 1 ns.length (intsC ns), Chunk.blk b6 22 [.slice (some ⟨gw, 0, none⟩) (wd :: ws).length K], Own (.slice (some ⟨gw, 0, none⟩) (wd :: ws).length K) 9 1 (wd :: ws).length (strC (wd :: ws)), chWd (⟨s, strV (told), rv, (.slice Al d.q.L.length kl), vs, G, lw⟩ : ChPd) d.q, chKd (⟨s, strV (told), rv, (.slice Al d.q.L.length kl), vs, G, lw⟩ : ChPd) d.q, chOd (⟨s, strV (told), rv, (.slice Al d.q.L.length kl), vs, G, lw⟩ : ChPd) d.q, Rw rv 80 1 (d.r).length rvs, Keep rG (Deeds rvs d.r)]) (σ := Unit) (fun _ => True) (fun _ => .tuple #[]) (fun _ => [chBd (⟨s, strV ((told) ++ ((([110, 111, 32] ++ Lib.itoa 7)) ++ [10])), rv, (.slice Al d.q.L.length kl), vs, G, lw⟩ : ChPd) d.q]) rfl rfl rfl Tryz.call29 (fun w hw => rsay_spec s (told) (([110, 111, 32] ++ Lib.itoa 7)) _ w (hw.mem (i := 0) rfl) (by simp only [lnA]; omega)) rfl (fun _ _ => ?_)
              refine w_nil ?_
              refine e_retQ (q_ret0 rfl ?_)
              exact fun w' hw' => ⟨⟨rv, rvs, rG, (.slice Al d.q.L.length kl), vs, G, lw⟩, trivial, rfl, (hw'.pick [0, 5, 6, 7, 8, 9] (by decide)).res⟩
             obtain ⟨i, hie⟩ : ∃ i : Nat, ns.headD 0 = i := ⟨(ns.headD 0).toNat, by omega⟩
             rw [hie] at hget
             have hi3 : i < d.q.L.length := by omega
             have hgd : d.q.L[i] = d.q.L.getD i [] := by simp [List.getD, hi3]
             rw [show tellRound d.q.L (ns.headD 0) = (d.q.L.getD i []).flatMap tellDeed ++ tellEnd from by unfold tellRound; rw [if_neg (by omega), hie, Int.toNat_natCast]]
             have hr8 := (roundFault_ok (hq.fault hi3)).1
             have hrin := getD_inL hq.inn i
             refine g_roundsV 6 rfl hi3 hgd (fun Ar kr dvs hu hkr hAr hdv hdvs => ?_)
             generalize d.q.L.getD i [] = r at *
             obtain ⟨adl, rfl⟩ := hAl (by omega)
             have hu2 : vs[((i : Int)).toNat * 1]? = some (.slice Ar r.length kr) := by rw [Int.toNat_natCast, Nat.mul_one]; exact hu
             refine e_seq <| e_seq <| e_draw ([Chunk.blk b7 70 [(.slice (some adn) ns.length kn)], Own (.slice (some adn) ns.length kn) 3 1 ns.length (intsC ns), chBd (⟨s, strV (told), rv, (.slice (some adl) d.q.L.length kl), vs, G, lw⟩ : ChPd) d.q]) Tryz.mixed <| tk 0 rfl (v_loadB 0 rfl uT70 rfl rfl rfl) rfl ?_
             refine tk 1 rfl (v_indexS uT70 Tryz.hi3 Tryz.cz3 rfl rfl (by first | omega | decide)) rfl ?_
             refine tk 2 rfl (v_loadW (j := 0) 1 rfl (by omega) hget uT3 rfl rfl) rfl ?_
             refine tk 3 rfl (v_is (v' := .bool false) (v_lss rfl rfl) (by rw [decide_eq_false (by omega)])) rfl ?_
             refine tk 4 rfl (v_move rfl) rfl <| tw 5 rfl rfl rfl (v_loadB 0 rfl uT70 rfl rfl rfl) rfl ?_
             refine tw 6 rfl rfl rfl (v_indexS uT70 Tryz.hi3 Tryz.cz3 rfl rfl (by first | omega | decide)) rfl ?_
             refine tw 7 rfl rfl rfl (v_loadW (j := 0) 1 rfl (by omega) hget uT3 rfl rfl) rfl ?_
             refine tw 8 rfl rfl rfl (v_move rfl) rfl <| tw 9 rfl rfl rfl (v_nilCheck rfl) rfl <| tw 10 rfl rfl rfl (v_fieldAddrB (o := 1) uT39 rfl rfl Tryz.nz35 rfl) rfl <| tw 11 rfl rfl rfl (v_fieldAddrB (o := 0) uT35 rfl rfl Tryz.nz30 rfl) rfl <| tw 12 rfl rfl rfl (v_fieldAddrB (o := 0) uT30 rfl rfl Tryz.nz28 rfl) rfl <| tw 13 rfl rfl rfl (v_loadB 2 rfl uT28 rfl rfl rfl) rfl <| tw 14 rfl rfl rfl (v_lenS uT28 rfl) rfl ?_
             refine tw 15 rfl rfl rfl (v_is (v' := .bool false) (v_geq rfl rfl) (by rw [decide_eq_false (by omega)])) rfl ?_
             refine tk 16 rfl (v_pickF rfl rfl) rfl <| td <| e_condF rfl <| e_skip <| e_seq <| e_draw ([Chunk.blk b7 70 [(.slice (some adn) ns.length kn)], Own (.slice (some adn) ns.length kn) 3 1 ns.length (intsC ns), chBd (⟨s, strV (told), rv, (.slice (some adl) d.q.L.length kl), vs, G, lw⟩ : ChPd) d.q, chWd (⟨s, strV (told), rv, (.slice (some adl) d.q.L.length kl), vs, G, lw⟩ : ChPd) d.q]) Tryz.mixed <| tk 0 rfl (v_move rfl) rfl <| tk 1 rfl (v_nilCheck rfl) rfl <| tk 2 rfl (v_fieldAddrB (o := 1) uT39 rfl rfl Tryz.nz35 rfl) rfl <| tk 3 rfl (v_fieldAddrB (o := 0) uT35 rfl rfl Tryz.nz30 rfl) rfl ?_
             refine tk 4 rfl (v_fieldAddrB (o := 0) uT30 rfl rfl Tryz.nz28 rfl) rfl <| tk 5 rfl (v_loadB 2 rfl uT28 rfl rfl rfl) rfl <| tk 6 rfl (v_loadB 0 rfl uT70 rfl rfl rfl) rfl ?_
             refine tk 7 rfl (v_indexS uT70 Tryz.hi3 Tryz.cz3 rfl rfl (by first | omega | decide)) rfl ?_
             refine tk 8 rfl (v_loadW (j := 0) 1 rfl (by omega) hget uT3 rfl rfl) rfl ?_
             refine tk 9 rfl (v_indexS uT28 Tryz.hi37 Tryz.cz37 rfl rfl (by first | omega | decide)) rfl ?_
             refine tk 10 rfl (v_loadR 3 rfl (by omega) hu2 uT37 rfl rfl) rfl ?_
             refine tk 11 rfl (v_assign rfl) rfl <| td <| e_seq <| esr <| wa rfl rfl <| w_nil <| e_block ?_
             refine e_loopH (σ := Nat) [0, 16] (.cons rfl (.cons rfl .nil)) (fun j => [(17, .int .i64 (j : Int))]) (fun j => [chBd (⟨s, strV (told ++ (r.take j).flatMap tellDeed), rv, (.slice (some adl) d.q.L.length kl), vs, G, lw⟩ : ChPd) d.q, Chunk.blk b7 70 [(.slice (some adn) ns.length kn)], Own (.slice (some adn) ns.length kn) 3 1 ns.length (intsC ns), Chunk.blk b6 22 [.slice (some ⟨gw, 0, none⟩) (wd :: ws).length K], Own (.slice (some ⟨gw, 0, none⟩) (wd :: ws).length K) 9 1 (wd :: ws).length (strC (wd :: ws)), chWd (⟨s, strV (told ++ (r.take j).flatMap tellDeed), rv, (.slice (some adl) d.q.L.length kl), vs, G, lw⟩ : ChPd) d.q, Keep G (fun c => Rounds vs d.q.L c ∧ RoundV (.slice Ar r.length kr) dvs r c), chOd (⟨s, strV (told ++ (r.take j).flatMap tellDeed), rv, (.slice (some adl) d.q.L.length kl), vs, G, lw⟩ : ChPd) d.q, Rw rv 80 1 (d.r).length rvs, Keep rG (Deeds rvs d.r)]) (fun j => j ≤ r.length) (fun j => r.length - j) 0 (Nat.zero_le _) (by repeat first | exact .nil _ | refine .cons rfl ?_) (fun _ hw => by dsimp only; rw [List.take_zero, List.flatMap_nil, List.append_nil]; exact hw.pick [4, 0, 1, 2, 3, 5, 6, 7, 8, 9] (by decide)) ?_
             rintro j hj
             dsimp only at hj ⊢
             have htl : ((r.take j).flatMap tellDeed).length ≤ 1440 * r.length := by
              have := flat_len (f := tellDeed) (m := 1440) (l := r.take j) (fun x hx => tellDeed_len (hrin x (List.mem_of_mem_take hx)))
              rw [List.length_take] at this
              have : 1440 * min j r.length ≤ 1440 * r.length := Nat.mul_le_mul_left _ (Nat.min_le_right _ _)
              omega
             refine e_seq <| esr <| wm rfl rfl <| wm rfl rfl <| w_val (v_lenS uT37 rfl) rfl <| w_val (v_lss rfl rfl) rfl <| w_nil ?_
             refine e_condD rfl (fun hlt2 => ?_) (fun hlt2 => ?_)
             ·have hj' : j < r.length := by omega
              have hdin := hrin _ (List.getElem_mem hj')
              have hsn : (r.take (j + 1)).flatMap tellDeed = (r.take j).flatMap tellDeed ++ tellDeed r[j] := by rw [List.take_succ_eq_append_getElem hj', List.flatMap_append, List.flatMap_cons, List.flatMap_nil, List.append_nil]
              obtain ⟨ad, rfl⟩ := hAr (by omega)
              obtain ⟨A2, k2, hvj⟩ := hdvs j hj'
              have hdeed := fun (c : View) (hc : Rounds vs d.q.L c ∧ RoundV (.slice (some ad) r.length kr) dvs r c) => hc.2.deed hj' hvj
              generalize hT : told ++ (r.take j).flatMap tellDeed = told1 at *
              have hT1 : told1.length ≤ 90020000 := by rw [← hT, List.length_append]; omega
              generalize r[j] = dd at *
              have hps := printS_len hdin
              have hpr := fun (w1 : World) (v1 : Value) hv1 hL1 hN1 => refTextOf_spec v1 dd w1 hv1 hdin hL1 hN1
              rw [show tellDeed dd = ([100, 101, 101, 100, 32] ++ (printS dd).1) ++ [10] from rfl] at hsn
              generalize printS dd = pd at *
              obtain ⟨tx, f0, f1⟩ := pd
              dsimp only at hps hpr hsn
              refine e_skip <| e_seq <| e_block <| esr <| wm rfl rfl <| wm rfl rfl ?_
              refine w_val (v_indexS uT37 Tryz.hi80 Tryz.cz80 rfl rfl (by first | omega | decide)) rfl ?_
              refine w_val (v_loadK (v := .slice A2 dd.length k2) 6 rfl (RV.up _ _ _ _ _) (fun c hc => by obtain ⟨ad', e, h5⟩ := hc.2.cell hvj; cases e; simpa using h5) uT80 rfl rfl) rfl ?_
              refine w_op rfl ?_
              refine x_call0 (v := .tuple #[strV tx, .agg #[.int .i64 f0, .int .i64 f1]]) rfl rfl rfl Tryz.call38 rfl (fun w hw => hpr w _ (hdeed _ (keep_all (RV.up _ _ _ _ _) (hw.mem (i := 6) rfl))) (hL.lai hw) (hNm.mono hw.off)) ?_
              refine wm rfl rfl <| w_val (v_extract rfl rfl) rfl <| w_val (v_extract rfl rfl) rfl <| w_op rfl ?_
              refine x_alloc (z := .agg #[.int .i64 0, .int .i64 0]) (by intro w; exact Tryz.zeroValue42 w) rfl (fun b19 => ?_)
              refine wa rfl rfl <| w_op rfl ?_
              refine x_storeA 0 rfl rfl rfl Tryz.hi42 Tryz.cz42 rfl (by first | (simp [Value.oneCell', opCells]; done) | assumption | exact one_ints _ | exact one_resCells _ _ | exact one_slotC _) ?_
              refine wre <| wm rfl rfl <| wm rfl rfl ?_
              refine w_val (v_is (v' := strV ([100, 101, 101, 100, 32] ++ tx)) (v_strAdd rfl rfl (by simp only [lnA]; omega)) rfl) rfl ?_
              refine w_op rfl ?_
              refine g_heap (m' := [chBd (⟨s, strV (told1), rv, (.slice (some adl) d.q.L.length kl), vs, G, lw⟩ : ChPd) d.q] ++ [.blk b19 42 [.int .i64 f0, .int .i64 f1], Chunk.blk b7 70 [(.slice (some adn) ns.length kn)], Own (.slice (some adn) ns.length kn) 3 1 ns.length (intsC ns), Chunk.blk b6 22 [.slice (some ⟨gw, 0, none⟩) (wd :: ws).length K], Own (.slice (some ⟨gw, 0, none⟩) (wd :: ws).length K) 9 1 (wd :: ws).length (strC (wd :: ws)), chWd (⟨s, strV (told1), rv, (.slice (some adl) d.q.L.length kl), vs, G, lw⟩ : ChPd) d.q, Keep G (fun c => Rounds vs d.q.L c ∧ RoundV (.slice (some ad) r.length kr) dvs r c), chOd (⟨s, strV (told1), rv, (.slice (some adl) d.q.L.length kl), vs, G, lw⟩ : ChPd) d.q, Rw rv 80 1 (d.r).length rvs, Keep rG (Deeds rvs d.r)]) (fun _ hw => hw.pick [1, 0, 2, 3, 4, 5, 6, 7, 8, 9, 10] (by decide)) ?_; refine x_call (dst := some 261) (mc := [chBd (⟨s, strV (told1), rv, (.slice (some adl) d.q.L.length kl), vs, G, lw⟩ : ChPd) d.q]) (mr := [.blk b19 42 [.int .i64 f0, .int .i64 f1], Chunk.blk b7 70 [(.slice (some adn) ns.length kn)], Own (.slice (some adn) ns.length kn) 3 1 ns.length (intsC ns), Chunk.blk b6 22 [.slice (some ⟨gw, 0, none⟩) (wd :: ws).length K], Own (.slice (some ⟨gw, 0, none⟩) (wd :: ws).length K) 9 1 (wd :: ws).length (strC (wd :: ws)), chWd (⟨s, strV (told1), rv, (.slice (some adl) d.q.L.length kl), vs, G, lw⟩ : ChPd) d.q, Keep G (fun c => Rounds vs d.q.L c ∧ RoundV (.slice (some ad) r.length kr) dvs r c), chOd (⟨s, strV (told1), rv, (.slice (some adl) d.q.L.length kl), vs, G, lw⟩ : ChPd) d.q, Rw rv 80 1 (d.r).length rvs, Keep rG (Deeds rvs d.r)]) (σ := Unit) (fun _ => True) (fun _ => .tuple #[]) (fun _ => [chBd (⟨s, strV ((told1) ++ ((([100, 101, 101, 100, 32] ++ tx)) ++ [10])), rv, (.slice (some adl) d.q.L.length kl), vs, G, lw⟩ : ChPd) d.q]) rfl rfl rfl Tryz.call29 (fun w hw => rsay_spec s (told1) (([100, 101, 101, 100, 32] ++ tx)) _ w (hw.mem (i := 0) rfl) (by simp only [lnA]; omega)) rfl (fun _ _ => ?_)
              refine w_nil <| e_blk <| e_region <| wm rfl rfl ?_
              refine w_val (v_add rfl rfl (by omega)) rfl ?_
              refine wa rfl rfl <| w_nil ?_
              exact e_round (j + 1) (by omega) (by omega) (by repeat first | exact .nil _ | refine .cons rfl ?_) (fun _ hw => by dsimp only; rw [hsn, ← List.append_assoc, hT]; exact hw.pick [0, 2, 3, 4, 5, 6, 7, 8, 9, 10] (by decide))
             ·have e : j = r.length := by omega
              subst e
              rw [List.take_length] at htl ⊢
              refine e_exit rfl <| e_region <| wm rfl rfl <| w_op rfl ?_
              refine g_heap (m' := [chBd (⟨s, strV (told ++ r.flatMap tellDeed), rv, (.slice (some adl) d.q.L.length kl), vs, G, lw⟩ : ChPd) d.q] ++ [Chunk.blk b7 70 [(.slice (some adn) ns.length kn)], Own (.slice (some adn) ns.length kn) 3 1 ns.length (intsC ns), Chunk.blk b6 22 [.slice (some ⟨gw, 0, none⟩) (wd :: ws).length K], Own (.slice (some ⟨gw, 0, none⟩) (wd :: ws).length K) 9 1 (wd :: ws).length (strC (wd :: ws)), chWd (⟨s, strV (told), rv, (.slice (some adl) d.q.L.length kl), vs, G, lw⟩ : ChPd) d.q, Keep G (fun c => Rounds vs d.q.L c ∧ RoundV (.slice Ar r.length kr) dvs r c), chOd (⟨s, strV (told), rv, (.slice (some adl) d.q.L.length kl), vs, G, lw⟩ : ChPd) d.q, Rw rv 80 1 (d.r).length rvs, Keep rG (Deeds rvs d.r)]) (fun _ hw => hw.pick [0, 1, 2, 3, 4, 5, 6, 7, 8, 9] (by decide)) ?_; refine x_call (dst := some 263) (mc := [chBd (⟨s, strV (told ++ r.flatMap tellDeed), rv, (.slice (some adl) d.q.L.length kl), vs, G, lw⟩ : ChPd) d.q]) (mr := [Chunk.blk b7 70 [(.slice (some adn) ns.length kn)], Own (.slice (some adn) ns.length kn) 3 1 ns.length (intsC ns), Chunk.blk b6 22 [.slice (some ⟨gw, 0, none⟩) (wd :: ws).length K], Own (.slice (some ⟨gw, 0, none⟩) (wd :: ws).length K) 9 1 (wd :: ws).length (strC (wd :: ws)), chWd (⟨s, strV (told), rv, (.slice (some adl) d.q.L.length kl), vs, G, lw⟩ : ChPd) d.q, Keep G (fun c => Rounds vs d.q.L c ∧ RoundV (.slice Ar r.length kr) dvs r c), chOd (⟨s, strV (told), rv, (.slice (some adl) d.q.L.length kl), vs, G, lw⟩ : ChPd) d.q, Rw rv 80 1 (d.r).length rvs, Keep rG (Deeds rvs d.r)]) (σ := Unit) (fun _ => True) (fun _ => .tuple #[]) (fun _ => [chBd (⟨s, strV ((told ++ r.flatMap tellDeed) ++ (([101, 110, 100]) ++ [10])), rv, (.slice (some adl) d.q.L.length kl), vs, G, lw⟩ : ChPd) d.q]) rfl rfl rfl Tryz.call29 (fun w hw => rsay_spec s (told ++ r.flatMap tellDeed) ([101, 110, 100]) _ w (hw.mem (i := 0) rfl) (by simp only [lnA]; omega)) rfl (fun _ _ => ?_)
              refine w_nil <| e_blk ?_
              refine g_keep (q := Rounds vs d.q.L) 6 rfl (fun c hc => hc.1) ?_
              refine e_endQ (q_ret0 rfl ?_)
              refine fun w' hw' => ⟨⟨rv, rvs, rG, (.slice (some adl) d.q.L.length kl), vs, G, lw⟩, trivial, rfl, ?_⟩
              have := (hw'.pick [0, 5, 6, 7, 8, 9] (by decide)).res
              rw [List.append_assoc] at this
              exact this
            ·have n7 := hk
             clear hk
             refine esr <| wm rfl rfl <| w_op rfl ?_
             refine x_call0 (v := .bool (decide (wd = [109, 97, 110, 121] ∧ ns.length = 0))) rfl rfl rfl Tryz.call33 rfl (fun w hw => ris_spec b6 b7 [109, 97, 110, 121] wd 0 ns.length K kn An gw (wd :: ws).length w (by simp) (by rw [blk_cell (hw.mem (i := 2) rfl)]; rfl) (own_first (hw.mem (i := 3) rfl) (by simp) rfl) (by rw [blk_cell (hw.mem (i := 0) rfl)]; rfl)) ?_
             refine wa rfl rfl <| w_nil ?_
             refine e_condD rfl (fun hk => ?_) (fun hk => ?_)
             ·rw [show askL d wd ns = some _ from by unfold askL; rw [if_neg n0, if_neg n1, if_neg n2, if_neg n3, if_neg n4, if_neg n5, if_neg n6, if_neg n7, if_pos hk]]
              dsimp only [Option.getD_some]
              refine g_shapeR2 5 rfl fun Al kl hlv hkl hAl => ?_
              subst hlv
              have h25 := hq.log.len
              have hkl := hq.log.sure
              have hdk := hq.dn
              have i0 : In64 (d.q.L.length : Int) := by unfold In64; omega
              have i1 : In64 (d.q.k : Int) := by unfold In64; omega
              have i2 : In64 (d.q.dn : Int) := by unfold In64; omega
              have j0 := itoa_len i0
              have j1 := itoa_len i1
              have j2 := itoa_len i2
              unfold tellMany
              refine e_draw ([CelM s (.slice Al d.q.L.length kl) d.q.k d.q.dn]) Tryz.mixed ?_
              refine a_take 0 pan_cx (by kernel_rfl) (fun _ hw => by first | exact hw.celM 4 rfl (List.nil_sublist _) | exact hw.celM 0 rfl (List.nil_sublist _)) rfl (by kernel_rfl) (by kernel_rfl) (v_move rfl) rfl ?_
              refine a_take 1 pan_cx (by kernel_rfl) (fun _ hw => by first | exact hw.celM 4 rfl (List.nil_sublist _) | exact hw.celM 0 rfl (List.nil_sublist _)) rfl (by kernel_rfl) (by kernel_rfl) (v_move rfl) rfl ?_
              refine a_take 2 pan_cx (by kernel_rfl) (fun _ hw => by first | exact hw.celM 4 rfl (List.nil_sublist _) | exact hw.celM 0 rfl (List.nil_sublist _)) rfl (by kernel_rfl) (by kernel_rfl) (v_nilCheck rfl) rfl ?_
              refine a_take 3 pan_cx (by kernel_rfl) (fun _ hw => by first | exact hw.celM 4 rfl (List.nil_sublist _) | exact hw.celM 0 rfl (List.nil_sublist _)) rfl (by kernel_rfl) (by kernel_rfl) (v_fieldAddrB (o := 1) uT39 rfl rfl Tryz.nz35 rfl) rfl ?_
              refine a_take 4 pan_cx (by kernel_rfl) (fun _ hw => by first | exact hw.celM 4 rfl (List.nil_sublist _) | exact hw.celM 0 rfl (List.nil_sublist _)) rfl (by kernel_rfl) (by kernel_rfl) (v_fieldAddrB (o := 0) uT35 rfl rfl Tryz.nz30 rfl) rfl ?_
              refine a_take 5 pan_cx (by kernel_rfl) (fun _ hw => by first | exact hw.celM 4 rfl (List.nil_sublist _) | exact hw.celM 0 rfl (List.nil_sublist _)) rfl (by kernel_rfl) (by kernel_rfl) (v_fieldAddrB (o := 0) uT30 rfl rfl Tryz.nz28 rfl) rfl ?_
              refine a_take 6 pan_cx (by kernel_rfl) (fun _ hw => by first | exact hw.celM 4 rfl (List.nil_sublist _) | exact hw.celM 0 rfl (List.nil_sublist _)) rfl (by kernel_rfl) (by kernel_rfl) (v_celM1 0 rfl uT28 rfl rfl) rfl ?_
              refine a_take 7 pan_cx (by kernel_rfl) (fun _ hw => by first | exact hw.celM 4 rfl (List.nil_sublist _) | exact hw.celM 0 rfl (List.nil_sublist _)) rfl (by kernel_rfl) (by kernel_rfl) (v_lenS uT28 rfl) rfl ?_
              refine a_take 11 pan_cx (by kernel_rfl) (fun _ hw => by first | exact hw.celM 4 rfl (List.nil_sublist _) | exact hw.celM 0 rfl (List.nil_sublist _)) rfl (by kernel_rfl) (by kernel_rfl) (v_move rfl) rfl ?_
              refine a_take 12 pan_cx (by kernel_rfl) (fun _ hw => by first | exact hw.celM 4 rfl (List.nil_sublist _) | exact hw.celM 0 rfl (List.nil_sublist _)) rfl (by kernel_rfl) (by kernel_rfl) (v_nilCheck rfl) rfl ?_
              refine a_take 13 pan_cx (by kernel_rfl) (fun _ hw => by first | exact hw.celM 4 rfl (List.nil_sublist _) | exact hw.celM 0 rfl (List.nil_sublist _)) rfl (by kernel_rfl) (by kernel_rfl) (v_fieldAddrB (o := 1) uT39 rfl rfl Tryz.nz35 rfl) rfl ?_
              refine a_take 14 pan_cx (by kernel_rfl) (fun _ hw => by first | exact hw.celM 4 rfl (List.nil_sublist _) | exact hw.celM 0 rfl (List.nil_sublist _)) rfl (by kernel_rfl) (by kernel_rfl) (v_fieldAddrB (o := 0) uT35 rfl rfl Tryz.nz30 rfl) rfl ?_
              refine a_take 15 pan_cx (by kernel_rfl) (fun _ hw => by first | exact hw.celM 4 rfl (List.nil_sublist _) | exact hw.celM 0 rfl (List.nil_sublist _)) rfl (by kernel_rfl) (by kernel_rfl) (v_fieldAddrB (o := 1) uT30 rfl rfl Tryz.nz3 rfl) rfl ?_
              refine a_take 16 pan_cx (by kernel_rfl) (fun _ hw => by first | exact hw.celM 4 rfl (List.nil_sublist _) | exact hw.celM 0 rfl (List.nil_sublist _)) rfl (by kernel_rfl) (by kernel_rfl) (v_celM2 0 rfl uT3 rfl rfl) rfl ?_
              refine a_take 20 pan_cx (by kernel_rfl) (fun _ hw => by first | exact hw.celM 4 rfl (List.nil_sublist _) | exact hw.celM 0 rfl (List.nil_sublist _)) rfl (by kernel_rfl) (by kernel_rfl) (v_move rfl) rfl ?_
              refine a_take 21 pan_cx (by kernel_rfl) (fun _ hw => by first | exact hw.celM 4 rfl (List.nil_sublist _) | exact hw.celM 0 rfl (List.nil_sublist _)) rfl (by kernel_rfl) (by kernel_rfl) (v_nilCheck rfl) rfl ?_
              refine a_take 22 pan_cx (by kernel_rfl) (fun _ hw => by first | exact hw.celM 4 rfl (List.nil_sublist _) | exact hw.celM 0 rfl (List.nil_sublist _)) rfl (by kernel_rfl) (by kernel_rfl) (v_fieldAddrB (o := 1) uT39 rfl rfl Tryz.nz35 rfl) rfl ?_
              refine a_take 23 pan_cx (by kernel_rfl) (fun _ hw => by first | exact hw.celM 4 rfl (List.nil_sublist _) | exact hw.celM 0 rfl (List.nil_sublist _)) rfl (by kernel_rfl) (by kernel_rfl) (v_fieldAddrB (o := 2) uT35 rfl rfl Tryz.nz3 rfl) rfl ?_
              refine a_take 24 pan_cx (by kernel_rfl) (fun _ hw => by first | exact hw.celM 4 rfl (List.nil_sublist _) | exact hw.celM 0 rfl (List.nil_sublist _)) rfl (by kernel_rfl) (by kernel_rfl) (v_celM3 0 rfl uT3 rfl rfl) rfl ?_
              refine t1 8 rfl rfl ?_
              refine x_call0 (v := strV (Lib.itoa (d.q.L.length : Int))) rfl rfl rfl Tryz.call30 rfl (fun w hw => refNum_spec _ w i0 (hL.lai hw)) ?_
              refine a_and (fun _ hw => by first | exact hw.celM 4 rfl (List.nil_sublist _) | exact hw.celM 0 rfl (List.nil_sublist _)) ?_
              refine a_take 9 pan_cx (by kernel_rfl) (fun _ hw => by first | exact hw.celM 4 rfl (List.nil_sublist _) | exact hw.celM 0 rfl (List.nil_sublist _)) rfl (by kernel_rfl) (by kernel_rfl) (v_is (v' := strV ([109, 97, 110, 121, 32] ++ Lib.itoa (d.q.L.length : Int))) (v_strAdd rfl rfl (by simp only [lnA]; omega)) rfl) rfl ?_
              refine a_take 10 pan_cx (by kernel_rfl) (fun _ hw => by first | exact hw.celM 4 rfl (List.nil_sublist _) | exact hw.celM 0 rfl (List.nil_sublist _)) rfl (by kernel_rfl) (by kernel_rfl) (v_is (v' := strV (([109, 97, 110, 121, 32] ++ Lib.itoa (d.q.L.length : Int)) ++ [32])) (v_strAdd rfl rfl (by simp only [lnA]; omega)) rfl) rfl ?_
              refine t1 17 rfl rfl ?_
              refine x_call0 (v := strV (Lib.itoa (d.q.k : Int))) rfl rfl rfl Tryz.call30 rfl (fun w hw => refNum_spec _ w i1 (hL.lai hw)) ?_
              refine a_and (fun _ hw => by first | exact hw.celM 4 rfl (List.nil_sublist _) | exact hw.celM 0 rfl (List.nil_sublist _)) ?_
              refine a_take 18 pan_cx (by kernel_rfl) (fun _ hw => by first | exact hw.celM 4 rfl (List.nil_sublist _) | exact hw.celM 0 rfl (List.nil_sublist _)) rfl (by kernel_rfl) (by kernel_rfl) (v_strAdd rfl rfl (by simp only [lnA]; omega)) rfl ?_
              refine a_take 19 pan_cx (by kernel_rfl) (fun _ hw => by first | exact hw.celM 4 rfl (List.nil_sublist _) | exact hw.celM 0 rfl (List.nil_sublist _)) rfl (by kernel_rfl) (by kernel_rfl) (v_is (v' := strV (((([109, 97, 110, 121, 32] ++ Lib.itoa (d.q.L.length : Int)) ++ [32]) ++ Lib.itoa (d.q.k : Int)) ++ [32])) (v_strAdd rfl rfl (by simp only [lnA]; omega)) rfl) rfl ?_
              refine t1 25 rfl rfl ?_
              refine x_call0 (v := strV (Lib.itoa (d.q.dn : Int))) rfl rfl rfl Tryz.call30 rfl (fun w hw => refNum_spec _ w i2 (hL.lai hw)) ?_
              refine a_and (fun _ hw => by first | exact hw.celM 4 rfl (List.nil_sublist _) | exact hw.celM 0 rfl (List.nil_sublist _)) ?_
              refine a_take 26 pan_cx (by kernel_rfl) (fun _ hw => by first | exact hw.celM 4 rfl (List.nil_sublist _) | exact hw.celM 0 rfl (List.nil_sublist _)) rfl (by kernel_rfl) (by kernel_rfl) (v_strAdd rfl rfl (by simp only [lnA]; omega)) rfl ?_
              refine t1 27 rfl rfl ?_
              refine g_heap (m' := [chBd (⟨s, strV (told), rv, (.slice Al d.q.L.length kl), vs, G, lw⟩ : ChPd) d.q] ++ [Chunk.blk b7 70 [(.slice An ns.length kn)], Own (.slice An ns.length kn) 3 1 ns.length (intsC ns), Chunk.blk b6 22 [.slice (some ⟨gw, 0, none⟩) (wd :: ws).length K], Own (.slice (some ⟨gw, 0, none⟩) (wd :: ws).length K) 9 1 (wd :: ws).length (strC (wd :: ws)), chWd (⟨s, strV (told), rv, (.slice Al d.q.L.length kl), vs, G, lw⟩ : ChPd) d.q, chKd (⟨s, strV (told), rv, (.slice Al d.q.L.length kl), vs, G, lw⟩ : ChPd) d.q, chOd (⟨s, strV (told), rv, (.slice Al d.q.L.length kl), vs, G, lw⟩ : ChPd) d.q, Rw rv 80 1 (d.r).length rvs, Keep rG (Deeds rvs d.r)]) (fun _ hw => hw.pick [4, 0, 1, 2, 3, 5, 6, 7, 8, 9] (by decide)) ?_; refine x_call (dst := some 294) (mc := [chBd (⟨s, strV (told), rv, (.slice Al d.q.L.length kl), vs, G, lw⟩ : ChPd) d.q]) (mr := [Chunk.blk b7 70 [(.slice An ns.length kn)], Own (.slice An ns.length kn) 3 1 ns.length (intsC ns), Chunk.blk b6 22 [.slice (some ⟨gw, 0, none⟩) (wd :: ws).length K], Own (.slice (some ⟨gw, 0, none⟩) (wd :: ws).length K) 9 1 (wd :: ws).length (strC (wd :: ws)), chWd (⟨s, strV (told), rv, (.slice Al d.q.L.length kl), vs, G, lw⟩ : ChPd) d.q, chKd (⟨s, strV (told), rv, (.slice Al d.q.L.length kl), vs, G, lw⟩ : ChPd) d.q, chOd (⟨s, strV (told), rv, (.slice Al d.q.L.length kl), vs, G, lw⟩ : ChPd) d.q, Rw rv 80 1 (d.r).length rvs, Keep rG (Deeds rvs d.r)]) (σ := Unit) (fun _ => True) (fun _ => .tuple #[]) (fun _ => [chBd (⟨s, strV ((told) ++ ((((((([109, 97, 110, 121, 32] ++ Lib.itoa (d.q.L.length : Int)) ++ [32]) ++ Lib.itoa (d.q.k : Int)) ++ [32]) ++ Lib.itoa (d.q.dn : Int))) ++ [10])), rv, (.slice Al d.q.L.length kl), vs, G, lw⟩ : ChPd) d.q]) rfl rfl rfl Tryz.call29 (fun w hw => rsay_spec s (told) (((((([109, 97, 110, 121, 32] ++ Lib.itoa (d.q.L.length : Int)) ++ [32]) ++ Lib.itoa (d.q.k : Int)) ++ [32]) ++ Lib.itoa (d.q.dn : Int))) _ w (hw.mem (i := 0) rfl) (by simp only [lnA]; omega)) rfl (fun _ _ => ?_)
              refine a_and (fun _ hw => by first | exact hw.celM 4 rfl (List.nil_sublist _) | exact hw.celM 0 rfl (List.nil_sublist _)) ?_
              refine td <| e_blk ?_
              refine e_endQ (q_ret0 rfl ?_)
              exact fun w' hw' => ⟨⟨rv, rvs, rG, (.slice Al d.q.L.length kl), vs, G, lw⟩, trivial, rfl, (hw'.pick [0, 5, 6, 7, 8, 9] (by decide)).res⟩
             ·have n8 := hk
              clear hk
              rw [show askL d wd ns = none from by unfold askL; rw [if_neg n0, if_neg n1, if_neg n2, if_neg n3, if_neg n4, if_neg n5, if_neg n6, if_neg n7, if_neg n8]]
              dsimp only [Option.getD_none]
              refine e_region <| wm rfl rfl <| w_op rfl ?_
              refine g_heap (m' := [chBd (⟨s, strV (told), rv, lv, vs, G, lw⟩ : ChPd) d.q] ++ [Chunk.blk b7 70 [(.slice An ns.length kn)], Own (.slice An ns.length kn) 3 1 ns.length (intsC ns), Chunk.blk b6 22 [.slice (some ⟨gw, 0, none⟩) (wd :: ws).length K], Own (.slice (some ⟨gw, 0, none⟩) (wd :: ws).length K) 9 1 (wd :: ws).length (strC (wd :: ws)), chWd (⟨s, strV (told), rv, lv, vs, G, lw⟩ : ChPd) d.q, chKd (⟨s, strV (told), rv, lv, vs, G, lw⟩ : ChPd) d.q, chOd (⟨s, strV (told), rv, lv, vs, G, lw⟩ : ChPd) d.q, Rw rv 80 1 (d.r).length rvs, Keep rG (Deeds rvs d.r)]) (fun _ hw => hw.pick [4, 0, 1, 2, 3, 5, 6, 7, 8, 9] (by decide)) ?_; refine x_call (dst := some 87) (mc := [chBd (⟨s, strV (told), rv, lv, vs, G, lw⟩ : ChPd) d.q]) (mr := [Chunk.blk b7 70 [(.slice An ns.length kn)], Own (.slice An ns.length kn) 3 1 ns.length (intsC ns), Chunk.blk b6 22 [.slice (some ⟨gw, 0, none⟩) (wd :: ws).length K], Own (.slice (some ⟨gw, 0, none⟩) (wd :: ws).length K) 9 1 (wd :: ws).length (strC (wd :: ws)), chWd (⟨s, strV (told), rv, lv, vs, G, lw⟩ : ChPd) d.q, chKd (⟨s, strV (told), rv, lv, vs, G, lw⟩ : ChPd) d.q, chOd (⟨s, strV (told), rv, lv, vs, G, lw⟩ : ChPd) d.q, Rw rv 80 1 (d.r).length rvs, Keep rG (Deeds rvs d.r)]) (σ := Unit) (fun _ => True) (fun _ => .tuple #[]) (fun _ => [chBd (⟨s, strV ((told) ++ (([119, 104, 97, 116]) ++ [10])), rv, lv, vs, G, lw⟩ : ChPd) d.q]) rfl rfl rfl Tryz.call29 (fun w hw => rsay_spec s (told) ([119, 104, 97, 116]) _ w (hw.mem (i := 0) rfl) (by simp only [lnA]; omega)) rfl (fun _ _ => ?_)
              refine w_nil <| e_blk ?_
              refine e_endQ (q_ret0 rfl ?_)
              exact fun w' hw' => ⟨⟨rv, rvs, rG, lv, vs, G, lw⟩, trivial, rfl, (hw'.pick [0, 5, 6, 7, 8, 9] (by decide)).res⟩
end Go.SL
