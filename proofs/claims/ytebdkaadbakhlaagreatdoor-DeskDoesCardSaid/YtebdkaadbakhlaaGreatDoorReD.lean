/- YtebdkaadbakhlaaGreatDoor: part ReD of this seat's own texts: WHATEVER THE INPUT, the law eD returns true and leaves what was there; no condition. -/
import Derived.Test.YtebdkaadbakhlaaGreatDoorRE1
import Derived.Test.YtebdkaadbakhlaaGreatDoorP5
set_option linter.unusedVariables false
set_option linter.unusedSimpArgs false
open Go Go.Proofs Go.SL Go.RowKit
set_option maxRecDepth 100000
set_option maxHeartbeats 8000000
namespace Go.SL
abbrev kCells (k : Nat) : List Value := [.int .i64 (k : Int), .int .i64 0, .int .i64 0, .int .i64 0, .int .i64 0]
theorem refDeedOf_spec (s : List UInt8) (w : World) (hs : s.length ≤ 100000) (hL : LaidD w) (hN : NamesV w.cell?) : Calls Tryz.prog 28 #[strV s] w fun e w' => ∃ v : Value, True ∧ e = .returned (.tuple #[v, faultV (parseL s).2]) ∧ Res w [] [Own v 109 5 (parseL s).1.length (deedCells (parseL s).1)] w' := by
 have hnv := hN
 rw [← off_none w] at hN
 obtain ⟨an, kn, hn0, hn⟩ := hN.name
 obtain ⟨ac, kc, hc0, hc⟩ := hN.count
 have hwc := wordsW_count s []
 refine enter0 (N := 148) Tryz.func28 rfl rfl rfl <| esr <| wa rfl rfl <| w_op rfl ?_
 refine x_alloc (z := .agg #[.int .i64 0, .int .i64 0]) (by intro w; exact Tryz.zeroValue42 w) rfl (fun b3 => ?_)
 refine w_nil <| e_seq <| esr <| wm rfl rfl <| w_op rfl ?_
 refine x_call (dst := some 16) (mc := []) (σ := Value) (fun _ => True) (fun v => v) (fun v => [Own v 9 1 (wordsL s).length (strC (wordsL s))]) rfl rfl rfl Tryz.call31 (fun w hw => refWords_spec s w (by omega)) rfl (fun v16 _ => ?_); refine g_shape 0 rfl (fun A16 k16 hv16 _ => ?_); subst hv16
 refine w_val (v_lenS uT22 rfl) rfl ?_
 by_cases hw0 : wordsL s = []
 ·have hp : parseL s = ([], (0, 0)) := by unfold parseL; rw [if_pos hw0]
  rw [hp]
  refine w_val (v_is (v' := .bool true) (v_eql rfl rfl) (by rw [decide_eq_true (by rw [hw0]; rfl)])) rfl ?_
  refine w_nil <| e_condT rfl <| esr ?_
  refine w_val (v_build (v := faultV (0, 0)) _ rfl (by intro _; simp [Instr.build, Instr.fill, Tryz.zeroValue42, go_sem]; rfl)) rfl ?_
  refine wa rfl rfl <| w_op rfl ?_
  refine x_storeA (vs := #[.int .i64 0, .int .i64 0]) 1 rfl rfl rfl Tryz.hi42 Tryz.cz42 rfl (by simp [Value.oneCell']) ?_
  refine w_nil ?_
  refine e_retQ (q_ret2 rfl (.tmp rfl) (ResV.agg 1 rfl rfl (by rw [isAggD, uT42]; rfl) (Tryz.cz42) Tryz.hi42) ?_)
  exact fun w' hw' => ⟨.slice none 0 0, trivial, rfl, ((hw'.ownNil 109 5).pick [0] (by decide)).res⟩
 ·have hp : parseL s = parseFrom 0 [] (splitL 59 s) := by unfold parseL; rw [if_neg hw0]
  have hwl : (wordsL s).length ≠ 0 := fun h => hw0 (List.eq_nil_of_length_eq_zero h)
  refine w_val (v_is (v' := .bool false) (v_eql rfl rfl) (by rw [decide_eq_false (by omega)])) rfl ?_
  refine w_nil <| e_condF rfl <| e_skip <| esr <| w_op rfl ?_
  refine x_buildSlice _ (strC [[]]) rfl (run_buildSlice uT22 Tryz.hi9 Tryz.cz9 Tryz.zeroValue9 rfl (by kernel_rfl)) rfl (fun b20 => ?_)
  refine wa rfl rfl <| w_nil <| e_seq <| esr <| wa rfl rfl <| w_nil <| e_block <| g_sub (m' := [.blk b20 9 (strC [[]]), .blk b3 42 [.int .i64 0, .int .i64 0]]) (.cons_cons _ (.cons _ (List.Sublist.refl _))) ?_
  refine e_loopH (σ := Nat × Value) [0, 3] (.cons rfl (.cons rfl .nil)) (fun z => [(5, .int .i64 (z.1 : Int)), (4, z.2)]) (fun z => [Own z.2 9 1 (splitL 59 (s.take z.1)).length (strC (splitL 59 (s.take z.1))), .blk b3 42 [.int .i64 0, .int .i64 0]]) (fun z => z.1 ≤ s.length) (fun z => s.length - z.1) (0, .slice (some ⟨b20, 0, none⟩) 1 1) (Nat.zero_le _) (by repeat first | exact .nil _ | refine .cons rfl ?_) (fun _ hw => hw.impAt (c := Chunk.blk b20 9 (strC [[]])) (c' := Own (.slice (some ⟨b20, 0, none⟩) 1 1) 9 1 1 (strC [[]])) 0 rfl (fun b hb => by have h : (Value.slice (some ⟨b20, 0, none⟩) 1 1).ownBlock = some b := hb; simp only [Value.ownBlock, Option.some.injEq] at h; exact h.symm) (fun hb => blk_own hb rfl (by decide))) ?_
  rintro ⟨i, pv⟩ hi
  dsimp only at hi ⊢
  refine e_seq <| esr <| wm rfl rfl <| wm rfl rfl <| w_val (v_strLen uT9 rfl) rfl <| w_val (v_lss rfl rfl) rfl <| w_nil ?_
  refine e_condD rfl (fun hlt => ?_) (fun hlt => ?_)
  ·have hi' : i < s.length := by omega
   have hat : s[((i : Int)).toNat]? = some s[i] := by rw [Int.toNat_natCast]; exact List.getElem?_eq_getElem hi'
   have hcut := one_cut' hi'
   have hsc := splitL_count 59 (s.take i)
   have hsl := splitL_len 59 (s.take i)
   rw [List.length_take] at hsc hsl
   have hsn1 : s[i] = 59 → splitL 59 (s.take (i + 1)) = splitL 59 (s.take i) ++ [[]] := fun hb => by rw [List.take_succ_eq_append_getElem hi', hb]; exact split_snoc_c 59 _
   have hsn2 : s[i] ≠ 59 → ∀ Q q, splitL 59 (s.take i) = Q ++ [q] → splitL 59 (s.take (i + 1)) = Q ++ [q ++ [s[i]]] := fun hb Q q h => by rw [List.take_succ_eq_append_getElem hi']; exact split_snoc 59 hb _ Q q h
   obtain ⟨Q, q, hQ⟩ : ∃ Q q, splitL 59 (s.take i) = Q ++ [q] := by
    have hne := splitL_ne 59 (s.take i)
    exact ⟨(splitL 59 (s.take i)).dropLast, (splitL 59 (s.take i)).getLast hne, (List.dropLast_concat_getLast hne).symm⟩
   have hsn3 := fun hb => hsn2 hb Q q hQ
   have hql : q.length ≤ 100000 := by have := hsl q (by rw [hQ]; simp); omega
   rw [hQ] at hsn1 hsc ⊢
   clear hsn2 hQ hsl
   have hQl : (Q ++ [q]).length = Q.length + 1 := by simp
   have hsl1 : (Q ++ [q] ++ [([] : List UInt8)]).length = (Q ++ [q]).length + 1 := by simp
   generalize hbb : s[i] = b at *
   have e59 : decide (((b.toNat : Nat) : Int) = 59) = decide (b = 59) := decide_eq_decide.2 (byte_eq' b 59)
   refine g_shapeW 0 rfl (by rw [hQl]; omega) (fun g kp hpv _ => ?_)
   subst hpv
   refine e_skip <| e_seq <| e_block <| esr <| wm rfl rfl <| wm rfl rfl ?_
   refine w_val (v_strAt uT9 rfl rfl (by omega) hat) rfl ?_
   refine w_val (v_is (v' := .bool (decide (b = 59))) (v_eql rfl rfl) (by rw [e59])) rfl ?_
   refine w_nil ?_
   refine e_condD rfl (fun hb => ?_) (fun hb => ?_)
   ·refine e_region <| wm rfl rfl <| w_op rfl ?_
    refine x_buildSlice _ (strC [[]]) rfl (run_buildSlice uT22 Tryz.hi9 Tryz.cz9 Tryz.zeroValue9 rfl (by kernel_rfl)) rfl (fun b32 => ?_)
    refine w_op rfl ?_
    refine x_appendIS (z := .string ⟨#[]⟩) (n := (Q ++ [q]).length) (xs := strC (Q ++ [q])) (size := 1) (bytes := 16) (k := 1) (news := strC [[]]) 1 rfl rfl rfl uT22 (by kernel_rfl) rfl (by decide) (fun w hw => blk_rds (hw.hold _ (List.mem_cons_self ..)) rfl) (one_strC _) (by omega) (by simp only [maxLen]; omega) rfl (fun A4 cap4 _ => ?_)
    refine wa rfl rfl <| w_nil <| e_blk <| e_region <| wm rfl rfl ?_
    refine w_val (v_add rfl rfl (by omega)) rfl ?_
    refine wa rfl rfl <| w_nil ?_
    exact e_round ((i + 1, .slice A4 ((Q ++ [q]).length + 1) cap4)) (by dsimp only; omega) (by dsimp only; omega) (by repeat first | exact .nil _ | refine .cons rfl ?_) (fun _ hw => by dsimp only; rw [hsn1 hb, hsl1, strC_app]; exact hw.pick [1, 2] (by decide))
   ·have hld : (strC (Q ++ [q]))[0 + ((((Q ++ [q]).length : Int) - 1)).toNat * 1]? = some (strV q) := by
     rw [show (((Q ++ [q]).length : Int) - 1).toNat = Q.length from by rw [hQl]; omega, strC_app]
     rw [Nat.zero_add, Nat.mul_one, List.getElem?_append_right (by rw [strC_len]; omega), strC_len, Nat.sub_self]; rfl
    have hstr : (strC (Q ++ [q])).take (0 + ((((Q ++ [q]).length : Int) - 1)).toNat * 1) ++ (strV (q ++ [b])).cells.toList ++ (strC (Q ++ [q])).drop (0 + ((((Q ++ [q]).length : Int) - 1)).toNat * 1 + (strV (q ++ [b])).cells.size) = strC (Q ++ [q ++ [b]]) := by
     rw [show (((Q ++ [q]).length : Int) - 1).toNat = Q.length from by rw [hQl]; omega, Nat.zero_add, Nat.mul_one, strC_app, strC_app]
     have e1 : (strV (q ++ [b])).cells.toList = [strV (q ++ [b])] := rfl
     have e2 : (strV (q ++ [b])).cells.size = 1 := rfl
     rw [e1, e2, List.take_left' (strC_len Q), List.drop_of_length_le (by rw [List.length_append, strC_len]; simp [strC]), List.append_nil]
     rfl
    have hlast : (Q ++ [q ++ [b]]).length = (Q ++ [q]).length := by simp
    refine e_draw ([.blk b3 42 [.int .i64 0, .int .i64 0]]) Tryz.mixed <| tk 0 rfl (v_move rfl) rfl <| tk 1 rfl (v_move rfl) rfl <| tk 2 rfl (v_lenS uT22 rfl) rfl ?_
    refine tk 3 rfl (v_sub rfl rfl (by omega)) rfl ?_
    refine tk 4 rfl (v_indexSB uT22 Tryz.hi9 Tryz.cz9 rfl rfl (by omega)) rfl ?_
    refine tk 6 rfl (v_move rfl) rfl <| tk 7 rfl (v_move rfl) rfl <| tk 8 rfl (v_move rfl) rfl ?_
    refine tk 9 rfl (v_add rfl rfl (by omega)) rfl ?_
    refine tk 10 rfl (v_is (v' := strV [b]) (v_strCut uT9 rfl rfl rfl (by omega)) (by rw [hcut])) rfl ?_
    refine t1 5 rfl rfl <| x_val (v_loadW2 0 rfl hld uT9 rfl rfl) rfl <| tn ?_
    refine tk 11 rfl (v_strAdd rfl rfl (by simp only [lnA]; omega)) rfl ?_
    refine tk 12 rfl (v_indexSB uT22 Tryz.hi9 Tryz.cz9 rfl rfl (by omega)) rfl ?_
    refine t1 13 rfl rfl ?_
    refine x_storeW 0 rfl rfl rfl Tryz.hi9 Tryz.cz9 (by rw [strC_len]; show _ + 1 ≤ _; omega) (by intro u hu; simp only [Value.cells, List.mem_singleton] at hu; subst hu; rfl) (strC (Q ++ [q ++ [b]])) hstr ?_
    refine tn <| td <| e_blk <| e_region <| wm rfl rfl ?_
    refine w_val (v_add rfl rfl (by omega)) rfl ?_
    refine wa rfl rfl <| w_nil ?_
    exact e_round ((i + 1, .slice (some ⟨g, 0, none⟩) (Q ++ [q]).length kp)) (by dsimp only; omega) (by dsimp only; omega) (by repeat first | exact .nil _ | refine .cons rfl ?_) (fun _ hw => by dsimp only; rw [hsn3 hb, hlast]; exact hw)
  ·have e : i = s.length := by omega
   subst e
   rw [List.take_length]
   have hpl := splitL_len 59 s
   have hpc := splitL_count 59 s
   have hpn := splitL_ne 59 s
   generalize splitL 59 s = ps at *
   generalize parseL s = res at *
   have hp0 : 0 < ps.length := List.length_pos_iff.2 hpn
   refine g_shapeW 0 rfl hp0 (fun gp kp hpv _ => ?_)
   subst hpv
   refine e_exit rfl <| esr <| wa rfl rfl <| w_nil <| e_seq <| esr <| wa rfl rfl <| w_nil <| e_block ?_
   refine e_loopH (σ := Nat × Value × DeedL) [3, 4] (.cons rfl (.cons rfl .nil)) (fun x => [(7, .int .i64 (x.1 : Int)), (6, x.2.1)]) (fun x => [Own x.2.1 109 5 x.2.2.length (deedCells x.2.2), Own (.slice (some ⟨gp, 0, none⟩) ps.length kp) 9 1 ps.length (strC ps), .blk b3 42 [.int .i64 0, .int .i64 0]]) (fun x => x.1 ≤ ps.length ∧ x.2.2.length = x.1 ∧ parseFrom x.1 x.2.2 (ps.drop x.1) = res) (fun x => ps.length - x.1) (0, .slice none 0 0, []) ⟨Nat.zero_le _, rfl, hp.symm⟩ (by repeat first | exact .nil _ | refine .cons rfl ?_) (fun _ hw => hw.ownNil 109 5) ?_
   rintro ⟨i, ov, acc⟩ ⟨hi2, hal, hrel⟩
   dsimp only at hi2 hal hrel ⊢
   refine e_seq <| esr <| wm rfl rfl <| wm rfl rfl <| w_val (v_lenS uT22 rfl) rfl <| w_val (v_lss rfl rfl) rfl <| w_nil ?_
   refine e_condD rfl (fun hlt2 => ?_) (fun hlt2 => ?_)
   ·have hi' : i < ps.length := by omega
    rw [parseFrom_at hi'] at hrel
    have hpi := hpl _ (List.getElem_mem hi')
    have hcell : (strC ps)[0 + ((i : Int)).toNat * 1]? = some (strV ps[i]) := by
     rw [Int.toNat_natCast, Nat.mul_one, Nat.zero_add]; exact strC_at (List.getElem?_eq_getElem hi')
    generalize ps[i] = p at *
    have hwl : ∀ x ∈ wordsL p, x.length ≤ 4000000 := fun x h => by have := wordsW_len p [] x h; simp at this; omega
    have hwc : (wordsL p).length ≤ 100001 := by have := wordsW_count p []; unfold wordsL; omega
    have hwsp := fun (w1 : World) => refWords_spec p w1 (by omega)
    generalize wordsL p = l at *
    refine e_skip <| e_seq <| e_block <| esr <| wm rfl rfl <| wm rfl rfl ?_
    refine w_val (v_indexSB uT22 Tryz.hi9 Tryz.cz9 rfl rfl (by omega)) rfl ?_
    refine w_val (v_loadW2 1 rfl hcell uT9 rfl rfl) rfl <| w_op rfl ?_
    refine x_call (dst := some 57) (mc := []) (σ := Value) (fun _ => True) (fun v => v) (fun v => [Own v 9 1 l.length (strC l)]) rfl rfl rfl Tryz.call31 (fun w hw => hwsp w) rfl (fun v57 _ => ?_)
    refine wa rfl rfl <| wsr ?_
    refine w_val (v_build (v := opV ⟨0, 0, 0, 0, 0⟩) _ rfl (by intro _; simp [Instr.build, Instr.fill, Tryz.zeroValue109, go_sem]; rfl)) rfl ?_
    refine w_op rfl ?_
    refine x_alloc (z := .agg #[.int .i64 0, .int .i64 0, .int .i64 0, .int .i64 0, .int .i64 0]) (by intro w; exact Tryz.zeroValue109 w) rfl (fun b9 => ?_)
    refine w_op rfl ?_
    refine x_storeA 0 rfl rfl rfl Tryz.hi109 Tryz.cz109 rfl (by first | (simp [Value.oneCell', opCells]; done) | assumption | exact one_ints _ | exact one_resCells _ _ | exact one_slotC _) ?_
    refine w_nil <| e_seq <| esr <| wa rfl rfl <| w_nil <| e_block ?_
    cases l with
    | nil =>
     have hon : oneL [] = none := oneL_no (.inl (by decide))
     rw [hon] at hrel
     dsimp only at hrel
     subst hrel
     refine g_shape 1 rfl (fun A8 k8 hv8 _ => ?_)
     subst hv8
     refine e_loopK (σ := Unit) [3, 7, 8, 9] (.cons rfl (.cons rfl (.cons rfl (.cons rfl .nil)))) (fun _ => [(10, .int .i64 1)]) (fun _ => True) (fun _ => 0) () trivial (by repeat first | exact .nil _ | refine .cons rfl ?_) ?_
     rintro - -
     refine e_seq <| esr <| wm rfl rfl <| w_val (v_loadO uT22 rfl rfl (hn0)) rfl <| w_val (v_lenS uT22 rfl) rfl ?_
     refine w_val (v_is (v' := .bool true) (v_lss rfl rfl) (by rw [decide_eq_true (by omega)])) rfl ?_
     refine wm rfl rfl <| w_want rfl rfl <| wm rfl rfl <| w_want rfl rfl <| w_val (v_lenS uT22 rfl) rfl <| w_want rfl rfl ?_
     refine w_val (v_is (v' := .bool false) (v_gtr rfl rfl) (by rfl)) rfl ?_
     refine w_val (v_pickT rfl rfl) rfl <| w_nil <| e_condF rfl <| e_exit rfl <| e_seq <| e_seq <| e_region <| w_val (v_fieldAddrB (o := 0) uT109 rfl rfl Tryz.nz3 rfl) rfl <| w_val (v_loadB 0 rfl uT3 rfl rfl rfl) rfl ?_
     refine w_val (v_is (v' := .bool true) (v_eql rfl rfl) (by rfl)) rfl ?_
     refine wm rfl rfl <| w_skip rfl rfl rfl rfl <| w_skip rfl rfl rfl rfl <| w_skip rfl rfl rfl rfl <| w_skip rfl rfl rfl rfl <| w_skip rfl rfl rfl rfl <| w_skip rfl rfl rfl rfl <| w_skip rfl rfl rfl rfl <| w_skip rfl rfl rfl rfl <| w_skip rfl rfl rfl rfl <| w_val (v_pickT rfl rfl) rfl <| w_nil ?_
     refine e_condDT rfl (by omega) ?_
     refine esr <| wm rfl rfl <| w_op rfl ?_
     refine x_call0 (v := faultV (10, (i : Int))) rfl rfl rfl Tryz.call15 rfl (fun w hw => F_spec _ _ w) ?_
     refine wa rfl rfl <| w_op rfl ?_
     refine x_storeA (vs := #[.int .i64 10, .int .i64 (i : Int)]) 4 rfl rfl rfl Tryz.hi42 Tryz.cz42 rfl (by simp [Value.oneCell']) ?_
     refine w_nil ?_
     refine e_retQ (q_ret2 rfl (.tmp rfl) (ResV.agg 4 rfl rfl (by rw [isAggD, uT42]; rfl) (Tryz.cz42) Tryz.hi42) ?_)
     exact fun w' hw' => ⟨.slice none 0 0, trivial, rfl, ((hw'.ownNil 109 5).pick [0] (by decide)).res⟩
    | cons y r =>
     have hpos : 0 < (y :: r).length := by simp
     have hcy : (strC (y :: r))[0 + ((0 : Int)).toNat * 1]? = some (strV y) := rfl
     refine g_shapeW 1 rfl hpos (fun gw kw hwv _ => ?_)
     subst hwv
     refine e_loopH (σ := Nat) [3, 4, 6, 7, 8, 9] (.cons rfl (.cons rfl (.cons rfl (.cons rfl (.cons rfl (.cons rfl .nil)))))) (fun k => [(10, .int .i64 (k : Int))]) (fun k => [.blk b9 109 (kCells (kindTo y k)), Own (.slice (some ⟨gw, 0, none⟩) (y :: r).length kw) 9 1 (y :: r).length (strC (y :: r)), Own ov 109 5 acc.length (deedCells acc), Own (.slice (some ⟨gp, 0, none⟩) ps.length kp) 9 1 ps.length (strC ps), .blk b3 42 [.int .i64 0, .int .i64 0]]) (fun k => 1 ≤ k ∧ k ≤ 10) (fun k => 10 - k) 1 (by omega) (by repeat first | exact .nil _ | refine .cons rfl ?_) (fun _ hw => hw) ?_
     rintro k ⟨hk1, hk10⟩
     dsimp only
     by_cases hk : k < 10
     ·have hnm := hn (k : Int) (by omega) (by omega)
      have ent : kNames.getD ((k : Int)).toNat [] = kNames.getD k [] := by rw [Int.toNat_natCast]
      rw [ent] at hnm
      have hkt : kindTo y (k + 1) = if 0 < k ∧ kNames.getD k [] = y then k else kindTo y k := rfl
      generalize kNames.getD k [] = nm at *
      refine e_seq <| esr <| wm rfl rfl <| w_val (v_loadO uT22 rfl rfl (hn0)) rfl <| w_val (v_lenS uT22 rfl) rfl ?_
      refine w_val (v_is (v' := .bool true) (v_lss rfl rfl) (by rw [decide_eq_true (by omega)])) rfl ?_
      refine wm rfl rfl <| w_want rfl rfl <| wm rfl rfl <| w_want rfl rfl <| w_val (v_lenS uT22 rfl) rfl <| w_want rfl rfl ?_
      refine w_val (v_is (v' := .bool true) (v_gtr rfl rfl) (by rw [decide_eq_true (by simp)])) rfl ?_
      refine w_val (v_pickT rfl rfl) rfl <| w_nil <| e_condT rfl <| e_skip <| e_seq <| e_block <| e_seq ?_
      by_cases he : nm = y
      ·refine e_draw ([Own (.slice (some ⟨gw, 0, none⟩) (y :: r).length kw) 9 1 (y :: r).length (strC (y :: r))]) Tryz.mixed <| tk 0 rfl (v_loadO uT22 rfl rfl (hn0)) rfl <| tk 1 rfl (v_move rfl) rfl ?_
       refine tk 2 rfl (v_indexS uT22 Tryz.hi9 Tryz.cz9 rfl rfl (by first | omega | decide)) rfl ?_
       refine tk 3 rfl (v_loadO uT9 rfl rfl hnm) rfl <| tk 4 rfl (v_move rfl) rfl ?_
       refine tk 5 rfl (v_indexSB uT22 Tryz.hi9 Tryz.cz9 rfl rfl (by omega)) rfl ?_
       refine tk 6 rfl (v_loadW2 0 rfl hcy uT9 rfl rfl) rfl ?_
       refine tk 7 rfl (v_is (v' := .bool true) (v_strEql rfl rfl) (by rw [decide_eq_true he])) rfl ?_
       refine td <| e_condT rfl <| e_region <| wm rfl rfl <| w_val (v_fieldAddrB (o := 0) uT109 rfl rfl Tryz.nz3 rfl) rfl <| w_op rfl ?_
       refine x_store1 0 rfl rfl rfl Tryz.hi3 Tryz.cz3 rfl (by first | (simp; done) | (simp [intCells_len]; omega) | exact Nat.zero_lt_succ _) rfl ?_
       refine w_nil <| e_blk <| e_region <| wm rfl rfl ?_
       refine w_val (v_add rfl rfl (by omega)) rfl ?_
       refine wa rfl rfl <| w_nil ?_
       exact e_round (k + 1) (⟨by omega, by omega⟩) (by omega) (by repeat first | exact .nil _ | refine .cons rfl ?_) (fun _ hw => by dsimp only; rw [hkt, if_pos ⟨by omega, he⟩]; exact hw)
      ·refine e_draw ([Own (.slice (some ⟨gw, 0, none⟩) (y :: r).length kw) 9 1 (y :: r).length (strC (y :: r))]) Tryz.mixed <| tk 0 rfl (v_loadO uT22 rfl rfl (hn0)) rfl <| tk 1 rfl (v_move rfl) rfl ?_
       refine tk 2 rfl (v_indexS uT22 Tryz.hi9 Tryz.cz9 rfl rfl (by first | omega | decide)) rfl ?_
       refine tk 3 rfl (v_loadO uT9 rfl rfl hnm) rfl <| tk 4 rfl (v_move rfl) rfl ?_
       refine tk 5 rfl (v_indexSB uT22 Tryz.hi9 Tryz.cz9 rfl rfl (by omega)) rfl ?_
       refine tk 6 rfl (v_loadW2 0 rfl hcy uT9 rfl rfl) rfl ?_
       refine tk 7 rfl (v_is (v' := .bool false) (v_strEql rfl rfl) (by rw [decide_eq_false he])) rfl ?_
       refine td <| e_condF rfl <| e_skip <| e_blk <| e_region <| wm rfl rfl ?_
       refine w_val (v_add rfl rfl (by omega)) rfl ?_
       refine wa rfl rfl <| w_nil ?_
       exact e_round (k + 1) (⟨by omega, by omega⟩) (by omega) (by repeat first | exact .nil _ | refine .cons rfl ?_) (fun _ hw => by dsimp only; rw [hkt, if_neg (fun h => he h.2)]; exact hw)
     ·have e : k = 10 := by omega
      subst e
      have hko : kindTo y 10 = kindOf y := rfl
      rw [hko]
      have hk9 := kindOf_le y
      have hno : (kindOf y = 0 ∨ ((y :: r).length : Int) ≠ 1 + kCounts.getD (kindOf y) 0) → oneL (y :: r) = none := fun h => oneL_no h
      have hnu : ¬(kindOf y = 0 ∨ ((y :: r).length : Int) ≠ 1 + kCounts.getD (kindOf y) 0) → oneL (y :: r) = (numsL r).map (opOf (kindOf y)) := fun h => oneL_nums h
      have hcb := fun h => counts_bound hk9 h
      generalize kindOf y = kk at *
      refine e_seq <| esr <| wm rfl rfl <| w_val (v_loadO uT22 rfl rfl (hn0)) rfl <| w_val (v_lenS uT22 rfl) rfl ?_
      refine w_val (v_is (v' := .bool false) (v_lss rfl rfl) (by rw [decide_eq_false (by omega)])) rfl ?_
      refine wm rfl rfl <| w_skip rfl rfl rfl rfl <| w_skip rfl rfl rfl rfl <| w_skip rfl rfl rfl rfl <| w_val (v_pickF rfl rfl) rfl <| w_nil ?_
      refine e_condDF rfl (by omega) ?_
      refine e_exit rfl <| e_seq <| e_seq ?_
      by_cases hk0 : kk = 0
      ·rw [hno (.inl hk0)] at hrel
       dsimp only at hrel
       subst hrel
       refine e_region <| w_val (v_fieldAddrB (o := 0) uT109 rfl rfl Tryz.nz3 rfl) rfl <| w_val (v_loadB 0 rfl uT3 rfl rfl rfl) rfl ?_
       refine w_val (v_is (v' := .bool true) (v_eql rfl rfl) (by rw [decide_eq_true (by omega)])) rfl ?_
       refine wm rfl rfl <| w_skip rfl rfl rfl rfl <| w_skip rfl rfl rfl rfl <| w_skip rfl rfl rfl rfl <| w_skip rfl rfl rfl rfl <| w_skip rfl rfl rfl rfl <| w_skip rfl rfl rfl rfl <| w_skip rfl rfl rfl rfl <| w_skip rfl rfl rfl rfl <| w_skip rfl rfl rfl rfl <| w_val (v_pickT rfl rfl) rfl <| w_nil <| e_condT rfl <| esr <| wm rfl rfl <| w_op rfl ?_
       refine x_call0 (v := faultV (10, (i : Int))) rfl rfl rfl Tryz.call15 rfl (fun w hw => F_spec _ _ w) ?_
       refine wa rfl rfl <| w_op rfl ?_
       refine x_storeA 4 rfl rfl rfl Tryz.hi42 Tryz.cz42 rfl (by first | (simp [Value.oneCell', opCells]; done) | assumption | exact one_ints _ | exact one_resCells _ _ | exact one_slotC _) ?_
       refine w_nil ?_
       refine e_retQ (q_ret2 rfl (.tmp rfl) (ResV.agg 4 rfl rfl (by rw [isAggD, uT42]; rfl) (Tryz.cz42) Tryz.hi42) ?_)
       exact fun w' hw' => ⟨.slice none 0 0, trivial, rfl, ((hw'.ownNil 109 5).pick [0] (by decide)).res⟩
      ·obtain ⟨hc1, hc2⟩ := hcb hk0
       have hct := hc (kk : Int) (by omega) (by omega)
       have ect : kCounts.getD ((kk : Int)).toNat 0 = kCounts.getD kk 0 := by rw [Int.toNat_natCast]
       rw [ect] at hct
       have hc21 : kk = 1 → kCounts.getD kk 0 = 2 := fun h => by rw [h]; rfl
       generalize kCounts.getD kk 0 = cc at *
       by_cases hlen : ((y :: r).length : Int) ≠ 1 + cc
       ·rw [hno (.inr hlen)] at hrel
        dsimp only at hrel
        subst hrel
        refine e_region <| w_val (v_fieldAddrB (o := 0) uT109 rfl rfl Tryz.nz3 rfl) rfl <| w_val (v_loadB 0 rfl uT3 rfl rfl rfl) rfl ?_
        refine w_val (v_is (v' := .bool false) (v_eql rfl rfl) (by rw [decide_eq_false (by omega)])) rfl ?_
        refine wm rfl rfl <| w_want rfl rfl <| wm rfl rfl <| w_want rfl rfl <| w_val (v_lenS uT22 rfl) rfl <| w_want rfl rfl <| w_val (v_loadO uT70 rfl rfl (hc0)) rfl <| w_want rfl rfl <| w_val (v_fieldAddrB (o := 0) uT109 rfl rfl Tryz.nz3 rfl) rfl <| w_want rfl rfl <| w_val (v_loadB 0 rfl uT3 rfl rfl rfl) rfl <| w_want rfl rfl ?_
        refine w_val (v_indexS uT70 Tryz.hi3 Tryz.cz3 rfl rfl (by first | omega | decide)) rfl ?_
        refine w_want rfl rfl <| w_val (v_loadO uT3 rfl rfl (hct)) rfl <| w_want rfl rfl ?_
        refine w_val (v_add rfl rfl (by omega)) rfl ?_
        refine w_want rfl rfl ?_
        refine w_val (v_is (v' := .bool true) (v_neq rfl rfl) (by rw [decide_eq_true hlen])) rfl ?_
        refine w_val (v_pickF rfl rfl) rfl <| w_nil <| e_condT rfl <| esr <| wm rfl rfl <| w_op rfl ?_
        refine x_call0 (v := faultV (10, (i : Int))) rfl rfl rfl Tryz.call15 rfl (fun w hw => F_spec _ _ w) ?_
        refine wa rfl rfl <| w_op rfl ?_
        refine x_storeA 4 rfl rfl rfl Tryz.hi42 Tryz.cz42 rfl (by first | (simp [Value.oneCell', opCells]; done) | assumption | exact one_ints _ | exact one_resCells _ _ | exact one_slotC _) ?_
        refine w_nil ?_
        refine e_retQ (q_ret2 rfl (.tmp rfl) (ResV.agg 4 rfl rfl (by rw [isAggD, uT42]; rfl) (Tryz.cz42) Tryz.hi42) ?_)
        exact fun w' hw' => ⟨.slice none 0 0, trivial, rfl, ((hw'.ownNil 109 5).pick [0] (by decide)).res⟩
       ·have hone := hnu (fun h => h.elim hk0 hlen)
        rw [hone] at hrel
        refine e_region <| w_val (v_fieldAddrB (o := 0) uT109 rfl rfl Tryz.nz3 rfl) rfl <| w_val (v_loadB 0 rfl uT3 rfl rfl rfl) rfl ?_
        refine w_val (v_is (v' := .bool false) (v_eql rfl rfl) (by rw [decide_eq_false (by omega)])) rfl ?_
        refine wm rfl rfl <| w_want rfl rfl <| wm rfl rfl <| w_want rfl rfl <| w_val (v_lenS uT22 rfl) rfl <| w_want rfl rfl <| w_val (v_loadO uT70 rfl rfl (hc0)) rfl <| w_want rfl rfl <| w_val (v_fieldAddrB (o := 0) uT109 rfl rfl Tryz.nz3 rfl) rfl <| w_want rfl rfl <| w_val (v_loadB 0 rfl uT3 rfl rfl rfl) rfl <| w_want rfl rfl ?_
        refine w_val (v_indexS uT70 Tryz.hi3 Tryz.cz3 rfl rfl (by first | omega | decide)) rfl ?_
        refine w_want rfl rfl <| w_val (v_loadO uT3 rfl rfl (hct)) rfl <| w_want rfl rfl ?_
        refine w_val (v_add rfl rfl (by omega)) rfl ?_
        refine w_want rfl rfl ?_
        refine w_val (v_is (v' := .bool false) (v_neq rfl rfl) (by rw [decide_eq_false hlen])) rfl ?_
        refine w_val (v_pickF rfl rfl) rfl <| w_nil <| e_condF rfl <| e_skip <| e_seq <| esr <| wa rfl rfl <| w_nil <| e_block ?_
        have hrl : (r.length : Int) = cc := by simp at hlen; omega
        refine e_loopH (σ := Nat × List Int) [3, 4, 6, 7, 8, 9] (.cons rfl (.cons rfl (.cons rfl (.cons rfl (.cons rfl (.cons rfl .nil)))))) (fun x => [(11, .int .i64 ((x.1 : Int) + 1))]) (fun x => [.blk b9 109 (opCells (opOf kk x.2)), Own (.slice (some ⟨gw, 0, none⟩) (y :: r).length kw) 9 1 (y :: r).length (strC (y :: r)), Own ov 109 5 acc.length (deedCells acc), Own (.slice (some ⟨gp, 0, none⟩) ps.length kp) 9 1 ps.length (strC ps), .blk b3 42 [.int .i64 0, .int .i64 0]]) (fun x => x.1 ≤ r.length ∧ x.2.length = x.1 ∧ numsL (r.take x.1) = some x.2) (fun x => r.length - x.1) (0, []) ⟨Nat.zero_le _, rfl, rfl⟩ (by repeat first | exact .nil _ | refine .cons rfl ?_) (fun _ hw => by dsimp only; rw [opOf_nil]; exact hw) ?_
        rintro ⟨j, ns⟩ ⟨hj, hnl, hns⟩
        dsimp only at hj hnl hns ⊢
        refine e_seq <| esr <| wm rfl rfl <| wm rfl rfl <| w_val (v_lenS uT22 rfl) rfl <| w_val (v_lss rfl rfl) rfl <| w_nil ?_
        refine e_condD rfl (fun hlt3 => ?_) (fun hlt3 => ?_)
        ·have hj' : j < r.length := by simp at hlt3; omega
         have hce : (strC (y :: r))[0 + ((j : Int) + 1).toNat * 1]? = some (strV r[j]) := by
          rw [show ((j : Int) + 1).toNat = j + 1 from by omega, Nat.mul_one, Nat.zero_add]; exact strC_at (by rw [List.getElem?_cons_succ]; exact List.getElem?_eq_getElem hj')
         have hlong := fun (w1 : World) hL1 => refLong_spec r[j] w1 (hwl _ (List.mem_cons_of_mem _ (List.getElem_mem hj'))) hL1
         have happ := fun (v : Int) (h : longL r[j] = some v) => numsL_app (r.take j) (x := r[j]) (v := v) hns h
         rw [← List.take_succ_eq_append_getElem hj'] at happ
         have hbad := numsL_bad r hj'
         generalize r[j] = x at *
         refine e_skip <| e_seq <| e_block <| esr <| wm rfl rfl <| wm rfl rfl ?_
         refine w_val (v_indexSB uT22 Tryz.hi9 Tryz.cz9 rfl rfl (by omega)) rfl ?_
         refine w_val (v_loadW2 1 rfl hce uT9 rfl rfl) rfl <| w_op rfl ?_
         refine x_call (dst := some 107) (mc := []) (σ := Int) (fun n => ∀ v, longL x = some v → n = v) (fun n => .tuple #[.int .i64 n, .bool (longL x).isSome]) (fun _ => []) rfl rfl rfl Tryz.call32 (fun w hw => hlong w (hL.chg hw.chg)) rfl (fun n hnv => ?_)
         cases hlo : longL x with
         | none =>
          rw [hbad hlo] at hrel
          have hrel : ([], (10, (i : Int))) = res := hrel
          subst hrel
          refine wm rfl rfl <| w_val (v_extract rfl rfl) rfl <| w_val (v_extract rfl rfl) rfl <| wa rfl rfl <| wa rfl rfl <| w_nil <| e_seq <| esr <| wm rfl rfl <| w_val (v_not rfl) rfl <| w_nil <| e_condT rfl <| esr <| wm rfl rfl <| w_op rfl ?_
          refine x_call0 (v := faultV (10, (i : Int))) rfl rfl rfl Tryz.call15 rfl (fun w hw => F_spec _ _ w) ?_
          refine wa rfl rfl <| w_op rfl ?_
          refine x_storeA (vs := #[.int .i64 10, .int .i64 (i : Int)]) 4 rfl rfl rfl Tryz.hi42 Tryz.cz42 rfl (by simp [Value.oneCell']) ?_
          refine w_nil ?_
          refine e_retQ (q_ret2 rfl (.tmp rfl) (ResV.agg 4 rfl rfl (by rw [isAggD, uT42]; rfl) (Tryz.cz42) Tryz.hi42) ?_)
          exact fun w' hw' => ⟨.slice none 0 0, trivial, rfl, ((hw'.ownNil 109 5).pick [0] (by decide)).res⟩
         | some v =>
          have hv := hnv v hlo
          subst hv
          have hap := happ n hlo
          refine wm rfl rfl <| w_val (v_extract rfl rfl) rfl <| w_val (v_extract rfl rfl) rfl <| wa rfl rfl <| wa rfl rfl <| w_nil <| e_seq <| esr <| wm rfl rfl <| w_val (v_not rfl) rfl <| w_nil <| e_condF rfl <| e_skip <| e_block <| esr <| wm rfl rfl <| w_val (v_eql rfl rfl) rfl <| wa rfl rfl <| w_nil ?_
          obtain ⟨oa, ob, oc, on, hop⟩ := opOf_k (k := kk) (ns := ns)
          rw [hop]
          have h3 : j = 0 ∨ j = 1 ∧ kk = 1 ∨ j = 1 ∧ kk ≠ 1 ∨ j = 2 ∧ kk ≠ 1 := by
           by_cases hk1 : kk = 1
           ·have := hc21 hk1; omega
           ·omega
          rcases h3 with e | ⟨e, ek⟩ | ⟨e, ek⟩ | ⟨e, ek⟩
          ·obtain rfl : ns = [] := List.eq_nil_of_length_eq_zero (by omega)
           refine e_condDT rfl (by omega) ?_
           refine e_region <| wm rfl rfl <| w_val (v_fieldAddrB (o := 1) uT109 rfl rfl Tryz.nz3 rfl) rfl <| w_op rfl ?_
           refine x_store1 0 rfl rfl rfl Tryz.hi3 Tryz.cz3 rfl (by first | (simp; done) | (simp [intCells_len]; omega) | exact Nat.zero_lt_succ _) rfl ?_
           refine w_nil <| e_blk <| e_blk <| e_region <| wm rfl rfl ?_
           refine w_val (v_add rfl rfl (by omega)) rfl ?_
           refine wa rfl rfl <| w_nil ?_
           exact e_round ((j + 1, [] ++ [n])) (⟨by dsimp only; omega, by dsimp only; simp; omega, hap⟩) (by dsimp only; omega) (by repeat first | exact .nil _ | refine .cons rfl ?_) (fun _ hw => by dsimp only; rw [show ([] : List Int) ++ [n] = [n] from rfl, opOf_a, hop]; exact hw)
          ·obtain ⟨a, rfl⟩ : ∃ a, ns = [a] := List.length_eq_one_iff.1 (by omega)
           subst ek
           refine e_condDF rfl (by omega) ?_
           refine e_seq <| e_region <| wm rfl rfl ?_
           refine w_val (v_is (v' := .bool true) (v_eql rfl rfl) (by rw [decide_eq_true (by omega)])) rfl ?_
           refine wm rfl rfl <| w_want rfl rfl <| w_val (v_fieldAddrB (o := 0) uT109 rfl rfl Tryz.nz3 rfl) rfl <| w_want rfl rfl <| w_val (v_loadB 0 rfl uT3 rfl rfl rfl) rfl <| w_want rfl rfl ?_
           refine w_val (v_is (v' := .bool true) (v_eql rfl rfl) (by rfl)) rfl ?_
           refine w_val (v_pickT rfl rfl) rfl <| wa rfl rfl <| w_nil <| e_condT rfl <| e_region <| wm rfl rfl <| w_val (v_fieldAddrB (o := 4) uT109 rfl rfl Tryz.nz2 rfl) rfl <| w_op rfl ?_
           refine x_store1 0 rfl rfl rfl Tryz.hi2 Tryz.cz2 rfl (by first | (simp; done) | (simp [intCells_len]; omega) | exact Nat.zero_lt_succ _) rfl ?_
           refine w_nil <| e_blk <| e_blk <| e_region <| wm rfl rfl ?_
           refine w_val (v_add rfl rfl (by omega)) rfl ?_
           refine wa rfl rfl <| w_nil ?_
           exact e_round ((j + 1, [a] ++ [n])) (⟨by dsimp only; omega, by dsimp only; simp; omega, hap⟩) (by dsimp only; omega) (by repeat first | exact .nil _ | refine .cons rfl ?_) (fun _ hw => by dsimp only; rw [show [a] ++ [n] = [a, n] from rfl, opOf_n, hop]; exact hw)
          ·obtain ⟨a, rfl⟩ : ∃ a, ns = [a] := List.length_eq_one_iff.1 (by omega)
           refine e_condDF rfl (by omega) ?_
           refine e_seq <| e_region <| wm rfl rfl ?_
           refine w_val (v_is (v' := .bool true) (v_eql rfl rfl) (by rw [decide_eq_true (by omega)])) rfl ?_
           refine wm rfl rfl <| w_want rfl rfl <| w_val (v_fieldAddrB (o := 0) uT109 rfl rfl Tryz.nz3 rfl) rfl <| w_want rfl rfl <| w_val (v_loadB 0 rfl uT3 rfl rfl rfl) rfl <| w_want rfl rfl ?_
           refine w_val (v_is (v' := .bool false) (v_eql rfl rfl) (by rw [decide_eq_false (by omega)])) rfl ?_
           refine w_val (v_pickT rfl rfl) rfl <| wa rfl rfl <| w_nil <| e_condF rfl <| esr <| wm rfl rfl ?_
           refine w_val (v_is (v' := .bool true) (v_eql rfl rfl) (by rw [decide_eq_true (by omega)])) rfl ?_
           refine wa rfl rfl <| w_nil <| e_condT rfl <| e_region <| wm rfl rfl <| w_val (v_fieldAddrB (o := 2) uT109 rfl rfl Tryz.nz3 rfl) rfl <| w_op rfl ?_
           refine x_store1 0 rfl rfl rfl Tryz.hi3 Tryz.cz3 rfl (by first | (simp; done) | (simp [intCells_len]; omega) | exact Nat.zero_lt_succ _) rfl ?_
           refine w_nil <| e_blk <| e_blk <| e_region <| wm rfl rfl ?_
           refine w_val (v_add rfl rfl (by omega)) rfl ?_
           refine wa rfl rfl <| w_nil ?_
           exact e_round ((j + 1, [a] ++ [n])) (⟨by dsimp only; omega, by dsimp only; simp; omega, hap⟩) (by dsimp only; omega) (by repeat first | exact .nil _ | refine .cons rfl ?_) (fun _ hw => by dsimp only; rw [show [a] ++ [n] = [a, n] from rfl, opOf_b ek, hop]; exact hw)
          ·obtain ⟨a, b, rfl⟩ : ∃ a b, ns = [a, b] := by
            have h2 : ns.length = 2 := by omega
            match ns, h2 with
            | [a, b], _ => exact ⟨a, b, rfl⟩
           refine e_condDF rfl (by omega) ?_
           refine e_seq <| e_region <| wm rfl rfl ?_
           refine w_val (v_is (v' := .bool false) (v_eql rfl rfl) (by rw [decide_eq_false (by omega)])) rfl ?_
           refine wm rfl rfl <| w_skip rfl rfl rfl rfl <| w_skip rfl rfl rfl rfl <| w_skip rfl rfl rfl rfl <| w_val (v_pickF rfl rfl) rfl <| wa rfl rfl <| w_nil <| e_condF rfl <| esr <| wm rfl rfl ?_
           refine w_val (v_is (v' := .bool false) (v_eql rfl rfl) (by rw [decide_eq_false (by omega)])) rfl ?_
           refine wa rfl rfl <| w_nil <| e_condF rfl <| e_region <| wm rfl rfl <| w_val (v_fieldAddrB (o := 3) uT109 rfl rfl Tryz.nz3 rfl) rfl <| w_op rfl ?_
           refine x_store1 0 rfl rfl rfl Tryz.hi3 Tryz.cz3 rfl (by first | (simp; done) | (simp [intCells_len]; omega) | exact Nat.zero_lt_succ _) rfl ?_
           refine w_nil <| e_blk <| e_blk <| e_region <| wm rfl rfl ?_
           refine w_val (v_add rfl rfl (by omega)) rfl ?_
           refine wa rfl rfl <| w_nil ?_
           exact e_round ((j + 1, [a, b] ++ [n])) (⟨by dsimp only; omega, by dsimp only; simp; omega, hap⟩) (by dsimp only; omega) (by repeat first | exact .nil _ | refine .cons rfl ?_) (fun _ hw => by dsimp only; rw [show [a, b] ++ [n] = [a, b, n] from rfl, opOf_c ek, hop]; exact hw)
        ·have e : j = r.length := by simp at hlt3; omega
         subst e
         rw [List.take_length] at hns
         rw [hns] at hrel
         have hrel : parseFrom (i + 1) (acc ++ [opOf kk ns]) (ps.drop (i + 1)) = res := hrel
         generalize opOf kk ns = z at *
         have hsn := deedCells_snoc acc z
         have hll : (acc ++ [z]).length = acc.length + 1 := by simp
         refine e_exit rfl <| e_region <| wm rfl rfl <| w_val (v_loadBA 0 rfl uT109 rfl Tryz.hi109 Tryz.cz109 rfl) rfl <| w_op rfl ?_
         refine x_buildSlice _ (opCells z) rfl (run_buildSlice uT80 Tryz.hi109 Tryz.cz109 Tryz.zeroValue109 rfl (by kernel_rfl)) rfl (fun b138 => ?_)
         refine w_op rfl ?_
         refine x_appendIS (z := .agg #[.int .i64 0, .int .i64 0, .int .i64 0, .int .i64 0, .int .i64 0]) (n := acc.length) (xs := deedCells acc) (size := 5) (bytes := 40) (k := 1) (news := opCells z) 3 rfl rfl rfl uT80 (by kernel_rfl) rfl (by decide) (fun w hw => blk_rds (hw.hold _ (List.mem_cons_self ..)) rfl) (one_opCells z) (by omega) (by simp only [maxLen]; omega) rfl (fun A4 cap4 _ => ?_); rw [← hsn, ← hll]
         refine wa rfl rfl <| w_nil <| e_blk <| e_region <| wm rfl rfl ?_
         refine w_val (v_add rfl rfl (by omega)) rfl ?_
         refine wa rfl rfl <| w_nil ?_
         exact e_round ((i + 1, .slice A4 (acc ++ [z]).length cap4, acc ++ [z])) (⟨by dsimp only; omega, by dsimp only; omega, hrel⟩) (by dsimp only; omega) (by repeat first | exact .nil _ | refine .cons rfl ?_) (fun _ hw => hw.pick [3, 4, 5] (by decide))
   ·have e : i = ps.length := by omega
    subst e
    rw [List.drop_length] at hrel
    have hrel : (if (checkL acc).1 ≠ 0 then ([], checkL acc) else (acc, (0, 0))) = res := hrel
    subst hrel
    refine e_exit rfl <| e_seq <| esr <| wm rfl rfl ?_
    generalize hck : checkL acc = ck at *
    obtain ⟨c, at'⟩ := ck
    dsimp only
    refine w_op rfl ?_
    refine x_call0 (v := .agg #[.int .i64 c, .int .i64 at']) rfl rfl rfl Tryz.call59 rfl (fun w hw => by have := DeedFault_spec ov acc w (own_rds (hw.mem (i := 0) rfl)); rwa [hck] at this) ?_
    refine w_op rfl ?_
    refine x_alloc (z := .agg #[.int .i64 0, .int .i64 0]) (by intro w; exact Tryz.zeroValue42 w) rfl (fun b14 => ?_)
    refine w_op rfl ?_
    refine x_storeA 0 rfl rfl rfl Tryz.hi42 Tryz.cz42 rfl (by first | (simp [Value.oneCell', opCells]; done) | assumption | exact one_ints _ | exact one_resCells _ _ | exact one_slotC _) ?_
    refine wsr <| w_val (v_fieldAddrB (o := 0) uT42 rfl rfl Tryz.nz3 rfl) rfl <| w_val (v_loadB 0 rfl uT3 rfl rfl rfl) rfl <| w_val (v_neq rfl rfl) rfl <| w_nil ?_
    refine e_condD rfl (fun hne => ?_) (fun hne => ?_)
    ·rw [if_pos hne]
     refine e_seq <| e_draw ([.blk b14 42 [.int .i64 c, .int .i64 at']]) Tryz.mixed <| tk 0 rfl (v_loadBA 0 rfl uT42 rfl Tryz.hi42 Tryz.cz42 rfl) rfl <| tk 1 rfl (v_assign rfl) rfl <| t1 2 rfl rfl ?_
     refine x_storeA 3 rfl rfl rfl Tryz.hi42 Tryz.cz42 rfl (by first | (simp [Value.oneCell', opCells]; done) | assumption | exact one_ints _ | exact one_resCells _ _ | exact one_slotC _) ?_
     refine tn <| td ?_
     refine e_retQ (q_ret2 rfl (.tmp rfl) (ResV.agg 3 rfl rfl (by rw [isAggD, uT42]; rfl) (Tryz.cz42) Tryz.hi42) ?_)
     exact fun w' hw' => ⟨.slice none 0 0, trivial, rfl, ((hw'.ownNil 109 5).pick [0] (by decide)).res⟩
    ·rw [if_neg hne]
     refine e_skip <| esr <| wm rfl rfl ?_
     refine w_val (v_build (v := faultV (0, 0)) _ rfl (by intro _; simp [Instr.build, Instr.fill, Tryz.zeroValue42, go_sem]; rfl)) rfl ?_
     refine wa rfl rfl <| w_op rfl ?_
     refine x_storeA 3 rfl rfl rfl Tryz.hi42 Tryz.cz42 rfl (by first | (simp [Value.oneCell', opCells]; done) | assumption | exact one_ints _ | exact one_resCells _ _ | exact one_slotC _) ?_
     refine w_nil ?_
     refine e_retQ (q_ret2 rfl (.tmp rfl) (ResV.agg 3 rfl rfl (by rw [isAggD, uT42]; rfl) (Tryz.cz42) Tryz.hi42) ?_)
     exact fun w' hw' => ⟨ov, trivial, rfl, (hw'.pick [1] (by decide)).res⟩
end Go.SL
