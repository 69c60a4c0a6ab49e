/- YtebdkaadbakhlaaGreatDoor: part DK5 of this seat's own texts. -/
import Derived.Test.YtebdkaadbakhlaaGreatDoorDK4
import Derived.Test.YtebdkaadbakhlaaGreatDoorMM2
set_option linter.unusedVariables false
set_option linter.unusedSimpArgs false
section
open Go Go.Proofs Go.SL Go.RowKit
set_option maxRecDepth 100000
set_option maxHeartbeats 4000000
namespace Go.SL
theorem slow_spec (v : Value) (l : List (List UInt8)) (w : World) (hv : IsStrs w.cell? v l) (hs : ∀ s ∈ l, s.length ≤ 140737488355328) (hbig : l.length ≤ 9223372036854775806) :
  Calls Tryz.prog 5 #[v] w fun e w' => ∃ b : Bool, (b = false → ∀ s ∈ l, s.length ≤ 9000) ∧ e = .returned (.bool b) ∧ Res w [] [] w' := by
 rw [← off_none w] at hv
 obtain ⟨Al, kl, rfl, hkl, _, hc⟩ := id hv
 refine enter0 (N := 20) Tryz.func5 rfl rfl rfl <| esr <| wa rfl rfl <| wsr <| wa rfl rfl <| w_nil <| e_seq <| esr <| wa rfl rfl <| w_nil <| e_block ?_
 refine e_loopK (σ := Nat × Int) [0] (.cons rfl .nil) (fun z => [(4, .int .i64 (z.1 : Int)), (3, .int .i64 z.2)]) (fun z => z.1 ≤ l.length ∧ 0 ≤ z.2 ∧ z.2 ≤ 9000 ∧ z.1 ≤ 9223372036854775806 ∧ ∀ s ∈ l.take z.1, s.length ≤ 9000) (fun z => l.length - z.1) (0, 0) ⟨Nat.zero_le _, Int.le_refl _, by decide, by decide, fun s hs => by cases hs⟩ (by repeat first | exact .nil _ | refine .cons rfl ?_) ?_
 rintro ⟨i, n⟩ ⟨hi, hn0, hn, him, hall⟩
 dsimp only at hi hn0 hn him hall ⊢
 refine e_seq <| esr <| wm rfl rfl <| wm rfl rfl <| w_val (v_lenS uT22 rfl) rfl <| w_val (v_lss rfl rfl) rfl <| w_nil ?_
 refine e_condD rfl (fun hlt => ?_) (fun hlt => ?_)
 ·have hi' : i < l.length := by omega
  obtain ⟨ad, rfl, hcell⟩ := IsStrs.cell hv hi'
  have hsl := hs _ (List.getElem_mem hi')
  have htk : ∀ t, t ∈ l.take (i + 1) → t ∈ l.take i ∨ t = l[i] := fun t ht => by rw [List.take_succ_eq_append_getElem hi'] at ht; exact (List.mem_append.1 ht).imp id List.mem_singleton.1
  generalize l[i] = s at *
  refine e_skip <| e_seq <| e_block <| esr <| wm rfl rfl <| wm rfl rfl <| wm rfl rfl ?_
  refine w_val (v_indexS uT22 Tryz.hi9 Tryz.cz9 rfl rfl (by first | omega | decide)) rfl ?_
  refine w_val (v_loadO uT9 rfl rfl (hcell)) rfl <| w_val (v_strLen uT9 rfl) rfl ?_
  refine w_val (v_add rfl rfl (by omega)) rfl ?_
  refine wa rfl rfl <| wsr <| wm rfl rfl <| w_val (v_gtr rfl rfl) rfl <| w_nil ?_
  refine e_condD rfl (fun hgt => ?_) (fun hgt => ?_)
  ·refine esr <| wa rfl rfl <| w_nil ?_
   refine e_retQ (q_ret1 rfl (.tmp rfl) ?_)
   exact fun w' hw' => ⟨true, fun h => (by cases h), rfl, hw'.res.nil⟩
  ·refine e_skip <| e_blk <| e_region <| wm rfl rfl ?_
   refine w_val (v_add rfl rfl (by omega)) rfl ?_
   refine wa rfl rfl <| w_nil ?_
   exact e_round ((i + 1, n + (s.length : Int))) (⟨by dsimp only; omega, by dsimp only; omega, by dsimp only; omega, by dsimp only; omega, fun t ht => (htk t ht).elim (hall t) (fun e => by subst e; omega)⟩) (by dsimp only; omega) (by repeat first | exact .nil _ | refine .cons rfl ?_) (fun _ hw => hw)
 ·have e : i = l.length := by omega
  subst e
  rw [List.take_length] at hall
  refine e_exit rfl <| esr <| wa rfl rfl <| w_nil ?_
  refine e_retQ (q_ret1 rfl (.tmp rfl) ?_)
  exact fun w' hw' => ⟨false, fun _ => hall, rfl, hw'.res.nil⟩
end Go.SL
end
section
open Go Go.Proofs Go.SL Go.RowKit
set_option maxRecDepth 100000
set_option maxHeartbeats 4000000
namespace Go.SL
theorem dg_0 : Lib.itoa 0 = [48] := by unfold Lib.itoa; rw [if_neg (by decide), Lib.decDigits_one (by decide)]; rfl
theorem dg_1 : Lib.itoa 1 = [49] := by unfold Lib.itoa; rw [if_neg (by decide), Lib.decDigits_one (by decide)]; rfl
theorem dg_2 : Lib.itoa 2 = [50] := by unfold Lib.itoa; rw [if_neg (by decide), Lib.decDigits_one (by decide)]; rfl
theorem dg_5 : Lib.itoa 5 = [53] := by unfold Lib.itoa; rw [if_neg (by decide), Lib.decDigits_one (by decide)]; rfl
theorem dg_7 : Lib.itoa 7 = [55] := by unfold Lib.itoa; rw [if_neg (by decide), Lib.decDigits_one (by decide)]; rfl
abbrev dg1 : DeedL := [⟨1, 0, 0, 0, 5⟩, ⟨7, 2, 0, 0, 0⟩]
abbrev dg2 : DeedL := [⟨2, 0, 2, 0, 0⟩]
abbrev dgr : RoundL := [dg1, dg2]
theorem dg_in1 : ∀ o ∈ dg1, OpIn o := by
 intro o ho
 simp only [List.mem_cons, List.not_mem_nil, or_false] at ho
 rcases ho with rfl | rfl <;> exact ⟨by simp [In64], by simp [In64], by simp [In64], by simp [In64], by simp [In64]⟩
theorem dg_in2 : ∀ o ∈ dg2, OpIn o := by
 intro o ho
 simp only [List.mem_singleton] at ho
 subst ho
 exact ⟨by simp [In64], by simp [In64], by simp [In64], by simp [In64], by simp [In64]⟩
theorem dg_print1 : printL dg1 = [110, 117, 109, 32, 48, 32, 53, 59, 32, 115, 116, 111, 114, 101, 32, 50, 32, 48] := by
 have h1 : opText ⟨1, 0, 0, 0, 5⟩ = [110, 117, 109] ++ (32 :: Lib.itoa 0 ++ (32 :: Lib.itoa 5 ++ [])) := rfl
 have h2 : opText ⟨7, 2, 0, 0, 0⟩ = [115, 116, 111, 114, 101] ++ (32 :: Lib.itoa 2 ++ (32 :: Lib.itoa 0 ++ [])) := rfl
 unfold printL
 rw [List.map_cons, List.map_cons, List.map_nil, h1, h2, dg_0, dg_2, dg_5]
 rfl
theorem dg_print2 : printL dg2 = [108, 111, 97, 100, 32, 48, 32, 50] := by
 have h1 : opText ⟨2, 0, 2, 0, 0⟩ = [108, 111, 97, 100] ++ (32 :: Lib.itoa 0 ++ (32 :: Lib.itoa 2 ++ [])) := rfl
 unfold printL
 rw [List.map_cons, List.map_nil, h1, dg_0, dg_2]
 rfl
theorem dg_parse1 : parseL [110, 117, 109, 32, 48, 32, 53, 59, 32, 115, 116, 111, 114, 101, 32, 50, 32, 48] = (dg1, (0, 0)) := by rw [← dg_print1]; exact parse_print (by decide) dg_in1
theorem dg_parse2 : parseL [108, 111, 97, 100, 32, 48, 32, 50] = (dg2, (0, 0)) := by rw [← dg_print2]; exact parse_print (by decide) dg_in2
theorem dg_put : putL [] dgr = ([dgr], 0, 0) := by
 have h0 : ¬ roundFaultL dgr ≠ 0 := by decide +kernel
 have h : ¬ ((([] : List RoundL).length = 25) ∨ 4000 < (bytesOf []).length + (encL dgr).length) := by decide +kernel
 rw [putL_ok h0 h]; rfl
abbrev dq (k dn : Nat) : QL := ⟨[dgr], k, dn⟩
theorem dg_t0 : tellCode 0 = [111, 107, 10] := rfl
theorem dg_t7 : tellCode 7 = [110, 111, 32, 55, 10] := by unfold tellCode; rw [if_pos (by decide), dg_7]; rfl
theorem dg_last : lastL [dgr] 1 = [(0, [5, 0, 0, 0]), (0, [5, 0, 0, 0])] := by decide +kernel
theorem dg_res : tellRes (0, [5, 0, 0, 0]) = [99, 97, 109, 101, 32, 48, 32, 53, 32, 48, 32, 48, 32, 48, 10] := by
 have e : longsL [5, 0, 0, 0] = 32 :: Lib.itoa 5 ++ (32 :: Lib.itoa 0 ++ (32 :: Lib.itoa 0 ++ (32 :: Lib.itoa 0 ++ []))) := rfl
 unfold tellRes
 dsimp only
 rw [e, dg_0, dg_5]
 rfl
theorem dg_1l : lineL dk0 [100, 101, 101, 100, 32, 110, 117, 109, 32, 48, 32, 53, 59, 32, 115, 116, 111, 114, 101, 32, 50, 32, 48] = (⟨⟨[], 0, 0⟩, [dg1]⟩, []) := by
 unfold lineL
 rw [if_pos (by decide)]
 unfold deedL
 rw [show List.drop 5 ([100, 101, 101, 100, 32, 110, 117, 109, 32, 48, 32, 53, 59, 32, 115, 116, 111, 114, 101, 32, 50, 32, 48] : List UInt8) = [110, 117, 109, 32, 48, 32, 53, 59, 32, 115, 116, 111, 114, 101, 32, 50, 32, 48] from rfl, dg_parse1, if_neg (by decide)]
 rfl
theorem dg_2l : lineL ⟨⟨[], 0, 0⟩, [dg1]⟩ [100, 101, 101, 100, 32, 108, 111, 97, 100, 32, 48, 32, 50] = (⟨⟨[], 0, 0⟩, dgr⟩, []) := by
 unfold lineL
 rw [if_pos (by decide)]
 unfold deedL
 rw [show List.drop 5 ([100, 101, 101, 100, 32, 108, 111, 97, 100, 32, 48, 32, 50] : List UInt8) = [108, 111, 97, 100, 32, 48, 32, 50] from rfl, dg_parse2, if_neg (by decide)]
 rfl
theorem dg_3l : lineL ⟨⟨[], 0, 0⟩, dgr⟩ [112, 117, 116] = (⟨dq 0 0, []⟩, [111, 107, 10]) := by
 have hq : doQ ⟨[], 0, 0⟩ ⟨1, 0, dgr, []⟩ = (dq 0 0, 0) := by unfold doQ; rw [if_pos rfl, dg_put]
 unfold lineL
 rw [if_neg (by decide), show wordsL [112, 117, 116] = [[112, 117, 116]] from by decide, wordsD_some (n := []) rfl]
 unfold askL
 rw [if_pos ⟨rfl, rfl⟩, Option.getD_some, hq, dg_t0]
theorem dg_4l : lineL ⟨dq 0 0, []⟩ [114, 117, 110] = (⟨dq 0 0, []⟩, [110, 111, 32, 55, 10]) := by
 unfold lineL
 rw [if_neg (by decide), show wordsL [114, 117, 110] = [[114, 117, 110]] from by decide, wordsD_some (n := []) rfl]
 unfold askL
 rw [if_neg (by decide), if_neg (by decide), if_pos rfl, Option.getD_some, show doQ (dq 0 0) ⟨3, 0, [], []⟩ = (dq 0 0, 7) from rfl, dg_t7]
theorem dg_5l : lineL ⟨dq 0 0, []⟩ [115, 121, 110, 99] = (⟨dq 1 0, []⟩, [111, 107, 10]) := by
 unfold lineL
 rw [if_neg (by decide), show wordsL [115, 121, 110, 99] = [[115, 121, 110, 99]] from by decide, wordsD_some (n := []) rfl]
 unfold askL
 rw [if_neg (by decide), if_pos ⟨rfl, rfl⟩, Option.getD_some, show doQ (dq 0 0) ⟨2, 0, [], []⟩ = (dq 1 0, 0) from rfl, dg_t0]
theorem dg_long1 : longL [49] = some 1 := by rw [← dg_1]; exact long_itoa (by simp [In64])
theorem dg_6l : lineL ⟨dq 1 0, []⟩ [114, 117, 110, 32, 49, 32, 49] = (⟨dq 1 1, []⟩, [111, 107, 10]) := by
 have hn : numsL [[49], [49]] = some [1, 1] := by unfold numsL numsL numsL; rw [dg_long1]
 unfold lineL
 rw [if_neg (by decide), show wordsL [114, 117, 110, 32, 49, 32, 49] = [[114, 117, 110], [49], [49]] from by decide, wordsD_some hn]
 unfold askL
 rw [if_neg (by decide), if_neg (by decide), if_pos rfl, Option.getD_some, show doQ (dq 1 0) ⟨3, 0, [], [1, 1]⟩ = (dq 1 1, 0) from rfl, dg_t0]
theorem dg_7l : lineL ⟨dq 1 1, []⟩ [108, 97, 115, 116] = (⟨dq 1 1, []⟩, [99, 97, 109, 101, 32, 48, 32, 53, 32, 48, 32, 48, 32, 48, 10, 99, 97, 109, 101, 32, 48, 32, 53, 32, 48, 32, 48, 32, 48, 10, 101, 110, 100, 10]) := by
 unfold lineL
 rw [if_neg (by decide), show wordsL [108, 97, 115, 116] = [[108, 97, 115, 116]] from by decide, wordsD_some (n := []) rfl]
 unfold askL
 rw [if_neg (by decide), if_neg (by decide), if_neg (by decide), if_neg (by decide), if_neg (by decide), if_pos ⟨rfl, rfl⟩, Option.getD_some, dg_last, List.flatMap_cons, List.flatMap_cons, List.flatMap_nil, dg_res]
 rfl
theorem dg_8l : lineL ⟨dq 1 1, []⟩ [109, 97, 110, 121] = (⟨dq 1 1, []⟩, [109, 97, 110, 121, 32, 49, 32, 49, 32, 49, 10]) := by
 unfold lineL
 rw [if_neg (by decide), show wordsL [109, 97, 110, 121] = [[109, 97, 110, 121]] from by decide, wordsD_some (n := []) rfl]
 unfold askL
 rw [if_neg (by decide), if_neg (by decide), if_neg (by decide), if_neg (by decide), if_neg (by decide), if_neg (by decide), if_neg (by decide), if_neg (by decide), if_pos ⟨rfl, rfl⟩, Option.getD_some]
 unfold tellMany
 rw [show Lib.itoa (([dgr].length : Nat) : Int) = [49] from dg_1, show Lib.itoa ((1 : Nat) : Int) = [49] from dg_1]
 rfl
theorem dg_9l : lineL ⟨dq 1 1, []⟩ [120] = (⟨dq 1 1, []⟩, [119, 104, 97, 116, 10]) := by
 unfold lineL
 rw [if_neg (by decide), show wordsL [120] = [[120]] from by decide, wordsD_some (n := []) rfl]
 unfold askL
 rw [if_neg (by decide), if_neg (by decide), if_neg (by decide), if_neg (by decide), if_neg (by decide), if_neg (by decide), if_neg (by decide), if_neg (by decide), if_neg (by decide), Option.getD_none]
 rfl
abbrev dgL : List (List UInt8) := [[100, 101, 101, 100, 32, 110, 117, 109, 32, 48, 32, 53, 59, 32, 115, 116, 111, 114, 101, 32, 50, 32, 48], [100, 101, 101, 100, 32, 108, 111, 97, 100, 32, 48, 32, 50], [112, 117, 116], [114, 117, 110], [115, 121, 110, 99], [114, 117, 110, 32, 49, 32, 49], [108, 97, 115, 116], [109, 97, 110, 121], [120]]
theorem dg_all : doLs dk0 dgL = (⟨dq 1 1, []⟩, [111, 107, 10, 110, 111, 32, 55, 10, 111, 107, 10, 111, 107, 10, 99, 97, 109, 101, 32, 48, 32, 53, 32, 48, 32, 48, 32, 48, 10, 99, 97, 109, 101, 32, 48, 32, 53, 32, 48, 32, 48, 32, 48, 10, 101, 110, 100, 10, 109, 97, 110, 121, 32, 49, 32, 49, 32, 49, 10, 119, 104, 97, 116, 10], (0, 0)) := by
 unfold doLs
 rw [if_neg (by decide)]
 simp only [linesL, dg_1l, dg_2l, dg_3l, dg_4l, dg_5l, dg_6l, dg_7l, dg_8l, dg_9l]
 rfl
theorem deskBegun_spec (w : World) (hL : LF w (feet [])) : Calls Tryz.prog 4 #[] w fun e w' => e = .returned (.bool true) ∧ Res w [] [] w' := by
 have hdo := fun (p : Nat) (x : DkS) (v : Value) (w1 : World) h1 h2 (h3 : IsStrs (SL.off w1 (feet (dkI p x dk0))) v dgL) h4 => dkDo_spec p x dk0 v dgL 0 w1 h1 h2 h3 dk0_ok (by decide) h4 (by decide) (by decide)
 rw [dg_all] at hdo
 refine enter0 (N := 16) Tryz.func4 rfl rfl rfl <| esr <| wa rfl rfl <| wsr <| w_op rfl ?_
 refine x_call (dst := some 4) (mc := []) (σ := Nat × DkS) (fun _ => True) (fun z => .pointer (some ⟨z.1, 0, none⟩)) (fun z => dkI z.1 z.2 dk0) rfl rfl rfl Tryz.call6 (fun w _ => dkNew_spec w) rfl (fun z _ => ?_); obtain ⟨p, x⟩ := z; dsimp only
 refine w_op rfl ?_
 refine x_buildSlice _ (strC dgL) rfl (run_buildSlice uT22 Tryz.hi9 Tryz.cz9 Tryz.zeroValue9 rfl (by kernel_rfl)) rfl (fun b5 => ?_)
 refine w_op rfl ?_
 refine g_heap (m' := dkI p x dk0 ++ [Chunk.blk b5 9 (strC dgL)]) (fun _ hw => hw.pick [1, 2, 3, 4, 5, 6, 7, 8, 0] (by decide)) ?_; refine x_call (dst := some 6) (mc := dkI p x dk0) (mr := [Chunk.blk b5 9 (strC dgL)]) (σ := DkS) (fun x' => x'.y.p = x.y.p) (fun _ => .tuple #[strV [111, 107, 10, 110, 111, 32, 55, 10, 111, 107, 10, 111, 107, 10, 99, 97, 109, 101, 32, 48, 32, 53, 32, 48, 32, 48, 32, 48, 10, 99, 97, 109, 101, 32, 48, 32, 53, 32, 48, 32, 48, 32, 48, 10, 101, 110, 100, 10, 109, 97, 110, 121, 32, 49, 32, 49, 32, 49, 10, 119, 104, 97, 116, 10], .agg #[.int .i64 0, .int .i64 0]]) (fun x' => dkI p x' ⟨dq 1 1, []⟩) rfl rfl rfl Tryz.call7 (fun w hw => hdo p x (.slice (some ⟨b5, 0, none⟩) 9 9) w (res_part hw).1 (res_part hw).2 (Rds.mono hw.apart (blk_rds (hw.partR (Chunk.blk b5 9 (strC dgL)) (by simp)) rfl)) (hL.part hw)) rfl (fun x' _ => ?_)
 refine wm rfl rfl <| w_val (v_extract rfl rfl) rfl <| w_val (v_extract rfl rfl) rfl <| w_op rfl ?_
 refine x_alloc (z := .agg #[.int .i64 0, .int .i64 0]) (by intro w; exact Tryz.zeroValue42 w) rfl (fun b2 => ?_)
 refine wa rfl rfl <| w_op rfl ?_
 refine x_storeA (vs := #[.int .i64 0, .int .i64 0]) 0 rfl rfl rfl Tryz.hi42 Tryz.cz42 rfl (by simp [Value.oneCell']) ?_
 refine wsr <| w_val (v_fieldAddrB (o := 0) uT42 rfl rfl Tryz.nz3 rfl) rfl <| w_val (v_loadB 0 rfl uT3 rfl rfl rfl) rfl ?_
 refine w_val (v_is (v' := .bool true) (v_eql rfl rfl) (by rfl)) rfl ?_
 refine wm rfl rfl <| w_want rfl rfl <| wm rfl rfl <| w_want rfl rfl ?_
 refine w_val (v_is (v' := .bool true) (v_strEql rfl rfl) (by rw [decide_eq_true rfl])) rfl ?_
 refine w_val (v_pickT rfl rfl) rfl <| wa rfl rfl <| w_nil ?_
 refine e_retQ (q_ret1 rfl (.tmp rfl) ?_)
 exact fun w' hw' => ⟨rfl, hw'.res.nil⟩
end Go.SL
end
section
open Go Go.Proofs Go.SL Go.RowKit
set_option maxRecDepth 100000
set_option maxHeartbeats 4000000
namespace Go.SL
theorem fault_pair {l : List (List UInt8)} (hl : l.length ≤ 150) (h : (faultLs l).1 = 0) : faultLs l = (0, 0) := by
 unfold faultLs at h ⊢
 rw [if_neg (by omega)] at h ⊢
 exact nlAt_pair l 0 h
end Go.SL
end
