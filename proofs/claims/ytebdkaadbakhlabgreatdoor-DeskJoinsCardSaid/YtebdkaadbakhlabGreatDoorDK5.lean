/- YtebdkaadbakhlabGreatDoor: part DK5 of this seat's own texts. -/
import Derived.Test.YtebdkaadbakhlabGreatDoorDK4
import Derived.Test.YtebdkaadbakhlabGreatDoorMM2
set_option linter.unusedVariables false
set_option linter.unusedSimpArgs false
section

open Go Go.Proofs Go.SL Go.RowKit
set_option maxRecDepth 100000
set_option maxHeartbeats 4000000
namespace Go.SL
theorem slow_spec (v : Value) (l : List (List UInt8)) (w : World) (hv : IsStrs w.cell? v l) (hs : ∀ s ∈ l, s.length ≤ 140737488355328) (hbig : l.length ≤ 9223372036854775806) :
    Calls Tryz.prog 5 #[v] w fun e w' => ∃ b : Bool, (b = false → ∀ s ∈ l, s.length ≤ 9000) ∧ e = .returned (.bool b) ∧ Res w [] [] w' := by
  rw [← off_none w] at hv
  obtain ⟨Al, kl, rfl, hkl, _, hc⟩ := id hv
  refine enter0 (N := 20) Tryz.func5 rfl rfl rfl ?_
  refine esr ?_
  refine wa rfl rfl ?_
  refine wsr ?_
  refine wa rfl rfl ?_
  refine w_nil ?_
  refine e_seq ?_
  refine esr ?_
  refine wa rfl rfl ?_
  refine w_nil ?_
  refine e_block ?_
  refine e_loopK (σ := Nat × Int) [0] (.cons rfl .nil) (fun z => [(4, .int .i64 (z.1 : Int)), (3, .int .i64 z.2)]) (fun z => z.1 ≤ l.length ∧ 0 ≤ z.2 ∧ z.2 ≤ 9000 ∧ z.1 ≤ 9223372036854775806 ∧ ∀ s ∈ l.take z.1, s.length ≤ 9000) (fun z => l.length - z.1) (0, 0) ⟨Nat.zero_le _, Int.le_refl _, by decide, by decide, fun s hs => by cases hs⟩ (by repeat (first | exact Sub.nil _ | refine Sub.cons rfl ?_)) ?_
  rintro ⟨i, n⟩ ⟨hi, hn0, hn, him, hall⟩
  dsimp only at hi hn0 hn him hall ⊢
  refine e_seq ?_
  refine esr ?_
  refine wm rfl rfl ?_
  refine wm rfl rfl ?_
  refine w_val (v_lenS Tryz.underlying22 rfl) rfl ?_
  refine w_val (v_lss rfl rfl) rfl ?_
  refine w_nil ?_
  refine e_condD rfl (fun hlt => ?_) (fun hlt => ?_)
  · have hi' : i < l.length := by omega
    obtain ⟨ad, rfl, hcell⟩ := IsStrs.cell hv hi'
    have hsl := hs _ (List.getElem_mem hi')
    have htk : ∀ t, t ∈ l.take (i + 1) → t ∈ l.take i ∨ t = l[i] := fun t ht => by rw [List.take_succ_eq_append_getElem hi'] at ht; exact (List.mem_append.1 ht).imp id List.mem_singleton.1
    generalize l[i] = s at *
    refine e_skip ?_
    refine e_seq ?_
    refine e_block ?_
    refine esr ?_
    refine wm rfl rfl ?_
    refine wm rfl rfl ?_
    refine wm rfl rfl ?_
    refine w_val (v_indexS Tryz.underlying22 Tryz.hi9 Tryz.cz9 rfl rfl (by first | omega | decide)) rfl ?_
    refine w_val (v_loadO Tryz.underlying9 rfl rfl (hcell)) rfl ?_
    refine w_val (v_strLen Tryz.underlying9 rfl) rfl ?_
    refine w_val (v_add rfl rfl (by omega)) rfl ?_
    refine wa rfl rfl ?_
    refine wsr ?_
    refine wm rfl rfl ?_
    refine w_val (v_gtr rfl rfl) rfl ?_
    refine w_nil ?_
    refine e_condD rfl (fun hgt => ?_) (fun hgt => ?_)
    · refine esr ?_
      refine wa rfl rfl ?_
      refine w_nil ?_
      refine e_retQ (q_ret1 rfl (.tmp rfl) ?_)
      exact fun w' hw' => ⟨true, fun h => (by cases h), rfl, hw'.res.nil⟩
    · refine e_skip ?_
      refine e_blk ?_
      refine e_region ?_
      refine wm rfl rfl ?_
      refine w_val (v_add rfl rfl (by omega)) rfl ?_
      refine wa rfl rfl ?_
      refine w_nil ?_
      exact e_round ((i + 1, n + (s.length : Int))) (⟨by dsimp only; omega, by dsimp only; omega, by dsimp only; omega, by dsimp only; omega, fun t ht => (htk t ht).elim (hall t) (fun e => by subst e; omega)⟩) (by dsimp only; omega) (by repeat (first | exact Sub.nil _ | refine Sub.cons rfl ?_)) (fun _ hw => hw)
  · have e : i = l.length := by omega
    subst e
    rw [List.take_length] at hall
    refine e_exit rfl ?_
    refine esr ?_
    refine wa rfl rfl ?_
    refine w_nil ?_
    refine e_retQ (q_ret1 rfl (.tmp rfl) ?_)
    exact fun w' hw' => ⟨false, fun _ => hall, rfl, hw'.res.nil⟩
end Go.SL
end
section

open Go Go.Proofs Go.SL Go.RowKit
set_option maxRecDepth 100000
set_option maxHeartbeats 4000000
namespace Go.SL
/-! ## the desk at its first lines -/
theorem dg_0 : Lib.itoa 0 = [48] := by unfold Lib.itoa; rw [if_neg (by decide), Lib.decDigits_one (by decide)]; rfl
theorem dg_1 : Lib.itoa 1 = [49] := by unfold Lib.itoa; rw [if_neg (by decide), Lib.decDigits_one (by decide)]; rfl
theorem dg_2 : Lib.itoa 2 = [50] := by unfold Lib.itoa; rw [if_neg (by decide), Lib.decDigits_one (by decide)]; rfl
theorem dg_5 : Lib.itoa 5 = [53] := by unfold Lib.itoa; rw [if_neg (by decide), Lib.decDigits_one (by decide)]; rfl
theorem dg_7 : Lib.itoa 7 = [55] := by unfold Lib.itoa; rw [if_neg (by decide), Lib.decDigits_one (by decide)]; rfl
abbrev dg1 : DeedL := [⟨1, 0, 0, 0, 5⟩, ⟨7, 2, 0, 0, 0⟩]
abbrev dg2 : DeedL := [⟨2, 0, 2, 0, 0⟩]
abbrev dgr : RoundL := [dg1, dg2]
theorem dg_in1 : ∀ o ∈ dg1, OpIn o := by
  intro o ho
  simp only [List.mem_cons, List.not_mem_nil, or_false] at ho
  rcases ho with rfl | rfl <;> exact ⟨by simp [In64], by simp [In64], by simp [In64], by simp [In64], by simp [In64]⟩
theorem dg_in2 : ∀ o ∈ dg2, OpIn o := by
  intro o ho
  simp only [List.mem_singleton] at ho
  subst ho
  exact ⟨by simp [In64], by simp [In64], by simp [In64], by simp [In64], by simp [In64]⟩
theorem dg_print1 : printL dg1 = [110, 117, 109, 32, 48, 32, 53, 59, 32, 115, 116, 111, 114, 101, 32, 50, 32, 48] := by
  have h1 : opText ⟨1, 0, 0, 0, 5⟩ = [110, 117, 109] ++ (32 :: Lib.itoa 0 ++ (32 :: Lib.itoa 5 ++ [])) := rfl
  have h2 : opText ⟨7, 2, 0, 0, 0⟩ = [115, 116, 111, 114, 101] ++ (32 :: Lib.itoa 2 ++ (32 :: Lib.itoa 0 ++ [])) := rfl
  unfold printL
  rw [List.map_cons, List.map_cons, List.map_nil, h1, h2, dg_0, dg_2, dg_5]
  rfl
theorem dg_print2 : printL dg2 = [108, 111, 97, 100, 32, 48, 32, 50] := by
  have h1 : opText ⟨2, 0, 2, 0, 0⟩ = [108, 111, 97, 100] ++ (32 :: Lib.itoa 0 ++ (32 :: Lib.itoa 2 ++ [])) := rfl
  unfold printL
  rw [List.map_cons, List.map_nil, h1, dg_0, dg_2]
  rfl
theorem dg_parse1 : parseL [110, 117, 109, 32, 48, 32, 53, 59, 32, 115, 116, 111, 114, 101, 32, 50, 32, 48] = (dg1, (0, 0)) := by rw [← dg_print1]; exact parse_print (by decide) dg_in1
theorem dg_parse2 : parseL [108, 111, 97, 100, 32, 48, 32, 50] = (dg2, (0, 0)) := by rw [← dg_print2]; exact parse_print (by decide) dg_in2
theorem dg_put : putL [] dgr = ([dgr], 0, 0) := by
  have h0 : ¬ roundFaultL dgr ≠ 0 := by decide +kernel
  have h : ¬ ((([] : List RoundL).length = 25) ∨ 4000 < (bytesOf []).length + (encL dgr).length) := by decide +kernel
  rw [putL_ok h0 h]; rfl
abbrev dq (k dn : Nat) : QL := ⟨[dgr], k, dn⟩
theorem dg_t0 : tellCode 0 = [111, 107, 10] := rfl
theorem dg_t7 : tellCode 7 = [110, 111, 32, 55, 10] := by unfold tellCode; rw [if_pos (by decide), dg_7]; rfl
theorem dg_last : lastL [dgr] 1 = [(0, [5, 0, 0, 0]), (0, [5, 0, 0, 0])] := by decide +kernel
theorem dg_res : tellRes (0, [5, 0, 0, 0]) = [99, 97, 109, 101, 32, 48, 32, 53, 32, 48, 32, 48, 32, 48, 10] := by
  have e : longsL [5, 0, 0, 0] = 32 :: Lib.itoa 5 ++ (32 :: Lib.itoa 0 ++ (32 :: Lib.itoa 0 ++ (32 :: Lib.itoa 0 ++ []))) := rfl
  unfold tellRes
  dsimp only
  rw [e, dg_0, dg_5]
  rfl
theorem dg_1l : lineL dk0 [100, 101, 101, 100, 32, 110, 117, 109, 32, 48, 32, 53, 59, 32, 115, 116, 111, 114, 101, 32, 50, 32, 48] = (⟨⟨[], 0, 0⟩, [dg1]⟩, []) := by
  unfold lineL
  rw [if_pos (by decide)]
  unfold deedL
  rw [show List.drop 5 ([100, 101, 101, 100, 32, 110, 117, 109, 32, 48, 32, 53, 59, 32, 115, 116, 111, 114, 101, 32, 50, 32, 48] : List UInt8) = [110, 117, 109, 32, 48, 32, 53, 59, 32, 115, 116, 111, 114, 101, 32, 50, 32, 48] from rfl, dg_parse1, if_neg (by decide)]
  rfl
theorem dg_2l : lineL ⟨⟨[], 0, 0⟩, [dg1]⟩ [100, 101, 101, 100, 32, 108, 111, 97, 100, 32, 48, 32, 50] = (⟨⟨[], 0, 0⟩, dgr⟩, []) := by
  unfold lineL
  rw [if_pos (by decide)]
  unfold deedL
  rw [show List.drop 5 ([100, 101, 101, 100, 32, 108, 111, 97, 100, 32, 48, 32, 50] : List UInt8) = [108, 111, 97, 100, 32, 48, 32, 50] from rfl, dg_parse2, if_neg (by decide)]
  rfl
theorem dg_3l : lineL ⟨⟨[], 0, 0⟩, dgr⟩ [112, 117, 116] = (⟨dq 0 0, []⟩, [111, 107, 10]) := by
  have hq : doQ ⟨[], 0, 0⟩ ⟨1, 0, dgr, []⟩ = (dq 0 0, 0) := by unfold doQ; rw [if_pos rfl, dg_put]
  unfold lineL
  rw [if_neg (by decide), show wordsL [112, 117, 116] = [[112, 117, 116]] from by decide, wordsD_some (n := []) rfl]
  unfold askL
  rw [if_pos ⟨rfl, rfl⟩, Option.getD_some, hq, dg_t0]
theorem dg_4l : lineL ⟨dq 0 0, []⟩ [114, 117, 110] = (⟨dq 0 0, []⟩, [110, 111, 32, 55, 10]) := by
  unfold lineL
  rw [if_neg (by decide), show wordsL [114, 117, 110] = [[114, 117, 110]] from by decide, wordsD_some (n := []) rfl]
  unfold askL
  rw [if_neg (by decide), if_neg (by decide), if_pos rfl, Option.getD_some, show doQ (dq 0 0) ⟨3, 0, [], []⟩ = (dq 0 0, 7) from rfl, dg_t7]
theorem dg_5l : lineL ⟨dq 0 0, []⟩ [115, 121, 110, 99] = (⟨dq 1 0, []⟩, [111, 107, 10]) := by
  unfold lineL
  rw [if_neg (by decide), show wordsL [115, 121, 110, 99] = [[115, 121, 110, 99]] from by decide, wordsD_some (n := []) rfl]
  unfold askL
  rw [if_neg (by decide), if_pos ⟨rfl, rfl⟩, Option.getD_some, show doQ (dq 0 0) ⟨2, 0, [], []⟩ = (dq 1 0, 0) from rfl, dg_t0]
theorem dg_long1 : longL [49] = some 1 := by rw [← dg_1]; exact long_itoa (by simp [In64])
theorem dg_6l : lineL ⟨dq 1 0, []⟩ [114, 117, 110, 32, 49, 32, 49] = (⟨dq 1 1, []⟩, [111, 107, 10]) := by
  have hn : numsL [[49], [49]] = some [1, 1] := by unfold numsL numsL numsL; rw [dg_long1]
  unfold lineL
  rw [if_neg (by decide), show wordsL [114, 117, 110, 32, 49, 32, 49] = [[114, 117, 110], [49], [49]] from by decide, wordsD_some hn]
  unfold askL
  rw [if_neg (by decide), if_neg (by decide), if_pos rfl, Option.getD_some, show doQ (dq 1 0) ⟨3, 0, [], [1, 1]⟩ = (dq 1 1, 0) from rfl, dg_t0]
theorem dg_7l : lineL ⟨dq 1 1, []⟩ [108, 97, 115, 116] = (⟨dq 1 1, []⟩, [99, 97, 109, 101, 32, 48, 32, 53, 32, 48, 32, 48, 32, 48, 10, 99, 97, 109, 101, 32, 48, 32, 53, 32, 48, 32, 48, 32, 48, 10, 101, 110, 100, 10]) := by
  unfold lineL
  rw [if_neg (by decide), show wordsL [108, 97, 115, 116] = [[108, 97, 115, 116]] from by decide, wordsD_some (n := []) rfl]
  unfold askL
  rw [if_neg (by decide), if_neg (by decide), if_neg (by decide), if_neg (by decide), if_neg (by decide), if_pos ⟨rfl, rfl⟩, Option.getD_some, dg_last, List.flatMap_cons, List.flatMap_cons, List.flatMap_nil, dg_res]
  rfl
theorem dg_8l : lineL ⟨dq 1 1, []⟩ [109, 97, 110, 121] = (⟨dq 1 1, []⟩, [109, 97, 110, 121, 32, 49, 32, 49, 32, 49, 10]) := by
  unfold lineL
  rw [if_neg (by decide), show wordsL [109, 97, 110, 121] = [[109, 97, 110, 121]] from by decide, wordsD_some (n := []) rfl]
  unfold askL
  rw [if_neg (by decide), if_neg (by decide), if_neg (by decide), if_neg (by decide), if_neg (by decide), if_neg (by decide), if_neg (by decide), if_neg (by decide), if_pos ⟨rfl, rfl⟩, Option.getD_some]
  unfold tellMany
  rw [show Lib.itoa (([dgr].length : Nat) : Int) = [49] from dg_1, show Lib.itoa ((1 : Nat) : Int) = [49] from dg_1]
  rfl
theorem dg_9l : lineL ⟨dq 1 1, []⟩ [120] = (⟨dq 1 1, []⟩, [119, 104, 97, 116, 10]) := by
  unfold lineL
  rw [if_neg (by decide), show wordsL [120] = [[120]] from by decide, wordsD_some (n := []) rfl]
  unfold askL
  rw [if_neg (by decide), if_neg (by decide), if_neg (by decide), if_neg (by decide), if_neg (by decide), if_neg (by decide), if_neg (by decide), if_neg (by decide), if_neg (by decide), Option.getD_none]
  rfl
abbrev dgL : List (List UInt8) := [[100, 101, 101, 100, 32, 110, 117, 109, 32, 48, 32, 53, 59, 32, 115, 116, 111, 114, 101, 32, 50, 32, 48], [100, 101, 101, 100, 32, 108, 111, 97, 100, 32, 48, 32, 50], [112, 117, 116], [114, 117, 110], [115, 121, 110, 99], [114, 117, 110, 32, 49, 32, 49], [108, 97, 115, 116], [109, 97, 110, 121], [120]]
theorem dg_all : doLs dk0 dgL = (⟨dq 1 1, []⟩, [111, 107, 10, 110, 111, 32, 55, 10, 111, 107, 10, 111, 107, 10, 99, 97, 109, 101, 32, 48, 32, 53, 32, 48, 32, 48, 32, 48, 10, 99, 97, 109, 101, 32, 48, 32, 53, 32, 48, 32, 48, 32, 48, 10, 101, 110, 100, 10, 109, 97, 110, 121, 32, 49, 32, 49, 32, 49, 10, 119, 104, 97, 116, 10], (0, 0)) := by
  unfold doLs
  rw [if_neg (by decide)]
  simp only [linesL, dg_1l, dg_2l, dg_3l, dg_4l, dg_5l, dg_6l, dg_7l, dg_8l, dg_9l]
  rfl
theorem deskBegun_spec (w : World) (hL : LF w (feet [])) : Calls Tryz.prog 4 #[] w fun e w' => e = .returned (.bool true) ∧ Res w [] [] w' := by
  have hdo := fun (p : Nat) (x : DkS) (v : Value) (w1 : World) h1 h2 (h3 : IsStrs (SL.off w1 (feet (dkI p x dk0))) v dgL) h4 => dkDo_spec p x dk0 v dgL 0 w1 h1 h2 h3 dk0_ok (by decide) h4 (by decide) (by decide)
  rw [dg_all] at hdo
  refine enter0 (N := 16) Tryz.func4 rfl rfl rfl ?_
  refine esr ?_
  refine wa rfl rfl ?_
  refine wsr ?_
  refine w_op rfl ?_
  refine x_call (dst := some 4) (mc := []) (σ := Nat × DkS) (fun _ => True) (fun z => .pointer (some ⟨z.1, 0, none⟩)) (fun z => dkI z.1 z.2 dk0) rfl rfl rfl Tryz.call6 (fun w _ => dkNew_spec w) rfl (fun z _ => ?_); obtain ⟨p, x⟩ := z; dsimp only
  refine w_op rfl ?_
  refine x_buildSlice _ (strC dgL) rfl (run_buildSlice Tryz.underlying22 Tryz.hi9 Tryz.cz9 Tryz.zeroValue9 rfl (by kernel_rfl)) rfl (fun b5 => ?_)
  refine w_op rfl ?_
  refine g_heap (m' := dkI p x dk0 ++ [Chunk.blk b5 9 (strC dgL)]) (fun _ hw => hw.pick [1, 2, 3, 4, 5, 6, 7, 8, 0] (by decide)) ?_; refine x_call (dst := some 6) (mc := dkI p x dk0) (mr := [Chunk.blk b5 9 (strC dgL)]) (σ := DkS) (fun x' => x'.y.p = x.y.p) (fun _ => .tuple #[strV [111, 107, 10, 110, 111, 32, 55, 10, 111, 107, 10, 111, 107, 10, 99, 97, 109, 101, 32, 48, 32, 53, 32, 48, 32, 48, 32, 48, 10, 99, 97, 109, 101, 32, 48, 32, 53, 32, 48, 32, 48, 32, 48, 10, 101, 110, 100, 10, 109, 97, 110, 121, 32, 49, 32, 49, 32, 49, 10, 119, 104, 97, 116, 10], .agg #[.int .i64 0, .int .i64 0]]) (fun x' => dkI p x' ⟨dq 1 1, []⟩) rfl rfl rfl Tryz.call7 (fun w hw => hdo p x (.slice (some ⟨b5, 0, none⟩) 9 9) w (res_part hw).1 (res_part hw).2 (Rds.mono hw.apart (blk_rds (hw.partR (Chunk.blk b5 9 (strC dgL)) (by simp)) rfl)) (hL.part hw)) rfl (fun x' _ => ?_)
  refine wm rfl rfl ?_
  refine w_val (v_extract rfl rfl) rfl ?_
  refine w_val (v_extract rfl rfl) rfl ?_
  refine w_op rfl ?_
  refine x_alloc (z := .agg #[.int .i64 0, .int .i64 0]) (by intro w; exact Tryz.zeroValue29 w) rfl (fun b2 => ?_)
  refine wa rfl rfl ?_
  refine w_op rfl ?_
  refine x_storeA (vs := #[.int .i64 0, .int .i64 0]) 0 rfl rfl rfl Tryz.hi29 Tryz.cz29 rfl (by simp [Value.oneCell']) ?_
  refine wsr ?_
  refine w_val (v_fieldAddrB (o := 0) Tryz.underlying29 rfl rfl Tryz.nz3 rfl) rfl ?_
  refine w_val (v_loadB 0 rfl Tryz.underlying3 rfl rfl rfl) rfl ?_
  refine w_val (v_is (v' := .bool true) (v_eql rfl rfl) (by rfl)) rfl ?_
  refine wm rfl rfl ?_
  refine w_want rfl rfl ?_
  refine wm rfl rfl ?_
  refine w_want rfl rfl ?_
  refine w_val (v_is (v' := .bool true) (v_strEql rfl rfl) (by rw [decide_eq_true rfl])) rfl ?_
  refine w_val (v_pickT rfl rfl) rfl ?_
  refine wa rfl rfl ?_
  refine w_nil ?_
  refine e_retQ (q_ret1 rfl (.tmp rfl) ?_)
  exact fun w' hw' => ⟨rfl, hw'.res.nil⟩
end Go.SL
end
section

open Go Go.Proofs Go.SL Go.RowKit
set_option maxRecDepth 100000
set_option maxHeartbeats 4000000
namespace Go.SL
theorem u64_smallD {n : Int} (h0 : 0 ≤ n) (h1 : n ≤ 1000000) : IntKind.u64.wrap n = n := by simp [IntKind.wrap, IntKind.bits, IntKind.signed]; omega
theorem i64_smallD {n : Int} (h0 : 0 ≤ n) (h1 : n ≤ 1000000) : IntKind.i64.wrap n = n := wrap_i64 (by omega) (by omega)
theorem cut_at (x : Int) {L : Nat} (_hL : L ≤ 1000) : ∃ k : Nat, k ≤ L ∧ (IntKind.u64.wrap x).tmod ((L : Int) + 1) = k := by
  have h0 : 0 ≤ IntKind.u64.wrap x := by simp [IntKind.wrap, IntKind.bits, IntKind.signed]; omega
  have h1 := Int.tmod_nonneg ((L : Int) + 1) h0
  have h2 := Int.tmod_lt_of_pos (IntKind.u64.wrap x) (show (0 : Int) < (L : Int) + 1 by omega)
  exact ⟨((IntKind.u64.wrap x).tmod ((L : Int) + 1)).toNat, by omega, by omega⟩
theorem fault_none {l : List (List UInt8)} (hl : l.length ≤ 150) : (faultLs l).1 = 0 ↔ ∀ s ∈ l, 10 ∉ s := by
  unfold faultLs
  rw [if_neg (by omega)]
  exact nlAt_zero l 0
theorem do_zero {d : DkL} {l : List (List UInt8)} : (doLs d l).2.2.1 = 0 ↔ (faultLs l).1 = 0 := by
  unfold doLs
  split
  · exact Iff.rfl
  · rename_i h; simp only [ne_eq, Decidable.not_not] at h; simp [h]
/-- what lines tell one behind the other they tell together -/
theorem do_joins {d : DkL} {l : List (List UInt8)} {k : Nat} (hl : l.length ≤ 150) : ((doLs d l).2.2.1 ≠ 0 → (doLs d (l.take k)).2.2.1 ≠ 0 ∨ (doLs (doLs d (l.take k)).1 (l.drop k)).2.2.1 ≠ 0) ∧
    ((doLs d l).2.2.1 = 0 → (doLs d (l.take k)).2.2.1 = 0 ∧ (doLs (doLs d (l.take k)).1 (l.drop k)).2.2.1 = 0 ∧ (doLs d (l.take k)).2.1 ++ (doLs (doLs d (l.take k)).1 (l.drop k)).2.1 = (doLs d l).2.1) := by
  have h1 : (l.take k).length ≤ 150 := by rw [List.length_take]; omega
  have h2 : (l.drop k).length ≤ 150 := by rw [List.length_drop]; omega
  have hsp : ∀ s, s ∈ l ↔ s ∈ l.take k ∨ s ∈ l.drop k := fun s => by
    conv => lhs; rw [← List.take_append_drop k l]
    exact List.mem_append
  have hz : (faultLs l).1 = 0 ↔ (faultLs (l.take k)).1 = 0 ∧ (faultLs (l.drop k)).1 = 0 := by
    rw [fault_none hl, fault_none h1, fault_none h2]
    exact ⟨fun h => ⟨fun s hs => h s ((hsp s).2 (.inl hs)), fun s hs => h s ((hsp s).2 (.inr hs))⟩, fun h s hs => ((hsp s).1 hs).elim (h.1 s) (h.2 s)⟩
  simp only [ne_eq, do_zero]
  refine ⟨fun h => ?_, fun h => ?_⟩
  · by_cases ha : (faultLs (l.take k)).1 = 0
    · by_cases hb : (faultLs (l.drop k)).1 = 0
      · exact absurd (hz.2 ⟨ha, hb⟩) h
      · exact .inr hb
    · exact .inl ha
  · obtain ⟨ha, hb⟩ := hz.1 h
    refine ⟨ha, hb, ?_⟩
    unfold doLs
    rw [if_neg (fun e => e ha), if_neg (fun e => e hb), if_neg (fun e => e h)]
    dsimp only
    have := linesL_app d (l.take k) (l.drop k)
    rw [List.take_append_drop] at this
    rw [this]
theorem doLs_len {d : DkL} {N : Nat} (h : d.Ok N) {l : List (List UInt8)} (hs : ∀ s ∈ l, s.length ≤ 9000) : (doLs d l).2.1.length ≤ 20000 * l.length := by
  unfold doLs
  split
  · simp
  · exact lines_len l h (fun s hs' => by have := hs s hs'; omega)
theorem DeskJoins_spec (v : Value) (l : List (List UInt8)) (n : Int) (w : World) (hv : IsStrs w.cell? v l) (hs : ∀ s ∈ l, s.length ≤ 140737488355328) (hL : LF w (feet [])) :
    Calls Tryz.prog 3 #[v, .int .i64 n] w fun e w' => e = .returned (.bool true) ∧ Res w [] [] w' := by
  rw [← off_none w] at hv
  obtain ⟨Al, kl, rfl, hkl, _, _⟩ := id hv
  refine enter0 (N := 94) Tryz.func3 rfl rfl rfl ?_
  refine esr ?_
  refine wa rfl rfl ?_
  refine w_nil ?_
  refine e_seq ?_
  refine esr ?_
  refine w_op rfl ?_
  refine x_call0 (v := .bool true) rfl rfl rfl Tryz.call4 rfl (fun w hw => deskBegun_spec w (hL.at hw (fun c hc => by cases hc))) ?_
  refine w_val (v_is (v' := .bool false) (v_not rfl) (by rfl)) rfl ?_
  refine w_nil ?_
  refine e_condF rfl ?_
  refine e_skip ?_
  refine e_seq ?_
  refine e_seq ?_
  by_cases h150 : 150 < l.length
  · refine e_region ?_
    refine wm rfl rfl ?_
    refine w_val (v_lenS Tryz.underlying22 rfl) rfl ?_
    refine w_val (v_is (v' := .bool true) (v_gtr rfl rfl) (by rw [decide_eq_true (by omega)])) rfl ?_
    refine wm rfl rfl ?_
    refine w_skip rfl rfl rfl rfl ?_
    refine w_skip rfl rfl rfl rfl ?_
    refine w_val (v_pickT rfl rfl) rfl ?_
    refine w_nil ?_
    refine e_condT rfl ?_
    refine esr ?_
    refine wa rfl rfl ?_
    refine w_nil ?_
    refine e_retQ (q_ret1 rfl (.tmp rfl) ?_)
    exact fun w' hw' => ⟨rfl, hw'.res.nil⟩
  refine e_region ?_
  refine wm rfl rfl ?_
  refine w_val (v_lenS Tryz.underlying22 rfl) rfl ?_
  refine w_val (v_is (v' := .bool false) (v_gtr rfl rfl) (by rw [decide_eq_false (by omega)])) rfl ?_
  refine wm rfl rfl ?_
  refine w_want rfl rfl ?_
  refine wm rfl rfl ?_
  refine w_want rfl rfl ?_
  refine w_op rfl ?_
  refine x_call (dst := some 23) (mc := []) (σ := Bool) (fun b => b = false → ∀ s ∈ l, s.length ≤ 9000) (fun b => .bool b) (fun _ => []) rfl rfl rfl Tryz.call5 (fun w hw => slow_spec _ l w (Rds.mono hw.off hv) hs (by omega)) rfl (fun b hb => ?_)
  refine w_val (v_pickF rfl rfl) rfl ?_
  refine w_nil ?_
  cases b with
  | true =>
    refine e_condT rfl ?_
    refine esr ?_
    refine wa rfl rfl ?_
    refine w_nil ?_
    refine e_retQ (q_ret1 rfl (.tmp rfl) ?_)
    exact fun w' hw' => ⟨rfl, hw'.res.nil⟩
  | false =>
  have hs9 := hb rfl
  obtain ⟨k, hk, hkm⟩ := cut_at n (L := l.length) (by omega)
  have hk2 : (l.take k).length = k := by rw [List.length_take]; omega
  have hd2 : (l.drop k).length = l.length - k := List.length_drop
  have hv1 : IsStrs (SL.off w (feet [])) (.slice Al k kl) (l.take k) := by
    have := slV_rds (lo := 0) (hi := k) hv (Nat.zero_le _) hk
    rw [slV_0', Nat.zero_mul, List.drop_zero, Nat.sub_zero, Nat.mul_one] at this
    show Rds _ _ 1 (l.take k).length (List.map strV (l.take k))
    rw [hk2, List.map_take]
    exact this
  have hv2 : IsStrs (SL.off w (feet [])) (slV Al k l.length kl 1) (l.drop k) := by
    have := slV_rds (lo := k) (hi := l.length) hv hk (Nat.le_refl _)
    rw [Nat.mul_one, Nat.mul_one] at this
    show Rds _ _ 1 (l.drop k).length (List.map strV (l.drop k))
    rw [hd2, List.map_drop]
    have e : ((strC l).drop k).take (l.length - k) = (l.map strV).drop k := List.take_of_length_le (by simp [strC])
    rw [e] at this
    exact this
  have hjn := do_joins (d := dk0) (k := k) (l := l) (by omega)
  have hok1 := doLs_ok dk0_ok (l.take k)
  have hsl := doLs_len dk0_ok hs9
  have hdoA := fun (p : Nat) (x : DkS) (w1 : World) h1 h2 (h3 : IsStrs (SL.off w1 (feet (dkI p x dk0))) (.slice Al k kl) (l.take k)) h4 => dkDo_spec p x dk0 _ (l.take k) 0 w1 h1 h2 h3 dk0_ok (by decide) h4 (by omega) (fun s hs' => hs9 s (List.mem_of_mem_take hs'))
  have hdoS := fun (p : Nat) (x : DkS) (w1 : World) h1 h2 (h3 : IsStrs (SL.off w1 (feet (dkI p x dk0))) (.slice Al l.length kl) l) h4 => dkDo_spec p x dk0 _ l 0 w1 h1 h2 h3 dk0_ok (by decide) h4 (by omega) hs9
  have hdoB := fun (p : Nat) (x : DkS) (w1 : World) h1 h2 (h3 : IsStrs (SL.off w1 (feet (dkI p x (doLs dk0 (l.take k)).1))) (slV Al k l.length kl 1) (l.drop k)) h4 => dkDo_spec p x (doLs dk0 (l.take k)).1 _ (l.drop k) _ w1 h1 h2 h3 hok1 (by omega) h4 (by omega) (fun s hs' => hs9 s (List.mem_of_mem_drop hs'))
  generalize doLs (doLs dk0 (l.take k)).1 (l.drop k) = RB at *
  generalize doLs dk0 (l.take k) = RA at *
  generalize doLs dk0 l = RS at *
  obtain ⟨dA, a, f⟩ := RA
  obtain ⟨dB, b, g⟩ := RB
  obtain ⟨dS, s, h⟩ := RS
  dsimp only at hjn hdoA hdoB hdoS hsl
  refine e_condF rfl ?_
  refine e_skip ?_
  refine esr ?_
  refine wm rfl rfl ?_
  refine w_val (v_conv Tryz.underlying25 (by rw [Tryz.underlying3]; rfl) rfl) rfl ?_
  refine wm rfl rfl ?_
  refine w_val (v_lenS Tryz.underlying22 rfl) rfl ?_
  refine w_val (v_add rfl rfl (by omega)) rfl ?_
  refine w_val (v_is (v' := .int .u64 ((l.length : Int) + 1)) (v_conv Tryz.underlying25 (by rw [Tryz.underlying3]; rfl) rfl) (by rw [u64_smallD (by omega) (by omega)])) rfl ?_
  refine w_val (v_is (v' := .int .u64 (k : Int)) (v_rem rfl rfl (by omega)) (by rw [hkm])) rfl ?_
  refine w_val (v_is (v' := .int .i64 (k : Int)) (v_conv Tryz.underlying3 (by rw [Tryz.underlying25]; rfl) rfl) (by rw [i64_smallD (by omega) (by omega)])) rfl ?_
  refine wa rfl rfl ?_
  refine wsr ?_
  refine w_op rfl ?_
  refine x_call (dst := some 33) (mc := []) (σ := Nat × DkS) (fun _ => True) (fun z => .pointer (some ⟨z.1, 0, none⟩)) (fun z => dkI z.1 z.2 dk0) rfl rfl rfl Tryz.call6 (fun w _ => dkNew_spec w) rfl (fun z _ => ?_); obtain ⟨p1, x1⟩ := z; dsimp only
  refine w_op rfl ?_
  refine x_call (dst := some 34) (mc := []) (σ := Nat × DkS) (fun _ => True) (fun z => .pointer (some ⟨z.1, 0, none⟩)) (fun z => dkI z.1 z.2 dk0) rfl rfl rfl Tryz.call6 (fun w _ => dkNew_spec w) rfl (fun z _ => ?_); obtain ⟨p2, x2⟩ := z; dsimp only
  refine wa rfl rfl ?_
  refine wa rfl rfl ?_
  refine wsr ?_
  refine wm rfl rfl ?_
  refine wm rfl rfl ?_
  refine wm rfl rfl ?_
  refine w_val (v_is (v' := .slice Al k kl) (v_sliceH Tryz.underlying22 Tryz.hi9 Tryz.cz9 rfl rfl (by omega)) (by rw [Int.toNat_natCast, slV_0'])) rfl ?_
  refine w_op rfl ?_
  refine g_heap (m' := dkI p1 x1 dk0 ++ (dkI p2 x2 dk0)) (fun _ hw => hw.pick [8, 9, 10, 11, 12, 13, 14, 15, 0, 1, 2, 3, 4, 5, 6, 7] (by decide)) ?_; refine x_call (dst := some 40) (mc := dkI p1 x1 dk0) (mr := (dkI p2 x2 dk0)) (σ := DkS) (fun x' => x'.y.p = (x1).y.p) (fun _ => .tuple #[strV a, .agg #[.int .i64 f.1, .int .i64 f.2]]) (fun x' => dkI p1 x' dA) rfl rfl rfl Tryz.call7 (fun w hw => hdoA p1 x1 w (res_part hw).1 (res_part hw).2 (Rds.mono (hw.offm (fun c hc => List.mem_append_left _ hc)) hv1) (hL.part hw)) rfl (fun y1 _ => ?_)
  refine wm rfl rfl ?_
  refine w_val (v_extract rfl rfl) rfl ?_
  refine w_val (v_extract rfl rfl) rfl ?_
  refine w_op rfl ?_
  refine x_alloc (z := .agg #[.int .i64 0, .int .i64 0]) (by intro w; exact Tryz.zeroValue29 w) rfl (fun b9 => ?_)
  refine wa rfl rfl ?_
  refine w_op rfl ?_
  refine x_storeA (vs := #[.int .i64 f.1, .int .i64 f.2]) 0 rfl rfl rfl Tryz.hi29 Tryz.cz29 rfl (by simp [Value.oneCell']) ?_
  refine wsr ?_
  refine wm rfl rfl ?_
  refine wm rfl rfl ?_
  refine w_op rfl ?_
  refine g_heap (m' := dkI p2 x2 dk0 ++ (Chunk.blk b9 29 [.int .i64 f.1, .int .i64 f.2] :: dkI p1 y1 dA)) (fun _ hw => hw.pick [9, 10, 11, 12, 13, 14, 15, 16, 0, 1, 2, 3, 4, 5, 6, 7, 8] (by decide)) ?_; refine x_call (dst := some 46) (mc := dkI p2 x2 dk0) (mr := (Chunk.blk b9 29 [.int .i64 f.1, .int .i64 f.2] :: dkI p1 y1 dA)) (σ := DkS) (fun x' => x'.y.p = (x2).y.p) (fun _ => .tuple #[strV s, .agg #[.int .i64 h.1, .int .i64 h.2]]) (fun x' => dkI p2 x' dS) rfl rfl rfl Tryz.call7 (fun w hw => hdoS p2 x2 w (res_part hw).1 (res_part hw).2 (Rds.mono (hw.offm (fun c hc => List.mem_append_left _ hc)) hv) (hL.part hw)) rfl (fun y2 _ => ?_)
  refine wm rfl rfl ?_
  refine w_val (v_extract rfl rfl) rfl ?_
  refine w_val (v_extract rfl rfl) rfl ?_
  refine w_op rfl ?_
  refine x_alloc (z := .agg #[.int .i64 0, .int .i64 0]) (by intro w; exact Tryz.zeroValue29 w) rfl (fun b11 => ?_)
  refine wa rfl rfl ?_
  refine w_op rfl ?_
  refine x_storeA (vs := #[.int .i64 h.1, .int .i64 h.2]) 0 rfl rfl rfl Tryz.hi29 Tryz.cz29 rfl (by simp [Value.oneCell']) ?_
  refine wsr ?_
  refine wm rfl rfl ?_
  refine wm rfl rfl ?_
  refine wm rfl rfl ?_
  refine w_val (v_is (v' := slV Al k l.length kl 1) (v_sliceL Tryz.underlying22 Tryz.hi9 Tryz.cz9 rfl rfl (by omega)) (by rw [Int.toNat_natCast])) rfl ?_
  refine w_op rfl ?_
  refine g_heap (m' := dkI p1 y1 dA ++ [Chunk.blk b11 29 [.int .i64 h.1, .int .i64 h.2], Chunk.blk b9 29 [.int .i64 f.1, .int .i64 f.2]]) (fun _ hw => hw.pick [10, 11, 12, 13, 14, 15, 16, 17, 0, 9] (by decide)) ?_; refine x_call (dst := some 54) (mc := dkI p1 y1 dA) (mr := [Chunk.blk b11 29 [.int .i64 h.1, .int .i64 h.2], Chunk.blk b9 29 [.int .i64 f.1, .int .i64 f.2]]) (σ := DkS) (fun x' => x'.y.p = (y1).y.p) (fun _ => .tuple #[strV b, .agg #[.int .i64 g.1, .int .i64 g.2]]) (fun x' => dkI p1 x' dB) rfl rfl rfl Tryz.call7 (fun w hw => hdoB p1 y1 w (res_part hw).1 (res_part hw).2 (Rds.mono (hw.offm (fun c hc => List.mem_append_left _ hc)) hv2) (hL.part hw)) rfl (fun z1 _ => ?_)
  refine wm rfl rfl ?_
  refine w_val (v_extract rfl rfl) rfl ?_
  refine w_val (v_extract rfl rfl) rfl ?_
  refine w_op rfl ?_
  refine x_alloc (z := .agg #[.int .i64 0, .int .i64 0]) (by intro w; exact Tryz.zeroValue29 w) rfl (fun b13 => ?_)
  refine wa rfl rfl ?_
  refine w_op rfl ?_
  refine x_storeA (vs := #[.int .i64 g.1, .int .i64 g.2]) 0 rfl rfl rfl Tryz.hi29 Tryz.cz29 rfl (by simp [Value.oneCell']) ?_
  refine w_nil ?_
  refine e_seq ?_
  refine esr ?_
  refine w_val (v_fieldAddrB (o := 0) Tryz.underlying29 rfl rfl Tryz.nz3 rfl) rfl ?_
  refine w_val (v_loadB 9 rfl Tryz.underlying3 rfl rfl rfl) rfl ?_
  refine w_val (v_neq rfl rfl) rfl ?_
  refine w_nil ?_
  refine e_condD rfl (fun hh => ?_) (fun hh => ?_)
  · have hj := hjn.1 hh
    refine e_seq ?_
    by_cases hf : f.1 = 0
    · refine e_region ?_
      refine w_val (v_fieldAddrB (o := 0) Tryz.underlying29 rfl rfl Tryz.nz3 rfl) rfl ?_
      refine w_val (v_loadB 10 rfl Tryz.underlying3 rfl rfl rfl) rfl ?_
      refine w_val (v_is (v' := .bool false) (v_neq rfl rfl) (by rw [decide_eq_false (fun e => e hf)])) rfl ?_
      refine wm rfl rfl ?_
      refine w_want rfl rfl ?_
      refine w_val (v_fieldAddrB (o := 0) Tryz.underlying29 rfl rfl Tryz.nz3 rfl) rfl ?_
      refine w_want rfl rfl ?_
      refine w_val (v_loadB 0 rfl Tryz.underlying3 rfl rfl rfl) rfl ?_
      refine w_want rfl rfl ?_
      refine w_val (v_is (v' := .bool true) (v_neq rfl rfl) (by rw [decide_eq_true (hj.resolve_left (fun e => e hf))])) rfl ?_
      refine w_val (v_pickF rfl rfl) rfl ?_
      refine wa rfl rfl ?_
      refine w_nil ?_
      refine e_retQ (q_ret1 rfl (.tmp rfl) ?_)
      exact fun w' hw' => ⟨rfl, hw'.res.nil⟩
    · refine e_region ?_
      refine w_val (v_fieldAddrB (o := 0) Tryz.underlying29 rfl rfl Tryz.nz3 rfl) rfl ?_
      refine w_val (v_loadB 10 rfl Tryz.underlying3 rfl rfl rfl) rfl ?_
      refine w_val (v_is (v' := .bool true) (v_neq rfl rfl) (by rw [decide_eq_true hf])) rfl ?_
      refine wm rfl rfl ?_
      refine w_skip rfl rfl rfl rfl ?_
      refine w_skip rfl rfl rfl rfl ?_
      refine w_skip rfl rfl rfl rfl ?_
      refine w_val (v_pickT rfl rfl) rfl ?_
      refine wa rfl rfl ?_
      refine w_nil ?_
      refine e_retQ (q_ret1 rfl (.tmp rfl) ?_)
      exact fun w' hw' => ⟨rfl, hw'.res.nil⟩
  · obtain ⟨hf, hg, hab⟩ := hjn.2 (by omega)
    refine e_skip ?_
    refine esr ?_
    refine w_op rfl ?_
    refine x_call (dst := some 69) (mc := []) (σ := Nat × DkS) (fun _ => True) (fun z => .pointer (some ⟨z.1, 0, none⟩)) (fun z => dkI z.1 z.2 dk0) rfl rfl rfl Tryz.call6 (fun w _ => dkNew_spec w) rfl (fun z _ => ?_); obtain ⟨p3, x3⟩ := z; dsimp only
    refine wm rfl rfl ?_
    refine w_op rfl ?_
    refine g_heap (m' := dkI p3 x3 dk0 ++ [Chunk.blk b13 29 [.int .i64 g.1, .int .i64 g.2], Chunk.blk b11 29 [.int .i64 h.1, .int .i64 h.2], Chunk.blk b9 29 [.int .i64 f.1, .int .i64 f.2]]) (fun _ hw => hw.pick [0, 1, 2, 3, 4, 5, 6, 7, 8, 17, 18] (by decide)) ?_; refine x_call (dst := some 71) (mc := dkI p3 x3 dk0) (mr := [Chunk.blk b13 29 [.int .i64 g.1, .int .i64 g.2], Chunk.blk b11 29 [.int .i64 h.1, .int .i64 h.2], Chunk.blk b9 29 [.int .i64 f.1, .int .i64 f.2]]) (σ := DkS) (fun x' => x'.y.p = (x3).y.p) (fun _ => .tuple #[strV s, .agg #[.int .i64 h.1, .int .i64 h.2]]) (fun x' => dkI p3 x' dS) rfl rfl rfl Tryz.call7 (fun w hw => hdoS p3 x3 w (res_part hw).1 (res_part hw).2 (Rds.mono (hw.offm (fun c hc => List.mem_append_left _ hc)) hv) (hL.part hw)) rfl (fun y3 _ => ?_)
    refine wm rfl rfl ?_
    refine w_val (v_extract rfl rfl) rfl ?_
    refine w_val (v_extract rfl rfl) rfl ?_
    refine w_op rfl ?_
    refine x_alloc (z := .agg #[.int .i64 0, .int .i64 0]) (by intro w; exact Tryz.zeroValue29 w) rfl (fun b15 => ?_)
    refine wa rfl rfl ?_
    refine w_op rfl ?_
    refine x_storeA (vs := #[.int .i64 h.1, .int .i64 h.2]) 0 rfl rfl rfl Tryz.hi29 Tryz.cz29 rfl (by simp [Value.oneCell']) ?_
    refine w_nil ?_
    refine e_seq ?_
    refine e_region ?_
    refine w_val (v_fieldAddrB (o := 0) Tryz.underlying29 rfl rfl Tryz.nz3 rfl) rfl ?_
    refine w_val (v_loadB 11 rfl Tryz.underlying3 rfl rfl rfl) rfl ?_
    refine w_val (v_is (v' := .bool true) (v_eql rfl rfl) (by rw [decide_eq_true hf])) rfl ?_
    refine wm rfl rfl ?_
    refine w_want rfl rfl ?_
    refine w_val (v_fieldAddrB (o := 0) Tryz.underlying29 rfl rfl Tryz.nz3 rfl) rfl ?_
    refine w_want rfl rfl ?_
    refine w_val (v_loadB 9 rfl Tryz.underlying3 rfl rfl rfl) rfl ?_
    refine w_want rfl rfl ?_
    refine w_val (v_is (v' := .bool true) (v_eql rfl rfl) (by rw [decide_eq_true hg])) rfl ?_
    refine w_val (v_pickT rfl rfl) rfl ?_
    refine wm rfl rfl ?_
    refine w_want rfl rfl ?_
    refine wm rfl rfl ?_
    refine w_want rfl rfl ?_
    refine wm rfl rfl ?_
    refine w_want rfl rfl ?_
    refine w_val (v_is (v' := strV s) (v_strAdd rfl rfl (by rw [← List.length_append, hab]; omega)) (by rw [hab])) rfl ?_
    refine w_want rfl rfl ?_
    refine wm rfl rfl ?_
    refine w_want rfl rfl ?_
    refine w_val (v_is (v' := .bool true) (v_strEql rfl rfl) (by rw [decide_eq_true rfl])) rfl ?_
    refine w_val (v_pickT rfl rfl) rfl ?_
    refine wm rfl rfl ?_
    refine w_want rfl rfl ?_
    refine wm rfl rfl ?_
    refine w_want rfl rfl ?_
    refine wm rfl rfl ?_
    refine w_want rfl rfl ?_
    refine w_val (v_is (v' := .bool true) (v_strEql rfl rfl) (by rw [decide_eq_true rfl])) rfl ?_
    refine w_val (v_pickT rfl rfl) rfl ?_
    refine wa rfl rfl ?_
    refine w_nil ?_
    refine e_retQ (q_ret1 rfl (.tmp rfl) ?_)
    exact fun w' hw' => ⟨rfl, hw'.res.nil⟩
end Go.SL
end
