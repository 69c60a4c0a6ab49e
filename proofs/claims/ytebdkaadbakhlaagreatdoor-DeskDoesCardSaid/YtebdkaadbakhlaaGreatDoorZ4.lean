/- YtebdkaadbakhlaaGreatDoor: part Z4 of this seat's own texts. -/
import Derived.Lib.Join
import Derived.Test.YtebdkaadbakhlaaGreatDoorZ3
import Derived.Test.YtebdkaadbakhlaaGreatDoorP5
set_option linter.unusedVariables false
set_option linter.unusedSimpArgs false
section
open Go Go.Proofs Go.SL Go.RowKit
set_option maxRecDepth 100000
set_option maxHeartbeats 4000000
namespace Go.SL
def printS (d : DeedL) : List UInt8 × (Int × Int) := if (checkL d).1 ≠ 0 then ([], checkL d) else (printL d, (0, 0))
theorem kind_in {o : OpL} (h : opFaultL o = 0) : 1 ≤ o.kind ∧ o.kind ≤ 9 := by
 unfold opFaultL at h
 split at h
 ·cases h
 ·omega
theorem lens_le {xs : List (List UInt8)} {m : Nat} (h : ∀ x ∈ xs, x.length ≤ m) : Lib.lens xs ≤ m * xs.length := by
 induction xs with
 | nil => simp [Lib.lens]
 | cons x r ih =>
  have h1 := ih fun y hy => h y (List.mem_cons_of_mem _ hy)
  have h2 := h x List.mem_cons_self
  have e : Lib.lens (x :: r) = x.length + Lib.lens r := by simp [Lib.lens]
  rw [e, List.length_cons, Nat.mul_succ]
  omega
theorem join_len {xs : List (List UInt8)} {m : Nat} (h : ∀ x ∈ xs, x.length ≤ m) : (Lib.join xs [59, 32]).length ≤ (m + 2) * xs.length := by
 cases xs with
 | nil => simp [Lib.join_nil]
 | cons x r =>
  have h1 := lens_le h
  rw [Lib.join_length]
  simp only [List.length_cons, List.length_nil] at h1 ⊢
  have := Nat.add_mul m 2 (r.length + 1)
  omega
theorem printL_len {d : DeedL} (hd : d.length ≤ 14) (h : ∀ o ∈ d, OpIn o) : (printL d).length ≤ 1428 := by
 have h1 := join_len (xs := d.map opText) (m := 100) (fun x hx => by obtain ⟨o, ho, rfl⟩ := List.mem_map.1 hx; exact opText_len (h o ho))
 rw [List.length_map] at h1
 unfold printL
 omega
theorem txPrint_spec (v : Value) (d : DeedL) (w : World) (h : IsDeed w.cell? v d) (hin : ∀ o ∈ d, OpIn o) (hL : LaidD w) : Calls Tryz.prog 93 #[v] w fun e w' => e = .returned (.tuple #[strV (printS d).1, faultV (printS d).2]) ∧ Res w [] [] w' := by
 rw [← off_none w] at h
 have hs := h
 obtain ⟨A, kp, rfl, hle, hc⟩ := h.form
 have hchk := fun (hz : (checkL d).1 = 0) => checked hz
 unfold printS
 refine enter0 (N := 29) Tryz.func93 rfl rfl rfl <| esr <| wa rfl rfl <| w_op rfl ?_
 refine x_alloc (z := .agg #[.int .i64 0, .int .i64 0]) (by intro w; exact Tryz.zeroValue42 w) rfl (fun b3 => ?_)
 refine w_nil <| e_seq <| esr <| wm rfl rfl ?_
 generalize hck : checkL d = ck at *
 obtain ⟨c, at'⟩ := ck
 dsimp only at hchk ⊢
 refine w_op rfl ?_
 refine x_call0 (v := .agg #[.int .i64 c, .int .i64 at']) rfl rfl rfl Tryz.call75 rfl (fun w hw => by have := check_spec _ d w (hs.mono hw.off); rwa [hck] at this) ?_
 refine w_op rfl ?_
 refine x_alloc (z := .agg #[.int .i64 0, .int .i64 0]) (by intro w; exact Tryz.zeroValue42 w) rfl (fun b4 => ?_)
 refine w_op rfl ?_
 refine x_storeA 0 rfl rfl rfl Tryz.hi42 Tryz.cz42 rfl (by first | (simp [Value.oneCell', opCells]; done) | assumption | exact one_ints _ | exact one_resCells _ _ | exact one_slotC _) ?_
 refine wsr <| w_val (v_fieldAddrB (o := 0) uT42 rfl rfl Tryz.nz3 rfl) rfl <| w_val (v_loadB 0 rfl uT3 rfl rfl rfl) rfl <| w_val (v_neq rfl rfl) rfl <| w_nil ?_
 refine e_condD rfl (fun hne => ?_) (fun hne => ?_)
 ·refine e_seq <| e_draw ([.blk b4 42 [.int .i64 c, .int .i64 at']]) Tryz.mixed <| tk 0 rfl (v_loadBA 0 rfl uT42 rfl Tryz.hi42 Tryz.cz42 rfl) rfl <| tk 1 rfl (v_assign rfl) rfl <| t1 2 rfl rfl ?_
  refine x_storeA 1 rfl rfl rfl Tryz.hi42 Tryz.cz42 rfl (by first | (simp [Value.oneCell', opCells]; done) | assumption | exact one_ints _ | exact one_resCells _ _ | exact one_slotC _) ?_
  refine tn <| td ?_
  refine e_retQ (q_ret2 rfl (.tmp rfl) (ResV.agg 1 rfl rfl (by rw [isAggD, uT42]; rfl) (Tryz.cz42) Tryz.hi42) ?_)
  exact fun w' hw' => ⟨by rw [if_pos hne]; rfl, hw'.res.nil⟩
 ·have hc0 : c = 0 := by omega
  obtain ⟨h14, hops⟩ := hchk hc0
  refine e_skip <| esr <| wa rfl rfl <| w_nil <| e_seq <| esr <| wm rfl rfl <| w_val (v_lenS uT80 rfl) rfl <| wm rfl rfl <| w_nil <| e_block ?_
  refine e_loopH (σ := Nat × Value) [0, 3, 14, 15] (.cons rfl (.cons rfl (.cons rfl (.cons rfl .nil)))) (fun x => [(16, .int .i64 (x.1 : Int)), (5, x.2)]) (fun x => [Own x.2 9 1 x.1 (strC ((d.take x.1).map opText)), .blk b4 42 [.int .i64 c, .int .i64 at'], .blk b3 42 [.int .i64 0, .int .i64 0]]) (fun x => x.1 ≤ d.length) (fun x => d.length - x.1) (0, .slice none 0 0) (Nat.zero_le _) (by repeat first | exact .nil _ | refine .cons rfl ?_) (fun _ hw => hw.ownNil 9 1) ?_
  rintro ⟨k, sv⟩ hk
  dsimp only at hk ⊢
  refine esr <| w_val (v_lss rfl rfl) rfl <| w_nil <| e_seq ?_
  refine e_condD rfl (fun hlt => ?_) (fun hlt => ?_)
  ·have hk' : k < d.length := by omega
   obtain ⟨ad, rfl, hop⟩ := IsDeed.cells hc hk'
   have hkin := kind_in (hops k hk').1
   have hoin := hin _ (List.getElem_mem hk')
   have hnx : strC ((d.take (k + 1)).map opText) = strC ((d.take k).map opText) ++ [strV (opText d[k])] := by rw [List.take_succ_eq_append_getElem hk', List.map_append, strC_app]; rfl
   have hln : (strC ((d.take k).map opText)).length = k := by rw [strC_len, List.length_map, List.length_take]; omega
   generalize hpost : strC ((d.take (k + 1)).map opText) = post at *
   generalize strC ((d.take k).map opText) = pre at *
   generalize d[k] = o at *
   refine e_skip <| e_seq <| e_block <| esr ?_
   refine w_val (v_indexS uT80 Tryz.hi109 Tryz.cz109 rfl rfl (by first | omega | decide)) rfl ?_
   refine w_val (v_loadON uT109 rfl Tryz.hi109 rfl (hop) Tryz.cz109) rfl <| w_op rfl ?_
   refine x_alloc (z := .agg #[.int .i64 0, .int .i64 0, .int .i64 0, .int .i64 0, .int .i64 0]) (by intro w; exact Tryz.zeroValue109 w) rfl (fun b7 => ?_)
   refine w_op rfl ?_
   refine x_storeA 0 rfl rfl rfl Tryz.hi109 Tryz.cz109 rfl (by first | (simp [Value.oneCell', opCells]; done) | assumption | exact one_ints _ | exact one_resCells _ _ | exact one_slotC _) ?_
   refine wre <| wm rfl rfl <| w_val (v_loadBA 0 rfl uT109 rfl Tryz.hi109 Tryz.cz109 rfl) rfl <| w_op rfl ?_
   refine x_call0 (v := strV (opText o)) rfl rfl rfl Tryz.call129 rfl (fun w hw => txOp_spec o w hkin hoin (hL.chg hw.chg)) ?_
   refine w_op rfl ?_
   refine x_buildSlice _ ([strV (opText o)]) rfl (run_buildSlice uT22 Tryz.hi9 Tryz.cz9 Tryz.zeroValue9 rfl (by kernel_rfl)) rfl (fun b23 => ?_)
   refine w_op rfl ?_
   refine x_appendIS (z := .string ⟨#[]⟩) (n := k) (xs := pre) (size := 1) (bytes := 16) (k := 1) (news := [strV (opText o)]) 2 rfl rfl rfl uT22 (by kernel_rfl) rfl (by decide) (fun w hw => blk_rds (hw.hold _ (List.mem_cons_self ..)) rfl) (by intro u hu; simp only [List.mem_singleton] at hu; subst hu; rfl) (by omega) (by simp only [maxLen]; omega) rfl (fun A4 cap4 _ => ?_)
   refine wa rfl rfl <| w_nil <| e_blk <| e_region ?_
   refine w_val (v_add rfl rfl (by omega)) rfl ?_
   refine wm rfl rfl <| w_nil ?_
   exact e_round ((k + 1, .slice A4 (k + 1) cap4)) (by dsimp only; omega) (by dsimp only; omega) (by repeat first | exact .nil _ | refine .cons rfl ?_) (fun _ hw => by dsimp only; rw [hpost, hnx]; exact hw.pick [2, 3, 4] (by decide))
  ·have e : k = d.length := by omega
   subst e
   rw [List.take_length]
   have hlj := printL_len h14 hin
   have hml : (d.map opText).length = d.length := List.length_map ..
   rw [← hml]
   refine e_exit rfl <| esr <| wm rfl rfl <| w_op rfl ?_
   refine x_call0 (v := strV (printL d)) rfl rfl rfl Tryz.call48 rfl (fun w hw => join_spec (d.map opText) sv _ w (hw.mem (i := 0) rfl) (by show (printL d).length ≤ _; omega) (by rw [hml]; omega)) ?_
   refine w_val (v_build (v := faultV (0, 0)) _ rfl (by intro _; simp [Instr.build, Instr.fill, Tryz.zeroValue42, go_sem]; rfl)) rfl ?_
   refine wa rfl rfl <| w_op rfl ?_
   refine x_storeA 2 rfl rfl rfl Tryz.hi42 Tryz.cz42 rfl (by first | (simp [Value.oneCell', opCells]; done) | assumption | exact one_ints _ | exact one_resCells _ _ | exact one_slotC _) ?_
   refine w_nil ?_
   refine e_retQ (q_ret2 rfl (.tmp rfl) (ResV.agg 2 rfl rfl (by rw [isAggD, uT42]; rfl) (Tryz.cz42) Tryz.hi42) ?_)
   exact fun w' hw' => ⟨by rw [if_neg hne]; rfl, hw'.res.nil⟩
end Go.SL
end
section
open Go Go.Proofs Go.SL Go.RowKit
set_option maxRecDepth 100000
set_option maxHeartbeats 4000000
namespace Go.SL
theorem wordsW_some : ∀ (s w : List UInt8), w ≠ [] → wordsW w s ≠ []
 | [], w, h => by rw [wordsW, if_neg h]; simp
 | b :: t, w, h => by
  rw [wordsW]
  split
  ·simp [h]
  ·exact wordsW_some t _ (by simp)
theorem words_none : ∀ (s : List UInt8), wordsL s = [] ↔ ∀ b ∈ s, b = 32
 | [] => by simp [wordsL, wordsW]
 | b :: t => by
  have ih := words_none t
  unfold wordsL at ih ⊢
  rw [wordsW]
  split
  ·rename_i hb
   rw [if_pos rfl, ih]
   simp [hb]
  ·rename_i hb
   constructor
   ·intro h; exact absurd h (wordsW_some t _ (by simp))
   ·intro h; exact absurd (h b (by simp)) hb
theorem mem_drop {c b : UInt8} (hb : b ≠ c) : ∀ {l : List UInt8}, b ∈ l → b ∈ l.dropWhile (· == c)
 | x :: t, h => by
  rw [List.dropWhile_cons]
  split
  ·rename_i hx
   rcases List.mem_cons.1 h with rfl | h
   ·exact absurd (by simpa using hx) hb
   ·exact mem_drop hb h
  ·exact h
theorem drop_all {c : UInt8} : ∀ {l : List UInt8}, (∀ b ∈ l, b = c) → l.dropWhile (· == c) = []
 | [], _ => rfl
 | x :: t, h => by
  rw [List.dropWhile_cons, if_pos (by simp [h x (by simp)])]
  exact drop_all fun b hb => h b (List.mem_cons_of_mem _ hb)
theorem trim_none (s : List UInt8) : Lib.trimB s 32 = [] ↔ wordsL s = [] := by
 rw [words_none]
 constructor
 ·intro h b hb
  by_cases h2 : b = 32
  ·exact h2
  ·have h3 : b ∈ Lib.trimRightB s 32 := List.mem_reverse.2 (mem_drop h2 (List.mem_reverse.2 hb))
   have h4 : b ∈ Lib.trimB s 32 := mem_drop h2 h3
   rw [h] at h4
   cases h4
 ·intro h
  have h1 : s.reverse.dropWhile (· == 32) = [] := drop_all fun x hx => h x (List.mem_reverse.1 hx)
  have h2 : Lib.trimRightB s 32 = [] := by unfold Lib.trimRightB; rw [h1]; rfl
  unfold Lib.trimB
  rw [h2]
  rfl
theorem wordsW_len : ∀ (s w : List UInt8) (x : List UInt8), x ∈ wordsW w s → x.length ≤ w.length + s.length
 | [], w, x, h => by
  rw [wordsW] at h
  split at h
  ·cases h
  ·rw [List.mem_singleton] at h; subst h; simp
 | b :: t, w, x, h => by
  rw [wordsW] at h
  simp only [List.length_cons]
  split at h
  ·split at h
   ·have := wordsW_len t [] x h; simp at this; omega
   ·rcases List.mem_cons.1 h with rfl | h
    ·omega
    ·have := wordsW_len t [] x h; simp at this; omega
  ·have := wordsW_len t _ x h; simp at this; omega
theorem wordsW_count : ∀ (s w : List UInt8), (wordsW w s).length ≤ s.length + 1
 | [], w => by rw [wordsW]; split <;> simp
 | b :: t, w => by
  rw [wordsW]
  have h1 := wordsW_count t []
  have h2 := wordsW_count t (w ++ [b])
  simp only [List.length_cons]
  split
  ·split
   ·omega
   ·simp only [List.length_cons]; omega
  ·omega
theorem splitL_len (c : UInt8) : ∀ (s x : List UInt8), x ∈ splitL c s → x.length ≤ s.length
 | [], x, h => by simp [splitL] at h; subst h; simp
 | b :: t, x, h => by
  unfold splitL at h
  simp only [List.length_cons]
  split at h
  ·rcases List.mem_cons.1 h with rfl | h
   ·simp
   ·have := splitL_len c t x h; omega
  ·split at h
   ·rw [List.mem_singleton] at h; subst h; simp
   ·rename_i p ps hp
    rcases List.mem_cons.1 h with rfl | h
    ·have := splitL_len c t p (by rw [hp]; simp); simp; omega
    ·have := splitL_len c t x (by rw [hp]; exact List.mem_cons_of_mem _ h); omega
theorem splitL_count (c : UInt8) : ∀ s : List UInt8, (splitL c s).length ≤ s.length + 1
 | [] => by simp [splitL]
 | b :: t => by
  have ih := splitL_count c t
  unfold splitL
  simp only [List.length_cons]
  split
  ·simp only [List.length_cons]; omega
  ·split
   ·simp
   ·rename_i p ps hp
    rw [hp] at ih
    simp only [List.length_cons] at ih ⊢
    omega
theorem one_opCells (o : OpL) : ∀ u ∈ opCells o, u.oneCell' = true := by
 intro u hu
 simp only [opCells, List.mem_cons, List.not_mem_nil, or_false] at hu
 rcases hu with rfl | rfl | rfl | rfl | rfl <;> rfl
theorem parseFrom_at {ps : List (List UInt8)} {i : Nat} {acc : DeedL} (h : i < ps.length) : parseFrom i acc (ps.drop i) = match oneL (wordsL ps[i]) with | none => ([], (10, (i : Int))) | some o => parseFrom (i + 1) (acc ++ [o]) (ps.drop (i + 1)) := by
 rw [List.drop_eq_getElem_cons h]
 rfl
theorem txParse_spec (s : List UInt8) (w : World) (hs : s.length ≤ 100000) (hL : LaidD w) : Calls Tryz.prog 41 #[strV s] w fun e w' => ∃ v : Value, True ∧ e = .returned (.tuple #[v, faultV (parseL s).2]) ∧ Res w [] [Own v 109 5 (parseL s).1.length (deedCells (parseL s).1)] w' := by
 refine enter0 (N := 45) Tryz.func41 rfl rfl rfl <| esr <| wa rfl rfl <| w_op rfl ?_
 refine x_alloc (z := .agg #[.int .i64 0, .int .i64 0]) (by intro w; exact Tryz.zeroValue42 w) rfl (fun b3 => ?_)
 refine wsr <| wa rfl rfl <| w_nil <| e_seq <| esr <| wm rfl rfl <| w_op rfl ?_
 refine x_call0 (v := strV (Lib.trimB s 32)) rfl rfl rfl Tryz.call71 rfl (fun w hw => trim_spec s w (by omega)) ?_
 by_cases hw0 : wordsL s = []
 ·have hp : parseL s = ([], (0, 0)) := by unfold parseL; rw [if_pos hw0]
  rw [hp]
  refine w_val (v_is (v' := .bool true) (v_strEql rfl rfl) (by rw [decide_eq_true ((trim_none s).2 hw0)])) rfl ?_
  refine w_nil <| e_condT rfl <| esr ?_
  refine w_val (v_build (v := faultV (0, 0)) _ rfl (by intro _; simp [Instr.build, Instr.fill, Tryz.zeroValue42, go_sem]; rfl)) rfl ?_
  refine wa rfl rfl <| w_op rfl ?_
  refine x_storeA 0 rfl rfl rfl Tryz.hi42 Tryz.cz42 rfl (by first | (simp [Value.oneCell', opCells]; done) | assumption | exact one_ints _ | exact one_resCells _ _ | exact one_slotC _) ?_
  refine w_nil ?_
  refine e_retQ (q_ret2 rfl (.tmp rfl) (ResV.agg 0 rfl rfl (by rw [isAggD, uT42]; rfl) (Tryz.cz42) Tryz.hi42) ?_)
  exact fun w' hw' => ⟨.slice none 0 0, trivial, rfl, ((hw'.ownNil 109 5).pick [0] (by decide)).res⟩
 ·have hp : parseL s = parseFrom 0 [] (splitL 59 s) := by unfold parseL; rw [if_neg hw0]
  have hpl := splitL_len 59 s
  have hpc := splitL_count 59 s
  have hsplit := fun (w1 : World) h1 => split_spec s w1 (by omega) h1
  generalize splitL 59 s = ps at *
  generalize parseL s = res at *
  refine w_val (v_is (v' := .bool false) (v_strEql rfl rfl) (by rw [decide_eq_false (fun h => hw0 ((trim_none s).1 h))])) rfl ?_
  refine w_nil <| e_condF rfl <| e_skip <| e_seq <| esr <| wm rfl rfl <| w_op rfl ?_
  refine x_call (dst := some 15) (mc := []) (σ := Nat) (fun _ => True) (fun b => .slice (some ⟨b, 0, none⟩) ps.length ps.length) (fun b => [.blk b 9 (strC ps)]) rfl rfl rfl Tryz.call22 (fun w hw => hsplit w (hL.chg hw.chg)) rfl (fun b15 _ => ?_)
  refine w_val (v_lenS uT22 rfl) rfl <| wm rfl rfl <| w_nil <| e_block ?_
  refine e_loopH (σ := Nat × Value × DeedL) [3, 15, 16] (.cons rfl (.cons rfl (.cons rfl .nil))) (fun x => [(17, .int .i64 (x.1 : Int)), (4, x.2.1)]) (fun x => [Own x.2.1 109 5 x.2.2.length (deedCells x.2.2), .blk b15 9 (strC ps), .blk b3 42 [.int .i64 0, .int .i64 0]]) (fun x => x.1 ≤ ps.length ∧ x.2.2.length = x.1 ∧ parseFrom x.1 x.2.2 (ps.drop x.1) = res) (fun x => ps.length - x.1) (0, .slice none 0 0, []) ⟨Nat.zero_le _, rfl, hp.symm⟩ (by repeat first | exact .nil _ | refine .cons rfl ?_) (fun _ hw => hw.ownNil 109 5) ?_
  rintro ⟨i, ov, acc⟩ ⟨hi, hal, hrel⟩
  dsimp only at hi hal hrel ⊢
  refine esr <| w_val (v_lss rfl rfl) rfl <| w_nil <| e_seq ?_
  refine e_condD rfl (fun hlt => ?_) (fun hlt => ?_)
  ·have hi' : i < ps.length := by omega
   rw [parseFrom_at hi'] at hrel
   have hpi := hpl _ (List.getElem_mem hi')
   have hcell : (strC ps)[0 + ((i : Int)).toNat * 1]? = some (strV ps[i]) := by
    rw [Int.toNat_natCast, Nat.mul_one, Nat.zero_add]; exact strC_at (List.getElem?_eq_getElem hi')
   generalize ps[i] = p at *
   have hwl := fun x h => wordsW_len p [] x h
   have hwc := wordsW_count p []
   refine e_skip <| e_seq <| e_block <| esr <| wm rfl rfl ?_
   refine w_val (v_indexSB uT22 Tryz.hi9 Tryz.cz9 rfl rfl (by first | omega | decide)) rfl ?_
   refine w_val (v_loadB 1 rfl uT9 rfl rfl hcell) rfl <| wa rfl rfl <| wa rfl rfl <| wsr <| wm rfl rfl <| w_op rfl ?_
   refine x_call (dst := some 24) (mc := []) (σ := Value) (fun _ => True) (fun v => v) (fun v => [Own v 9 1 (wordsL p).length (strC (wordsL p))]) rfl rfl rfl Tryz.call73 (fun w hw => fields_spec p w (by omega)) rfl (fun fv _ => ?_)
   refine w_op rfl ?_
   refine x_call (dst := some 25) (mc := []) (σ := OpL) (fun z => ∀ o, oneL (wordsL p) = some o → z = o) (fun z => .tuple #[opV z, .bool (oneL (wordsL p)).isSome]) (fun _ => []) rfl rfl rfl Tryz.call72 (fun w hw => txOne_spec fv (wordsL p) w (own_rds (hw.mem (i := 0) rfl)) (fun x hx => by have := hwl x hx; simp at this; omega) (by unfold wordsL; omega) (hL.chg hw.chg)) rfl (fun z hz => ?_)
   cases ho : oneL (wordsL p) with
   | none =>
    rw [ho] at hrel
    dsimp only at hrel
    subst hrel
    refine wm rfl rfl <| w_val (v_extract rfl rfl) rfl <| w_val (v_extract rfl rfl) rfl <| w_op rfl ?_
    refine x_alloc (z := .agg #[.int .i64 0, .int .i64 0, .int .i64 0, .int .i64 0, .int .i64 0]) (by intro w; exact Tryz.zeroValue109 w) rfl (fun b7 => ?_)
    refine w_op rfl ?_
    refine x_storeA 0 rfl rfl rfl Tryz.hi109 Tryz.cz109 rfl (by first | (simp [Value.oneCell', opCells]; done) | assumption | exact one_ints _ | exact one_resCells _ _ | exact one_slotC _) ?_
    refine wa rfl rfl <| w_nil <| e_seq <| esr <| wm rfl rfl <| w_val (v_not rfl) rfl <| w_nil <| e_condT rfl <| esr <| wm rfl rfl ?_
    refine w_val (v_build (v := faultV (10, (i : Int))) _ rfl (by intro _; simp [Instr.build, Instr.fill, Tryz.zeroValue42, go_sem]; rfl)) rfl ?_
    refine wa rfl rfl <| w_op rfl ?_
    refine x_storeA 4 rfl rfl rfl Tryz.hi42 Tryz.cz42 rfl (by first | (simp [Value.oneCell', opCells]; done) | assumption | exact one_ints _ | exact one_resCells _ _ | exact one_slotC _) ?_
    refine w_nil ?_
    refine e_retQ (q_ret2 rfl (.tmp rfl) (ResV.agg 4 rfl rfl (by rw [isAggD, uT42]; rfl) (Tryz.cz42) Tryz.hi42) ?_)
    exact fun w' hw' => ⟨.slice none 0 0, trivial, rfl, ((hw'.ownNil 109 5).pick [0] (by decide)).res⟩
   | some o =>
    rw [ho] at hrel
    dsimp only at hrel
    have hzo := hz o ho
    subst hzo
    have hsn := deedCells_snoc acc z
    have hll : (acc ++ [z]).length = acc.length + 1 := by simp
    refine wm rfl rfl <| w_val (v_extract rfl rfl) rfl <| w_val (v_extract rfl rfl) rfl <| w_op rfl ?_
    refine x_alloc (z := .agg #[.int .i64 0, .int .i64 0, .int .i64 0, .int .i64 0, .int .i64 0]) (by intro w; exact Tryz.zeroValue109 w) rfl (fun b7 => ?_)
    refine w_op rfl ?_
    refine x_storeA 0 rfl rfl rfl Tryz.hi109 Tryz.cz109 rfl (by first | (simp [Value.oneCell', opCells]; done) | assumption | exact one_ints _ | exact one_resCells _ _ | exact one_slotC _) ?_
    refine wa rfl rfl <| w_nil <| e_seq <| esr <| wm rfl rfl <| w_val (v_not rfl) rfl <| w_nil <| e_condF rfl <| e_skip <| e_region <| wm rfl rfl <| w_val (v_loadBA 0 rfl uT109 rfl Tryz.hi109 Tryz.cz109 rfl) rfl <| w_op rfl ?_
    refine x_buildSlice _ (opCells z) rfl (run_buildSlice uT80 Tryz.hi109 Tryz.cz109 Tryz.zeroValue109 rfl (by kernel_rfl)) rfl (fun b34 => ?_)
    refine w_op rfl ?_
    refine x_appendIS (z := .agg #[.int .i64 0, .int .i64 0, .int .i64 0, .int .i64 0, .int .i64 0]) (n := acc.length) (xs := deedCells acc) (size := 5) (bytes := 40) (k := 1) (news := opCells z) 3 rfl rfl rfl uT80 (by kernel_rfl) rfl (by decide) (fun w hw => blk_rds (hw.hold _ (List.mem_cons_self ..)) rfl) (one_opCells z) (by omega) (by simp only [maxLen]; omega) rfl (fun A4 cap4 _ => ?_); rw [← hsn, ← hll]
    refine wa rfl rfl <| w_nil <| e_blk <| e_region ?_
    refine w_val (v_add rfl rfl (by omega)) rfl ?_
    refine wm rfl rfl <| w_nil ?_
    exact e_round ((i + 1, .slice A4 (acc ++ [z]).length cap4, acc ++ [z])) (⟨by dsimp only; omega, by dsimp only; omega, hrel⟩) (by dsimp only; omega) (by repeat first | exact .nil _ | refine .cons rfl ?_) (fun _ hw => hw.pick [3, 4, 5] (by decide))
  ·have e : i = ps.length := by omega
   subst e
   rw [List.drop_length] at hrel
   have hrel : (if (checkL acc).1 ≠ 0 then ([], checkL acc) else (acc, (0, 0))) = res := hrel
   subst hrel
   refine e_exit rfl <| e_seq <| esr <| wm rfl rfl ?_
   generalize hck : checkL acc = ck at *
   obtain ⟨c, at'⟩ := ck
   dsimp only
   refine w_op rfl ?_
   refine x_call0 (v := .agg #[.int .i64 c, .int .i64 at']) rfl rfl rfl Tryz.call75 rfl (fun w hw => by have := check_spec ov acc w (own_rds (hw.mem (i := 0) rfl)); rwa [hck] at this) ?_
   refine w_op rfl ?_
   refine x_alloc (z := .agg #[.int .i64 0, .int .i64 0]) (by intro w; exact Tryz.zeroValue42 w) rfl (fun b9 => ?_)
   refine w_op rfl ?_
   refine x_storeA 0 rfl rfl rfl Tryz.hi42 Tryz.cz42 rfl (by first | (simp [Value.oneCell', opCells]; done) | assumption | exact one_ints _ | exact one_resCells _ _ | exact one_slotC _) ?_
   refine wsr <| w_val (v_fieldAddrB (o := 0) uT42 rfl rfl Tryz.nz3 rfl) rfl <| w_val (v_loadB 0 rfl uT3 rfl rfl rfl) rfl <| w_val (v_neq rfl rfl) rfl <| w_nil ?_
   refine e_condD rfl (fun hne => ?_) (fun hne => ?_)
   ·rw [if_pos hne]
    refine e_seq <| e_draw ([.blk b9 42 [.int .i64 c, .int .i64 at']]) Tryz.mixed <| tk 0 rfl (v_loadBA 0 rfl uT42 rfl Tryz.hi42 Tryz.cz42 rfl) rfl <| tk 1 rfl (v_assign rfl) rfl <| t1 2 rfl rfl ?_
    refine x_storeA 3 rfl rfl rfl Tryz.hi42 Tryz.cz42 rfl (by first | (simp [Value.oneCell', opCells]; done) | assumption | exact one_ints _ | exact one_resCells _ _ | exact one_slotC _) ?_
    refine tn <| td ?_
    refine e_retQ (q_ret2 rfl (.tmp rfl) (ResV.agg 3 rfl rfl (by rw [isAggD, uT42]; rfl) (Tryz.cz42) Tryz.hi42) ?_)
    exact fun w' hw' => ⟨.slice none 0 0, trivial, rfl, ((hw'.ownNil 109 5).pick [0] (by decide)).res⟩
   ·rw [if_neg hne]
    refine e_skip <| esr <| wm rfl rfl ?_
    refine w_val (v_build (v := faultV (0, 0)) _ rfl (by intro _; simp [Instr.build, Instr.fill, Tryz.zeroValue42, go_sem]; rfl)) rfl ?_
    refine wa rfl rfl <| w_op rfl ?_
    refine x_storeA 3 rfl rfl rfl Tryz.hi42 Tryz.cz42 rfl (by first | (simp [Value.oneCell', opCells]; done) | assumption | exact one_ints _ | exact one_resCells _ _ | exact one_slotC _) ?_
    refine w_nil ?_
    refine e_retQ (q_ret2 rfl (.tmp rfl) (ResV.agg 3 rfl rfl (by rw [isAggD, uT42]; rfl) (Tryz.cz42) Tryz.hi42) ?_)
    exact fun w' hw' => ⟨ov, trivial, rfl, (hw'.pick [1] (by decide)).res⟩
end Go.SL
end
