/- YtebdkaadbakhlaaGreatDoor: part RE1 of this seat's own texts: WHATEVER THE INPUT, the law E1 returns true and leaves what was there; no condition. -/
import Derived.Test.YtebdkaadbakhlaaGreatDoorZ4
import Derived.Test.YtebdkaadbakhlaaGreatDoorZ5
import Derived.Test.YtebdkaadbakhlaaGreatDoorW4
set_option linter.unusedVariables false
set_option linter.unusedSimpArgs false
section
open Go Go.Proofs Go.SL Go.RowKit
set_option maxRecDepth 100000
set_option maxHeartbeats 4000000
namespace Go.SL
structure NamesV (c : View) : Prop where
 names : ∃ A k, c ⟨0, 0, none⟩ = some (.slice A 10 k) ∧ Rds c (.slice A 10 k) 1 10 (strC kNames)
 counts : ∃ A k, c ⟨1, 0, none⟩ = some (.slice A 10 k) ∧ Rds c (.slice A 10 k) 1 10 (intCells kCounts)
theorem NamesV.mono {c c' : View} (hl : Le c c') (h : NamesV c) : NamesV c' := by
 obtain ⟨⟨A, k, h1, h2⟩, B, j, h3, h4⟩ := h
 exact ⟨⟨A, k, hl _ _ h1, h2.mono hl⟩, B, j, hl _ _ h3, h4.mono hl⟩
theorem NamesV.name {c : View} (h : NamesV c) : ∃ ad k, c ⟨0, 0, none⟩ = some (.slice (some ad) 10 k) ∧ ∀ i : Int, 0 ≤ i → i ≤ 9 → c (ad.add (i.toNat * 1)) = some (strV (kNames.getD i.toNat [])) := by
 obtain ⟨A, k, h1, A', k', h2, _, _, h3⟩ := h.names
 obtain ⟨ad, rfl, h4⟩ := h3 (by decide)
 injection h2 with e1
 subst e1
 refine ⟨ad, k, h1, fun i h0 h9 => ?_⟩
 have := name_at h0 h9
 rw [Nat.zero_add] at this
 exact h4 _ _ this
theorem count_at {i : Int} (h1 : 0 ≤ i) (h2 : i ≤ 9) : (intCells kCounts)[i.toNat * 1]? = some (.int .i64 (kCounts.getD i.toNat 0)) := by
 have : i = 0 ∨ i = 1 ∨ i = 2 ∨ i = 3 ∨ i = 4 ∨ i = 5 ∨ i = 6 ∨ i = 7 ∨ i = 8 ∨ i = 9 := by omega
 rcases this with rfl | rfl | rfl | rfl | rfl | rfl | rfl | rfl | rfl | rfl <;> rfl
theorem NamesV.count {c : View} (h : NamesV c) : ∃ ad k, c ⟨1, 0, none⟩ = some (.slice (some ad) 10 k) ∧ ∀ i : Int, 0 ≤ i → i ≤ 9 → c (ad.add (i.toNat * 1)) = some (.int .i64 (kCounts.getD i.toNat 0)) := by
 obtain ⟨A, k, h1, A', k', h2, _, _, h3⟩ := h.counts
 obtain ⟨ad, rfl, h4⟩ := h3 (by decide)
 injection h2 with e1
 subst e1
 exact ⟨ad, k, h1, fun i h0 h9 => h4 _ _ (count_at h0 h9)⟩
theorem byte_eq' (b c : UInt8) : ((b.toNat : Int) = (c.toNat : Int)) ↔ b = c := by rw [← UInt8.toNat_inj]; omega
theorem one_cut' {s : List UInt8} {i : Nat} (h : i < s.length) : (s.drop ((i : Int)).toNat).take (((i : Int) + 1).toNat - ((i : Int)).toNat) = [s[i]] := by
 have e : ((i : Int) + 1).toNat = i + 1 := by omega
 rw [e, Int.toNat_natCast, Nat.add_sub_cancel_left, List.drop_eq_getElem_cons h]
 rfl
theorem refWords_spec (s : List UInt8) (w : World) (hs : s.length ≤ 4000000) : Calls Tryz.prog 31 #[strV s] w fun e w' => ∃ v : Value, True ∧ e = .returned v ∧ Res w [] [Own v 9 1 (wordsL s).length (strC (wordsL s))] w' := by
 generalize hW : wordsL s = W at *
 refine enter0 (N := 36) Tryz.func31 rfl rfl rfl <| esr <| wa rfl rfl <| wsr <| wa rfl rfl <| wsr <| wa rfl rfl <| w_nil <| e_seq <| esr <| wa rfl rfl <| w_nil <| e_block ?_
 refine e_loopH (σ := Nat × Value × List (List UInt8) × List UInt8) [0] (.cons rfl .nil) (fun z => [(5, .int .i64 (z.1 : Int)), (3, z.2.1), (4, strV z.2.2.2)]) (fun z => [Own z.2.1 9 1 z.2.2.1.length (strC z.2.2.1)]) (fun z => z.1 ≤ s.length + 1 ∧ z.2.2.2.length ≤ z.1 ∧ z.2.2.1.length ≤ z.1 ∧ (z.1 ≤ s.length → z.2.2.1 ++ wordsW z.2.2.2 (s.drop z.1) = W) ∧ (s.length < z.1 → z.2.2.1 = W)) (fun z => s.length + 1 - z.1) (0, .slice none 0 0, [], []) ⟨Nat.zero_le _, Nat.le_refl _, Nat.le_refl _, fun _ => hW, fun h => by omega⟩ (by repeat first | exact .nil _ | refine .cons rfl ?_) (fun _ hw => hw.ownNil 9 1) ?_
 rintro ⟨i, ov, acc, cw⟩ ⟨hi, hcl, hal, hrel, hrel2⟩
 dsimp only at hi hcl hal hrel hrel2 ⊢
 refine g_shape 0 rfl (fun Ao ko hov _ => ?_)
 subst hov
 refine e_seq <| esr <| wm rfl rfl <| wm rfl rfl <| w_val (v_strLen uT9 rfl) rfl <| w_val (v_leq rfl rfl) rfl <| w_nil ?_
 refine e_condD rfl (fun hle => ?_) (fun hle => ?_)
 ·have hle' : i ≤ s.length := by omega
  have hr := hrel hle'
  clear hrel hrel2
  refine e_skip <| e_seq <| e_block <| e_seq <| e_seq ?_
  by_cases hlet : ∃ h : i < s.length, s[i] ≠ 32
  ·obtain ⟨hlt, hb⟩ := hlet
   have hat : s[((i : Int)).toNat]? = some s[i] := by rw [Int.toNat_natCast]; exact List.getElem?_eq_getElem hlt
   have hcut := one_cut' hlt
   rw [List.drop_eq_getElem_cons hlt, wordsW, if_neg hb] at hr
   generalize hbb : s[i] = b at *
   have e32 : decide (((b.toNat : Nat) : Int) ≠ 32) = decide (b ≠ 32) := decide_eq_decide.2 (not_congr (byte_eq' b 32))
   refine e_region <| wm rfl rfl <| wm rfl rfl <| w_val (v_strLen uT9 rfl) rfl ?_
   refine w_val (v_is (v' := .bool true) (v_lss rfl rfl) (by rw [decide_eq_true (by omega)])) rfl ?_
   refine wm rfl rfl <| w_want rfl rfl <| wm rfl rfl <| w_want rfl rfl <| wm rfl rfl <| w_want rfl rfl ?_
   refine w_val (v_strAt uT9 rfl rfl (by omega) hat) rfl ?_
   refine w_want rfl rfl ?_
   refine w_val (v_is (v' := .bool true) (v_neq rfl rfl) (by rw [e32, decide_eq_true hb])) rfl ?_
   refine w_val (v_pickT rfl rfl) rfl <| w_nil <| e_condT rfl <| esr <| wm rfl rfl <| wm rfl rfl <| wm rfl rfl <| wm rfl rfl ?_
   refine w_val (v_add rfl rfl (by omega)) rfl ?_
   refine w_val (v_is (v' := strV [b]) (v_strCut uT9 rfl rfl rfl (by omega)) (by rw [hcut])) rfl ?_
   refine w_val (v_strAdd rfl rfl (by simp only [lnA]; omega)) rfl ?_
   refine wa rfl rfl <| w_nil <| e_exit rfl <| e_region <| wm rfl rfl ?_
   refine w_val (v_add rfl rfl (by omega)) rfl ?_
   refine wa rfl rfl <| w_nil ?_
   exact e_round ((i + 1, .slice Ao acc.length ko, acc, cw ++ [b])) (⟨by dsimp only; omega, by dsimp only; simp; omega, by dsimp only; omega, fun _ => hr, fun h => by dsimp only at h; omega⟩) (by dsimp only; omega) (by repeat first | exact .nil _ | refine .cons rfl ?_) (fun _ hw => hw)
  ·have hnext : ∀ acc' : List (List UInt8), acc' = acc ++ (if cw = [] then [] else [cw]) → (i + 1 ≤ s.length → acc' ++ wordsW [] (s.drop (i + 1)) = W) ∧ (s.length < i + 1 → acc' = W) := fun acc' ha => by
    by_cases hlt : i < s.length
    ·have hb : s[i] = 32 := by
      by_cases hb : s[i] = 32
      ·exact hb
      ·exact absurd ⟨hlt, hb⟩ hlet
     rw [List.drop_eq_getElem_cons hlt, wordsW, if_pos hb] at hr
     refine ⟨fun _ => ?_, fun h => by omega⟩
     rw [ha]
     by_cases hc : cw = []
     ·rw [if_pos hc] at hr ⊢; rw [List.append_nil]; exact hr
     ·rw [if_neg hc] at hr ⊢; rw [List.append_assoc]; exact hr
    ·have e : i = s.length := by omega
     subst e
     rw [List.drop_length, wordsW] at hr
     exact ⟨fun h => by omega, fun _ => by rw [ha]; exact hr⟩
   refine e_cutK (σ := Unit) [0, 3, 4, 5] (.cons rfl (.cons rfl (.cons rfl (.cons rfl .nil)))) (fun _ => [(21, .bool false)]) (fun _ => True) ?_ ?_
   ·by_cases hlt : i < s.length
    ·have hb : s[i] = 32 := by
      by_cases hb : s[i] = 32
      ·exact hb
      ·exact absurd ⟨hlt, hb⟩ hlet
     have hat : s[((i : Int)).toNat]? = some 32 := by rw [Int.toNat_natCast, List.getElem?_eq_getElem hlt, hb]
     refine e_region <| wm rfl rfl <| wm rfl rfl <| w_val (v_strLen uT9 rfl) rfl ?_
     refine w_val (v_is (v' := .bool true) (v_lss rfl rfl) (by rw [decide_eq_true (by omega)])) rfl ?_
     refine wm rfl rfl <| w_want rfl rfl <| wm rfl rfl <| w_want rfl rfl <| wm rfl rfl <| w_want rfl rfl ?_
     refine w_val (v_strAt uT9 rfl rfl (by omega) hat) rfl ?_
     refine w_want rfl rfl ?_
     refine w_val (v_is (v' := .bool false) (v_neq rfl rfl) (by rw [show decide ((((32 : UInt8).toNat : Nat) : Int) ≠ 32) = false from by decide])) rfl ?_
     refine w_val (v_pickT rfl rfl) rfl <| w_nil ?_
     exact e_cutEnd (()) (trivial) (by repeat first | exact .nil _ | refine .cons rfl ?_) (fun _ hw => hw)
    ·refine e_region <| wm rfl rfl <| wm rfl rfl <| w_val (v_strLen uT9 rfl) rfl ?_
     refine w_val (v_is (v' := .bool false) (v_lss rfl rfl) (by rw [decide_eq_false (by omega)])) rfl ?_
     refine wm rfl rfl <| w_skip rfl rfl rfl rfl <| w_skip rfl rfl rfl rfl <| w_skip rfl rfl rfl rfl <| w_skip rfl rfl rfl rfl <| w_val (v_pickF rfl rfl) rfl <| w_nil ?_
     exact e_cutEnd (()) (trivial) (by repeat first | exact .nil _ | refine .cons rfl ?_) (fun _ hw => hw)
   ·rintro - -
    refine e_condF rfl <| e_skip <| e_seq <| esr <| wm rfl rfl <| w_val (v_strNeq rfl rfl) rfl <| w_nil ?_
    by_cases hc : cw = []
    ·subst hc
     obtain ⟨h1, h2⟩ := hnext acc (by simp)
     refine e_condF rfl <| e_skip <| e_region <| wa rfl rfl <| w_nil <| e_blk <| e_region <| wm rfl rfl ?_
     refine w_val (v_add rfl rfl (by omega)) rfl ?_
     refine wa rfl rfl <| w_nil ?_
     exact e_round ((i + 1, .slice Ao acc.length ko, acc, [])) (⟨by dsimp only; omega, by dsimp only; simp, by dsimp only; omega, h1, h2⟩) (by dsimp only; omega) (by repeat first | exact .nil _ | refine .cons rfl ?_) (fun _ hw => hw)
    ·obtain ⟨h1, h2⟩ := hnext (acc ++ [cw]) (by rw [if_neg hc])
     refine e_condDT rfl (by omega) ?_
     refine e_region <| wm rfl rfl <| wm rfl rfl <| w_op rfl ?_
     refine x_buildSlice _ ([strV cw]) rfl (run_buildSlice uT22 Tryz.hi9 Tryz.cz9 Tryz.zeroValue9 rfl (by kernel_rfl)) rfl (fun b33 => ?_)
     refine w_op rfl ?_
     refine x_appendIS (z := .string ⟨#[]⟩) (n := acc.length) (xs := strC acc) (size := 1) (bytes := 16) (k := 1) (news := [strV cw]) 1 rfl rfl rfl uT22 (by kernel_rfl) rfl (by decide) (fun w hw => blk_rds (hw.hold _ (List.mem_cons_self ..)) rfl) (by intro u hu; simp only [List.mem_singleton] at hu; subst hu; rfl) (by omega) (by simp only [maxLen]; omega) rfl (fun A4 cap4 _ => ?_)
     refine wa rfl rfl <| wre <| wa rfl rfl <| w_nil <| e_blk <| e_region <| wm rfl rfl ?_
     refine w_val (v_add rfl rfl (by omega)) rfl ?_
     refine wa rfl rfl <| w_nil ?_
     exact e_round ((i + 1, .slice A4 (acc.length + 1) cap4, acc ++ [cw], [])) (⟨by dsimp only; omega, by dsimp only; simp, by dsimp only; rw [List.length_append, List.length_singleton]; omega, h1, h2⟩) (by dsimp only; omega) (by repeat first | exact .nil _ | refine .cons rfl ?_) (fun _ hw => by dsimp only; rw [List.length_append, List.length_singleton, strC_app]; exact hw.pick [1] (by decide))
 ·have := hrel2 (by omega)
  subst this
  refine e_exit rfl <| esr <| wm rfl rfl <| wa rfl rfl <| w_nil ?_
  refine e_retQ (q_ret1 rfl (.tmp rfl) ?_)
  exact fun w' hw' => ⟨_, trivial, rfl, hw'.res⟩
end Go.SL
end
section
open Go Go.Proofs Go.SL Go.RowKit
set_option maxRecDepth 100000
set_option maxHeartbeats 4000000
namespace Go.SL
theorem op_strs {o : OpL} (h : 1 ≤ o.kind ∧ o.kind ≤ 9) : ([Lib.itoa o.a, if o.kind = 1 then Lib.itoa o.n else Lib.itoa o.b, Lib.itoa o.c].take (kCounts.getD o.kind.toNat 0).toNat).flatMap (fun t => 32 :: t) = (numsOf o).flatMap fun x => 32 :: Lib.itoa x := by
 have : o.kind = 1 ∨ o.kind = 2 ∨ o.kind = 3 ∨ o.kind = 4 ∨ o.kind = 5 ∨ o.kind = 6 ∨ o.kind = 7 ∨ o.kind = 8 ∨ o.kind = 9 := by omega
 rcases this with e | e | e | e | e | e | e | e | e <;> simp [numsOf, e]
theorem counts_rng {k : Int} (h : 1 ≤ k ∧ k ≤ 9) : 0 ≤ kCounts.getD k.toNat 0 ∧ kCounts.getD k.toNat 0 ≤ 3 := by
 have : k = 1 ∨ k = 2 ∨ k = 3 ∨ k = 4 ∨ k = 5 ∨ k = 6 ∨ k = 7 ∨ k = 8 ∨ k = 9 := by omega
 rcases this with rfl | rfl | rfl | rfl | rfl | rfl | rfl | rfl | rfl <;> decide
theorem refOpText_spec (o : OpL) (w : World) (hk : 1 ≤ o.kind ∧ o.kind ≤ 9) (h : OpIn o) (hL : LaidD w) (hN : NamesV w.cell?) : Calls Tryz.prog 65 #[opV o] w fun e w' => e = .returned (strV (opText o)) ∧ Res w [] [] w' := by
 rw [← off_none w] at hN
 obtain ⟨an, kn, hn0, hn⟩ := hN.name
 obtain ⟨ac, kc, hc0, hc⟩ := hN.count
 have hnm := hn o.kind (by omega) hk.2
 have hct := hc o.kind (by omega) hk.2
 have hla := itoa_len h.a
 have hlb := itoa_len h.b
 have hlc := itoa_len h.c
 have hln := itoa_len h.n
 have hnl := name_len (k := o.kind)
 have hrng := counts_rng hk
 have hst := op_strs hk
 have hfin : opText o = kNames.getD o.kind.toNat [] ++ ([Lib.itoa o.a, if o.kind = 1 then Lib.itoa o.n else Lib.itoa o.b, Lib.itoa o.c].take (kCounts.getD o.kind.toNat 0).toNat).flatMap (fun t => 32 :: t) := by rw [hst]; rfl
 rw [hfin]
 clear hfin hst
 unfold opV
 refine enter0 (N := 46) Tryz.func65 rfl rfl rfl <| esr <| w_op rfl ?_
 refine x_box rfl rfl (fun b1 => ?_)
 refine wa rfl rfl <| w_nil <| e_seq ?_
 refine e_cutH (σ := Nat) [1] (.cons rfl .nil) (fun b => [(3, .slice (some ⟨b, 0, none⟩) 3 3)]) (fun b => [.blk b 9 (strC [Lib.itoa o.a, Lib.itoa o.b, Lib.itoa o.c]), .blk b1 109 (opCells o)]) (fun _ => True) ?_ ?_
 ·refine e_draw ([.blk b1 109 (opCells o)]) Tryz.mixed <| tk 0 rfl (v_fieldAddrB (o := 1) uT109 rfl rfl Tryz.nz3 rfl) rfl <| tk 1 rfl (v_loadB 0 rfl uT3 rfl rfl rfl) rfl <| tk 3 rfl (v_fieldAddrB (o := 2) uT109 rfl rfl Tryz.nz3 rfl) rfl <| tk 4 rfl (v_loadB 0 rfl uT3 rfl rfl rfl) rfl <| tk 6 rfl (v_fieldAddrB (o := 3) uT109 rfl rfl Tryz.nz3 rfl) rfl <| tk 7 rfl (v_loadB 0 rfl uT3 rfl rfl rfl) rfl <| t1 2 rfl rfl ?_
  refine x_call0 (v := strV (Lib.itoa o.a)) rfl rfl rfl Tryz.call30 rfl (fun w hw => refNum_spec _ w h.a (hL.chg hw.chg)) ?_
  refine tn <| t1 5 rfl rfl ?_
  refine x_call0 (v := strV (Lib.itoa o.b)) rfl rfl rfl Tryz.call30 rfl (fun w hw => refNum_spec _ w h.b (hL.chg hw.chg)) ?_
  refine tn <| t1 8 rfl rfl ?_
  refine x_call0 (v := strV (Lib.itoa o.c)) rfl rfl rfl Tryz.call30 rfl (fun w hw => refNum_spec _ w h.c (hL.chg hw.chg)) ?_
  refine tn <| t1 9 rfl rfl ?_
  refine x_buildSlice _ (strC [Lib.itoa o.a, Lib.itoa o.b, Lib.itoa o.c]) rfl (run_buildSlice uT22 Tryz.hi9 Tryz.cz9 Tryz.zeroValue9 rfl (by kernel_rfl)) rfl (fun b15 => ?_)
  refine tn <| tk 10 rfl (v_assign rfl) rfl <| td ?_
  exact e_cutEnd b15 trivial (by repeat first | exact .nil _ | refine .cons rfl ?_) (fun _ hw => hw)
 ·rintro b15 -
  refine e_seq <| esr <| w_val (v_fieldAddrB (o := 0) uT109 rfl rfl Tryz.nz3 rfl) rfl <| w_val (v_loadB 1 rfl uT3 rfl rfl rfl) rfl <| w_val (v_eql rfl rfl) rfl <| w_nil ?_
  refine e_cutH (σ := Unit) [1, 3] (.cons rfl (.cons rfl .nil)) (fun _ => []) (fun _ => [.blk b15 9 (strC [Lib.itoa o.a, if o.kind = 1 then Lib.itoa o.n else Lib.itoa o.b, Lib.itoa o.c]), .blk b1 109 (opCells o)]) (fun _ => True) ?_ ?_
  ·refine e_condD rfl (fun hk1 => ?_) (fun hk1 => ?_)
   ·rw [if_pos hk1]
    refine e_region <| wm rfl rfl <| w_val (v_fieldAddrB (o := 4) uT109 rfl rfl Tryz.nz2 rfl) rfl <| w_val (v_loadB 1 rfl uT2 rfl rfl rfl) rfl <| w_op rfl ?_
    refine x_call0 (v := strV (Lib.itoa o.n)) rfl rfl rfl Tryz.call61 rfl (fun w hw => fmt_spec _ w h.n (hL.chg hw.chg)) ?_
    refine w_val (v_indexSB uT22 Tryz.hi9 Tryz.cz9 rfl rfl (by first | omega | decide)) rfl ?_
    refine w_op rfl ?_
    refine x_store1 0 rfl rfl rfl Tryz.hi9 Tryz.cz9 rfl (by simp [strC]) rfl ?_
    refine w_nil ?_
    exact e_cutEnd (()) (trivial) (by repeat first | exact .nil _ | refine .cons rfl ?_) (fun _ hw => hw)
   ·rw [if_neg hk1]
    refine e_skip ?_
    exact e_cutEnd (()) (trivial) (by repeat first | exact .nil _ | refine .cons rfl ?_) (fun _ hw => hw)
  ·rintro - -
   generalize hX : (if o.kind = 1 then Lib.itoa o.n else Lib.itoa o.b) = X at *
   have hlX : X.length ≤ 21 := by rw [← hX]; split <;> omega
   generalize hct2 : kCounts.getD o.kind.toNat 0 = ct at *
   generalize kNames.getD o.kind.toNat [] = nm at *
   refine esr <| w_val (v_loadO uT22 rfl rfl (hn0)) rfl <| w_val (v_fieldAddrB (o := 0) uT109 rfl rfl Tryz.nz3 rfl) rfl <| w_val (v_loadB 1 rfl uT3 rfl rfl rfl) rfl ?_
   refine w_val (v_indexS uT22 Tryz.hi9 Tryz.cz9 rfl rfl (by first | omega | decide)) rfl ?_
   refine w_val (v_loadO uT9 rfl rfl hnm) rfl <| wa rfl rfl <| w_nil <| e_seq <| esr <| wa rfl rfl <| w_nil <| e_block ?_
   rw [show strV nm = strV (nm ++ ([Lib.itoa o.a, X, Lib.itoa o.c].take 0).flatMap (fun t => 32 :: t)) from by simp]
   refine e_loopK (σ := Nat) [1, 3] (.cons rfl (.cons rfl .nil)) (fun i => [(5, .int .i64 (i : Int)), (4, strV (nm ++ ([Lib.itoa o.a, X, Lib.itoa o.c].take i).flatMap (fun t => 32 :: t)))]) (fun i => (i : Int) ≤ ct) (fun i => 3 - i) 0 (by omega) (by repeat first | exact .nil _ | refine .cons rfl ?_) ?_
   rintro i hi
   refine e_seq <| esr <| wm rfl rfl <| w_val (v_loadO uT70 rfl rfl (hc0)) rfl <| w_val (v_fieldAddrB (o := 0) uT109 rfl rfl Tryz.nz3 rfl) rfl <| w_val (v_loadB 1 rfl uT3 rfl rfl rfl) rfl ?_
   refine w_val (v_indexS uT70 Tryz.hi3 Tryz.cz3 rfl rfl (by first | omega | decide)) rfl ?_
   refine w_val (v_loadO uT3 rfl rfl (hct)) rfl <| w_val (v_lss rfl rfl) rfl <| w_nil ?_
   refine e_condD rfl (fun hlt => ?_) (fun hlt => ?_)
   ·have hi3 : i < 3 := by omega
    have hat : (strC [Lib.itoa o.a, X, Lib.itoa o.c])[0 + ((i : Int)).toNat * 1]? = some (strV ([Lib.itoa o.a, X, Lib.itoa o.c].getD i [])) := by
     rw [Int.toNat_natCast, Nat.zero_add, Nat.mul_one]
     have : i = 0 ∨ i = 1 ∨ i = 2 := by omega
     rcases this with rfl | rfl | rfl <;> rfl
    have hly : ([Lib.itoa o.a, X, Lib.itoa o.c].getD i []).length ≤ 21 := by
     have : i = 0 ∨ i = 1 ∨ i = 2 := by omega
     rcases this with rfl | rfl | rfl
     ·exact hla
     ·exact hlX
     ·exact hlc
    have hsn : ([Lib.itoa o.a, X, Lib.itoa o.c].take (i + 1)).flatMap (fun t => 32 :: t) = ([Lib.itoa o.a, X, Lib.itoa o.c].take i).flatMap (fun t => 32 :: t) ++ (32 :: [Lib.itoa o.a, X, Lib.itoa o.c].getD i []) := by
     have : i = 0 ∨ i = 1 ∨ i = 2 := by omega
     rcases this with rfl | rfl | rfl <;> simp
    have hpl : (([Lib.itoa o.a, X, Lib.itoa o.c].take i).flatMap (fun t => 32 :: t)).length ≤ 66 := by
     have : i = 0 ∨ i = 1 ∨ i = 2 := by omega
     rcases this with rfl | rfl | rfl <;> simp <;> omega
    generalize ([Lib.itoa o.a, X, Lib.itoa o.c].take i).flatMap (fun t => 32 :: t) = pre at *
    generalize hy : [Lib.itoa o.a, X, Lib.itoa o.c].getD i [] = y at *
    refine e_skip <| e_seq <| e_block <| e_region <| wm rfl rfl <| wm rfl rfl <| wm rfl rfl ?_
    refine w_val (v_indexSB uT22 Tryz.hi9 Tryz.cz9 rfl rfl (by first | omega | decide)) rfl ?_
    refine w_val (v_loadB 0 rfl uT9 rfl rfl hat) rfl ?_
    refine w_val (v_strAdd rfl rfl (by simp only [lnA]; omega)) rfl ?_
    refine w_val (v_is (v' := strV (nm ++ ([Lib.itoa o.a, X, Lib.itoa o.c].take (i + 1)).flatMap (fun t => 32 :: t))) (v_strAdd rfl rfl (by simp only [lnA]; omega)) (by rw [hsn]; simp [List.append_assoc])) rfl ?_
    refine wa rfl rfl <| w_nil <| e_blk <| e_region <| wm rfl rfl ?_
    refine w_val (v_add rfl rfl (by omega)) rfl ?_
    refine wa rfl rfl <| w_nil ?_
    exact e_round (i + 1) (by omega) (by omega) (by repeat first | exact .nil _ | refine .cons rfl ?_) (fun _ hw => hw)
   ·have e : i = ct.toNat := by omega
    subst e
    refine e_exit rfl <| esr <| wm rfl rfl <| wa rfl rfl <| w_nil ?_
    refine e_retQ (q_ret1 rfl (.tmp rfl) ?_)
    exact fun w' hw' => ⟨rfl, hw'.res.nil⟩
theorem join_snoc (xs : List (List UInt8)) (y sep : List UInt8) : Lib.join (xs ++ [y]) sep = (if xs = [] then [] else Lib.join xs sep ++ sep) ++ y := by
 cases xs with
 | nil => simp [Lib.join_one]
 | cons x r =>
  rw [if_neg (by simp), List.cons_append, Lib.join_cons, Lib.join_cons]
  simp [Lib.joinTail]
theorem refTextOf_spec (v : Value) (d : DeedL) (w : World) (h : IsDeed w.cell? v d) (hin : ∀ o ∈ d, OpIn o) (hL : LaidD w) (hN : NamesV w.cell?) : Calls Tryz.prog 38 #[v] w fun e w' => e = .returned (.tuple #[strV (printS d).1, faultV (printS d).2]) ∧ Res w [] [] w' := by
 rw [← off_none w] at h hN
 have hs := h
 obtain ⟨A, kp, rfl, hle, hc⟩ := h.form
 have hchk := fun (hz : (checkL d).1 = 0) => checked hz
 unfold printS
 refine enter0 (N := 32) Tryz.func38 rfl rfl rfl <| esr <| wa rfl rfl <| w_op rfl ?_
 refine x_alloc (z := .agg #[.int .i64 0, .int .i64 0]) (by intro w; exact Tryz.zeroValue42 w) rfl (fun b3 => ?_)
 refine w_nil <| e_seq <| esr <| wm rfl rfl ?_
 generalize hck : checkL d = ck at *
 obtain ⟨c, at'⟩ := ck
 dsimp only at hchk ⊢
 refine w_op rfl ?_
 refine x_call0 (v := .agg #[.int .i64 c, .int .i64 at']) rfl rfl rfl Tryz.call59 rfl (fun w hw => by have := DeedFault_spec _ d w (hs.mono hw.off); rwa [hck] at this) ?_
 refine w_op rfl ?_
 refine x_alloc (z := .agg #[.int .i64 0, .int .i64 0]) (by intro w; exact Tryz.zeroValue42 w) rfl (fun b4 => ?_)
 refine w_op rfl ?_
 refine x_storeA 0 rfl rfl rfl Tryz.hi42 Tryz.cz42 rfl (by first | (simp [Value.oneCell', opCells]; done) | assumption | exact one_ints _ | exact one_resCells _ _ | exact one_slotC _) ?_
 refine wsr <| w_val (v_fieldAddrB (o := 0) uT42 rfl rfl Tryz.nz3 rfl) rfl <| w_val (v_loadB 0 rfl uT3 rfl rfl rfl) rfl <| w_val (v_neq rfl rfl) rfl <| w_nil ?_
 refine e_condD rfl (fun hne => ?_) (fun hne => ?_)
 ·refine e_seq <| e_draw ([.blk b4 42 [.int .i64 c, .int .i64 at']]) Tryz.mixed <| tk 0 rfl (v_loadBA 0 rfl uT42 rfl Tryz.hi42 Tryz.cz42 rfl) rfl <| tk 1 rfl (v_assign rfl) rfl <| t1 2 rfl rfl ?_
  refine x_storeA 1 rfl rfl rfl Tryz.hi42 Tryz.cz42 rfl (by first | (simp [Value.oneCell', opCells]; done) | assumption | exact one_ints _ | exact one_resCells _ _ | exact one_slotC _) ?_
  refine tn <| td ?_
  refine e_retQ (q_ret2 rfl (.tmp rfl) (ResV.agg 1 rfl rfl (by rw [isAggD, uT42]; rfl) (Tryz.cz42) Tryz.hi42) ?_)
  exact fun w' hw' => ⟨by rw [if_pos hne]; rfl, hw'.res.nil⟩
 ·have hc0 : c = 0 := by omega
  obtain ⟨h14, hops⟩ := hchk hc0
  refine e_skip <| esr <| wa rfl rfl <| w_nil <| e_seq <| esr <| wa rfl rfl <| w_nil <| e_block ?_
  refine e_loopK (σ := Nat) [0, 3, 4] (.cons rfl (.cons rfl (.cons rfl .nil))) (fun i => [(6, .int .i64 (i : Int)), (5, strV (Lib.join ((d.take i).map opText) [59, 32]))]) (fun i => i ≤ d.length) (fun i => d.length - i) 0 (Nat.zero_le _) (by repeat first | exact .nil _ | refine .cons rfl ?_) ?_
  rintro k hk
  dsimp only at hk ⊢
  refine e_seq <| esr <| wm rfl rfl <| wm rfl rfl <| w_val (v_lenS uT80 rfl) rfl <| w_val (v_lss rfl rfl) rfl <| w_nil ?_
  refine e_condD rfl (fun hlt => ?_) (fun hlt => ?_)
  ·have hk' : k < d.length := by omega
   obtain ⟨ad, rfl, hop⟩ := IsDeed.cells hc hk'
   have hkin := kind_in (hops k hk').1
   have hoin := hin _ (List.getElem_mem hk')
   have hol := opText_len hoin
   have hsn := join_snoc ((d.take k).map opText) (opText d[k]) [59, 32]
   have e1 : (d.take k).map opText ++ [opText d[k]] = (d.take (k + 1)).map opText := by rw [List.take_succ_eq_append_getElem hk', List.map_append]; rfl
   rw [e1] at hsn
   have hjl := join_len (xs := (d.take k).map opText) (m := 100) (fun x hx => by obtain ⟨o, ho, rfl⟩ := List.mem_map.1 hx; exact opText_len (hin o (List.mem_of_mem_take ho)))
   rw [List.length_map, List.length_take, Nat.min_eq_left hk] at hjl
   have hk14 : 102 * k ≤ 102 * 14 := Nat.mul_le_mul_left _ (by omega)
   have hemp : (d.take k).map opText = [] ↔ k = 0 := by
    constructor
    ·intro h
     have := congrArg List.length h
     rw [List.length_map, List.length_take, List.length_nil] at this
     omega
    ·intro h; subst h; rfl
   generalize hpre : Lib.join ((d.take k).map opText) [59, 32] = pre at *
   generalize d[k] = o at *
   refine e_skip <| e_seq <| e_block <| e_seq <| esr <| wm rfl rfl <| w_val (v_gtr rfl rfl) rfl <| w_nil ?_
   refine e_cutK (σ := Unit) [0, 3, 4, 6] (.cons rfl (.cons rfl (.cons rfl (.cons rfl .nil)))) (fun _ => [(5, strV (if k = 0 then [] else pre ++ [59, 32]))]) (fun _ => True) ?_ ?_
   ·refine e_condD rfl (fun hk0 => ?_) (fun hk0 => ?_)
    ·rw [if_neg (show ¬ k = 0 by omega)]
     refine e_region <| wm rfl rfl ?_
     refine w_val (v_strAdd rfl rfl (by simp only [lnA]; omega)) rfl ?_
     refine wa rfl rfl <| w_nil ?_
     exact e_cutEnd (()) (trivial) (by repeat first | exact .nil _ | refine .cons rfl ?_) (fun _ hw => hw)
    ·have e0 : k = 0 := by omega
     subst e0
     have : pre = [] := by rw [← hpre]; rfl
     subst this
     rw [if_pos (show (0 : Nat) = 0 from rfl)]
     refine e_skip ?_
     exact e_cutEnd (()) (trivial) (by repeat first | exact .nil _ | refine .cons rfl ?_) (fun _ hw => hw)
   ·rintro - -
    have hpl : (if k = 0 then [] else pre ++ [59, 32]).length ≤ 1500 := by
     split
     ·simp
     ·simp only [lnA]; omega
    have hsn2 : Lib.join ((d.take (k + 1)).map opText) [59, 32] = (if k = 0 then [] else pre ++ [59, 32]) ++ opText o := by
     rw [hsn]
     by_cases h0 : k = 0
     ·rw [if_pos (hemp.2 h0), if_pos h0]
     ·rw [if_neg (fun h => h0 (hemp.1 h)), if_neg h0]
    generalize (if k = 0 then [] else pre ++ [59, 32]) = pre2 at *
    refine e_region <| wm rfl rfl <| wm rfl rfl <| wm rfl rfl ?_
    refine w_val (v_indexS uT80 Tryz.hi109 Tryz.cz109 rfl rfl (by first | omega | decide)) rfl ?_
    refine w_val (v_loadON uT109 rfl Tryz.hi109 rfl (hop) Tryz.cz109) rfl <| w_op rfl ?_
    refine x_call0 (v := strV (opText o)) rfl rfl rfl Tryz.call65 rfl (fun w hw => refOpText_spec o w hkin hoin (hL.chg hw.chg) (hN.mono hw.off)) ?_
    refine w_val (v_is (v' := strV (Lib.join ((d.take (k + 1)).map opText) [59, 32])) (v_strAdd rfl rfl (by omega)) (by rw [hsn2])) rfl ?_
    refine wa rfl rfl <| w_nil <| e_blk <| e_region <| wm rfl rfl ?_
    refine w_val (v_add rfl rfl (by omega)) rfl ?_
    refine wa rfl rfl <| w_nil ?_
    exact e_round (k + 1) (by omega) (by omega) (by repeat first | exact .nil _ | refine .cons rfl ?_) (fun _ hw => hw)
  ·have e : k = d.length := by omega
   subst e
   rw [List.take_length]
   refine e_exit rfl <| esr <| wm rfl rfl ?_
   refine w_val (v_build (v := faultV (0, 0)) _ rfl (by intro _; simp [Instr.build, Instr.fill, Tryz.zeroValue42, go_sem]; rfl)) rfl ?_
   refine wa rfl rfl <| w_op rfl ?_
   refine x_storeA 1 rfl rfl rfl Tryz.hi42 Tryz.cz42 rfl (by first | (simp [Value.oneCell', opCells]; done) | assumption | exact one_ints _ | exact one_resCells _ _ | exact one_slotC _) ?_
   refine w_nil ?_
   refine e_retQ (q_ret2 rfl (.tmp rfl) (ResV.agg 1 rfl rfl (by rw [isAggD, uT42]; rfl) (Tryz.cz42) Tryz.hi42) ?_)
   exact fun w' hw' => ⟨by rw [if_neg hne]; rfl, hw'.res.nil⟩
end Go.SL
end
section
open Go Go.Proofs Go.SL Go.RowKit
set_option maxRecDepth 100000
set_option maxHeartbeats 8000000
namespace Go.SL
theorem split_snoc_c (c : UInt8) : ∀ s : List UInt8, splitL c (s ++ [c]) = splitL c s ++ [[]]
 | [] => by simp [splitL]
 | b :: t => by
  have ih := split_snoc_c c t
  rw [List.cons_append]
  by_cases hb : b = c
  ·subst hb
   rw [show splitL b (b :: (t ++ [b])) = [] :: splitL b (t ++ [b]) from by rw [splitL, if_pos rfl], show splitL b (b :: t) = [] :: splitL b t from by rw [splitL, if_pos rfl], ih]
   rfl
  ·cases h : splitL c t with
   | nil => exact absurd h (splitL_ne c t)
   | cons p ps =>
    rw [h] at ih
    rw [show splitL c (b :: t) = (b :: p) :: ps from by rw [splitL, if_neg hb, h], show splitL c (b :: (t ++ [c])) = (b :: p) :: (ps ++ [[]]) from by rw [splitL, if_neg hb, ih]; rfl]
    rfl
theorem split_snoc (c : UInt8) {x : UInt8} (hx : x ≠ c) : ∀ (s : List UInt8) (Q : List (List UInt8)) (q : List UInt8), splitL c s = Q ++ [q] → splitL c (s ++ [x]) = Q ++ [q ++ [x]]
 | [], Q, q, h => by
  have : Q = [] ∧ q = [] := by
   cases Q with
   | nil => simp [splitL] at h; exact ⟨rfl, h⟩
   | cons a r => simp [splitL] at h
  obtain ⟨rfl, rfl⟩ := this
  simp [splitL, hx]
 | b :: t, Q, q, h => by
  rw [List.cons_append]
  by_cases hb : b = c
  ·subst hb
   have e : splitL b (b :: t) = [] :: splitL b t := by rw [splitL, if_pos rfl]
   rw [e] at h
   rw [show splitL b (b :: (t ++ [x])) = [] :: splitL b (t ++ [x]) from by rw [splitL, if_pos rfl]]
   cases Q with
   | nil => simp only [List.nil_append, List.cons.injEq] at h; exact absurd h.2 (splitL_ne b t)
   | cons a r =>
    simp only [List.cons_append, List.cons.injEq] at h
    rw [split_snoc b hx t r q h.2, ← h.1]
    rfl
  ·cases h2 : splitL c t with
   | nil => exact absurd h2 (splitL_ne c t)
   | cons p ps =>
    have e : splitL c (b :: t) = (b :: p) :: ps := by rw [splitL, if_neg hb, h2]
    rw [e] at h
    cases Q with
    | nil =>
     simp only [List.nil_append, List.cons.injEq] at h
     obtain ⟨rfl, rfl⟩ := h
     have := split_snoc c hx t [] p h2
     rw [show splitL c (b :: (t ++ [x])) = (b :: (p ++ [x])) :: [] from by rw [splitL, if_neg hb, this]; rfl]
     rfl
    | cons a r =>
     simp only [List.cons_append, List.cons.injEq] at h
     obtain ⟨rfl, rfl⟩ := h
     have := split_snoc c hx t (p :: r) q (by rw [h2]; rfl)
     rw [show splitL c (b :: (t ++ [x])) = (b :: p) :: (r ++ [q ++ [x]]) from by rw [splitL, if_neg hb, this]; rfl]
     rfl
theorem opOf_nil (k : Nat) : opOf k [] = ⟨(k : Int), 0, 0, 0, 0⟩ := by
 unfold opOf
 split
 ·rename_i h; subst h; rfl
 ·rfl
theorem opOf_a {k : Nat} {v : Int} : opCells (opOf k [v]) = (opCells (opOf k [])).set 1 (.int .i64 v) := by unfold opOf; split <;> rfl
theorem opOf_n {a v : Int} : opCells (opOf 1 [a, v]) = (opCells (opOf 1 [a])).set 4 (.int .i64 v) := rfl
theorem opOf_b {k : Nat} (hk : k ≠ 1) {a v : Int} : opCells (opOf k [a, v]) = (opCells (opOf k [a])).set 2 (.int .i64 v) := by unfold opOf; rw [if_neg hk, if_neg hk]; rfl
theorem opOf_c {k : Nat} (hk : k ≠ 1) {a b v : Int} : opCells (opOf k [a, b, v]) = (opCells (opOf k [a, b])).set 3 (.int .i64 v) := by unfold opOf; rw [if_neg hk, if_neg hk]; rfl
theorem opOf_k {k : Nat} {ns : List Int} : ∃ a b c n, opCells (opOf k ns) = [.int .i64 (k : Int), .int .i64 a, .int .i64 b, .int .i64 c, .int .i64 n] := by
 unfold opOf
 split
 ·rename_i h; subst h; exact ⟨_, _, _, _, rfl⟩
 ·exact ⟨_, _, _, _, rfl⟩
end Go.SL
end
