/- YtebdkaadbakhladDoor: part ReA of this seat's own texts: WHATEVER THE INPUT, the law eA returns true and leaves what was there; no condition. -/
import Derived.Test.YtebdkaadbakhladDoorZ4
import Derived.Test.YtebdkaadbakhladDoorZ5
import Derived.Test.YtebdkaadbakhladDoorW4
set_option linter.unusedVariables false
set_option linter.unusedSimpArgs false

open Go Go.Proofs Go.SL Go.RowKit
set_option maxRecDepth 100000
set_option maxHeartbeats 4000000
namespace Go.SL
/-! ## deeds as texts, by the document -/
/-- what the reference's two variables hold -/
structure NamesV (c : View) : Prop where
  names : ∃ A k, c ⟨0, 0, none⟩ = some (.slice A 10 k) ∧ Rds c (.slice A 10 k) 1 10 (strC kNames)
  counts : ∃ A k, c ⟨1, 0, none⟩ = some (.slice A 10 k) ∧ Rds c (.slice A 10 k) 1 10 (intCells kCounts)
theorem NamesV.mono {c c' : View} (hl : Le c c') (h : NamesV c) : NamesV c' := by
  obtain ⟨⟨A, k, h1, h2⟩, B, j, h3, h4⟩ := h
  exact ⟨⟨A, k, hl _ _ h1, h2.mono hl⟩, B, j, hl _ _ h3, h4.mono hl⟩
theorem NamesV.name {c : View} (h : NamesV c) : ∃ ad k, c ⟨0, 0, none⟩ = some (.slice (some ad) 10 k) ∧ ∀ i : Int, 0 ≤ i → i ≤ 9 → c (ad.add (i.toNat * 1)) = some (strV (kNames.getD i.toNat [])) := by
  obtain ⟨A, k, h1, A', k', h2, _, _, h3⟩ := h.names
  obtain ⟨ad, rfl, h4⟩ := h3 (by decide)
  injection h2 with e1
  subst e1
  refine ⟨ad, k, h1, fun i h0 h9 => ?_⟩
  have := name_at h0 h9
  rw [Nat.zero_add] at this
  exact h4 _ _ this
theorem count_at {i : Int} (h1 : 0 ≤ i) (h2 : i ≤ 9) : (intCells kCounts)[i.toNat * 1]? = some (.int .i64 (kCounts.getD i.toNat 0)) := by
  have : i = 0 ∨ i = 1 ∨ i = 2 ∨ i = 3 ∨ i = 4 ∨ i = 5 ∨ i = 6 ∨ i = 7 ∨ i = 8 ∨ i = 9 := by omega
  rcases this with rfl | rfl | rfl | rfl | rfl | rfl | rfl | rfl | rfl | rfl <;> rfl
theorem NamesV.count {c : View} (h : NamesV c) : ∃ ad k, c ⟨1, 0, none⟩ = some (.slice (some ad) 10 k) ∧ ∀ i : Int, 0 ≤ i → i ≤ 9 → c (ad.add (i.toNat * 1)) = some (.int .i64 (kCounts.getD i.toNat 0)) := by
  obtain ⟨A, k, h1, A', k', h2, _, _, h3⟩ := h.counts
  obtain ⟨ad, rfl, h4⟩ := h3 (by decide)
  injection h2 with e1
  subst e1
  exact ⟨ad, k, h1, fun i h0 h9 => h4 _ _ (count_at h0 h9)⟩
theorem byte_eq' (b c : UInt8) : ((b.toNat : Int) = (c.toNat : Int)) ↔ b = c := by rw [← UInt8.toNat_inj]; omega
theorem one_cut' {s : List UInt8} {i : Nat} (h : i < s.length) : (s.drop ((i : Int)).toNat).take (((i : Int) + 1).toNat - ((i : Int)).toNat) = [s[i]] := by
  have e : ((i : Int) + 1).toNat = i + 1 := by omega
  rw [e, Int.toNat_natCast, Nat.add_sub_cancel_left, List.drop_eq_getElem_cons h]
  rfl
theorem refWords_spec (s : List UInt8) (w : World) (hs : s.length ≤ 4000000) : Calls Tryd.prog 24 #[strV s] w fun e w' => ∃ v : Value, True ∧ e = .returned v ∧ Res w [] [Own v 9 1 (wordsL s).length (strC (wordsL s))] w' := by
  generalize hW : wordsL s = W at *
  refine enter0 (N := 36) Tryd.func24 rfl rfl rfl ?_
  refine esr ?_
  refine wa rfl rfl ?_
  refine wsr ?_
  refine wa rfl rfl ?_
  refine wsr ?_
  refine wa rfl rfl ?_
  refine w_nil ?_
  refine e_seq ?_
  refine esr ?_
  refine wa rfl rfl ?_
  refine w_nil ?_
  refine e_block ?_
  refine e_loopH (σ := Nat × Value × List (List UInt8) × List UInt8) [0] (.cons rfl .nil) (fun z => [(5, .int .i64 (z.1 : Int)), (3, z.2.1), (4, strV z.2.2.2)]) (fun z => [Own z.2.1 9 1 z.2.2.1.length (strC z.2.2.1)]) (fun z => z.1 ≤ s.length + 1 ∧ z.2.2.2.length ≤ z.1 ∧ z.2.2.1.length ≤ z.1 ∧ (z.1 ≤ s.length → z.2.2.1 ++ wordsW z.2.2.2 (s.drop z.1) = W) ∧ (s.length < z.1 → z.2.2.1 = W)) (fun z => s.length + 1 - z.1) (0, .slice none 0 0, [], []) ⟨Nat.zero_le _, Nat.le_refl _, Nat.le_refl _, fun _ => hW, fun h => by omega⟩ (by repeat (first | exact Sub.nil _ | refine Sub.cons rfl ?_)) (fun _ hw => hw.ownNil 9 1) ?_
  rintro ⟨i, ov, acc, cw⟩ ⟨hi, hcl, hal, hrel, hrel2⟩
  dsimp only at hi hcl hal hrel hrel2 ⊢
  refine g_shape 0 rfl (fun Ao ko hov _ => ?_)
  subst hov
  refine e_seq ?_
  refine esr ?_
  refine wm rfl rfl ?_
  refine wm rfl rfl ?_
  refine w_val (v_strLen Tryd.underlying9 rfl) rfl ?_
  refine w_val (v_leq rfl rfl) rfl ?_
  refine w_nil ?_
  refine e_condD rfl (fun hle => ?_) (fun hle => ?_)
  · have hle' : i ≤ s.length := by omega
    have hr := hrel hle'
    clear hrel hrel2
    refine e_skip ?_
    refine e_seq ?_
    refine e_block ?_
    refine e_seq ?_
    refine e_seq ?_
    by_cases hlet : ∃ h : i < s.length, s[i] ≠ 32
    · obtain ⟨hlt, hb⟩ := hlet
      have hat : s[((i : Int)).toNat]? = some s[i] := by rw [Int.toNat_natCast]; exact List.getElem?_eq_getElem hlt
      have hcut := one_cut' hlt
      rw [List.drop_eq_getElem_cons hlt, wordsW, if_neg hb] at hr
      generalize hbb : s[i] = b at *
      have e32 : decide (((b.toNat : Nat) : Int) ≠ 32) = decide (b ≠ 32) := decide_eq_decide.2 (not_congr (byte_eq' b 32))
      refine e_region ?_
      refine wm rfl rfl ?_
      refine wm rfl rfl ?_
      refine w_val (v_strLen Tryd.underlying9 rfl) rfl ?_
      refine w_val (v_is (v' := .bool true) (v_lss rfl rfl) (by rw [decide_eq_true (by omega)])) rfl ?_
      refine wm rfl rfl ?_
      refine w_want rfl rfl ?_
      refine wm rfl rfl ?_
      refine w_want rfl rfl ?_
      refine wm rfl rfl ?_
      refine w_want rfl rfl ?_
      refine w_val (v_strAt Tryd.underlying9 rfl rfl (by omega) hat) rfl ?_
      refine w_want rfl rfl ?_
      refine w_val (v_is (v' := .bool true) (v_neq rfl rfl) (by rw [e32, decide_eq_true hb])) rfl ?_
      refine w_val (v_pickT rfl rfl) rfl ?_
      refine w_nil ?_
      refine e_condT rfl ?_
      refine esr ?_
      refine wm rfl rfl ?_
      refine wm rfl rfl ?_
      refine wm rfl rfl ?_
      refine wm rfl rfl ?_
      refine w_val (v_add rfl rfl (by omega)) rfl ?_
      refine w_val (v_is (v' := strV [b]) (v_strCut Tryd.underlying9 rfl rfl rfl (by omega)) (by rw [hcut])) rfl ?_
      refine w_val (v_strAdd rfl rfl (by simp only [List.length_append, List.length_cons, List.length_nil]; omega)) rfl ?_
      refine wa rfl rfl ?_
      refine w_nil ?_
      refine e_exit rfl ?_
      refine e_region ?_
      refine wm rfl rfl ?_
      refine w_val (v_add rfl rfl (by omega)) rfl ?_
      refine wa rfl rfl ?_
      refine w_nil ?_
      exact e_round ((i + 1, .slice Ao acc.length ko, acc, cw ++ [b])) (⟨by dsimp only; omega, by dsimp only; simp; omega, by dsimp only; omega, fun _ => hr, fun h => by dsimp only at h; omega⟩) (by dsimp only; omega) (by repeat (first | exact Sub.nil _ | refine Sub.cons rfl ?_)) (fun _ hw => hw)
    · have hnext : ∀ acc' : List (List UInt8), acc' = acc ++ (if cw = [] then [] else [cw]) → (i + 1 ≤ s.length → acc' ++ wordsW [] (s.drop (i + 1)) = W) ∧ (s.length < i + 1 → acc' = W) := fun acc' ha => by
        by_cases hlt : i < s.length
        · have hb : s[i] = 32 := by
            by_cases hb : s[i] = 32
            · exact hb
            · exact absurd ⟨hlt, hb⟩ hlet
          rw [List.drop_eq_getElem_cons hlt, wordsW, if_pos hb] at hr
          refine ⟨fun _ => ?_, fun h => by omega⟩
          rw [ha]
          by_cases hc : cw = []
          · rw [if_pos hc] at hr ⊢; rw [List.append_nil]; exact hr
          · rw [if_neg hc] at hr ⊢; rw [List.append_assoc]; exact hr
        · have e : i = s.length := by omega
          subst e
          rw [List.drop_length, wordsW] at hr
          exact ⟨fun h => by omega, fun _ => by rw [ha]; exact hr⟩
      refine e_cutK (σ := Unit) [0, 3, 4, 5] (.cons rfl (.cons rfl (.cons rfl (.cons rfl .nil)))) (fun _ => [(21, .bool false)]) (fun _ => True) ?_ ?_
      · by_cases hlt : i < s.length
        · have hb : s[i] = 32 := by
            by_cases hb : s[i] = 32
            · exact hb
            · exact absurd ⟨hlt, hb⟩ hlet
          have hat : s[((i : Int)).toNat]? = some 32 := by rw [Int.toNat_natCast, List.getElem?_eq_getElem hlt, hb]
          refine e_region ?_
          refine wm rfl rfl ?_
          refine wm rfl rfl ?_
          refine w_val (v_strLen Tryd.underlying9 rfl) rfl ?_
          refine w_val (v_is (v' := .bool true) (v_lss rfl rfl) (by rw [decide_eq_true (by omega)])) rfl ?_
          refine wm rfl rfl ?_
          refine w_want rfl rfl ?_
          refine wm rfl rfl ?_
          refine w_want rfl rfl ?_
          refine wm rfl rfl ?_
          refine w_want rfl rfl ?_
          refine w_val (v_strAt Tryd.underlying9 rfl rfl (by omega) hat) rfl ?_
          refine w_want rfl rfl ?_
          refine w_val (v_is (v' := .bool false) (v_neq rfl rfl) (by rw [show decide ((((32 : UInt8).toNat : Nat) : Int) ≠ 32) = false from by decide])) rfl ?_
          refine w_val (v_pickT rfl rfl) rfl ?_
          refine w_nil ?_
          exact e_cutEnd (()) (trivial) (by repeat (first | exact Sub.nil _ | refine Sub.cons rfl ?_)) (fun _ hw => hw)
        · refine e_region ?_
          refine wm rfl rfl ?_
          refine wm rfl rfl ?_
          refine w_val (v_strLen Tryd.underlying9 rfl) rfl ?_
          refine w_val (v_is (v' := .bool false) (v_lss rfl rfl) (by rw [decide_eq_false (by omega)])) rfl ?_
          refine wm rfl rfl ?_
          refine w_skip rfl rfl rfl rfl ?_
          refine w_skip rfl rfl rfl rfl ?_
          refine w_skip rfl rfl rfl rfl ?_
          refine w_skip rfl rfl rfl rfl ?_
          refine w_val (v_pickF rfl rfl) rfl ?_
          refine w_nil ?_
          exact e_cutEnd (()) (trivial) (by repeat (first | exact Sub.nil _ | refine Sub.cons rfl ?_)) (fun _ hw => hw)
      · rintro - -
        refine e_condF rfl ?_
        refine e_skip ?_
        refine e_seq ?_
        refine esr ?_
        refine wm rfl rfl ?_
        refine w_val (v_strNeq rfl rfl) rfl ?_
        refine w_nil ?_
        by_cases hc : cw = []
        · subst hc
          obtain ⟨h1, h2⟩ := hnext acc (by simp)
          refine e_condF rfl ?_
          refine e_skip ?_
          refine e_region ?_
          refine wa rfl rfl ?_
          refine w_nil ?_
          refine e_blk ?_
          refine e_region ?_
          refine wm rfl rfl ?_
          refine w_val (v_add rfl rfl (by omega)) rfl ?_
          refine wa rfl rfl ?_
          refine w_nil ?_
          exact e_round ((i + 1, .slice Ao acc.length ko, acc, [])) (⟨by dsimp only; omega, by dsimp only; simp, by dsimp only; omega, h1, h2⟩) (by dsimp only; omega) (by repeat (first | exact Sub.nil _ | refine Sub.cons rfl ?_)) (fun _ hw => hw)
        · obtain ⟨h1, h2⟩ := hnext (acc ++ [cw]) (by rw [if_neg hc])
          refine e_condDT rfl (by omega) ?_
          refine e_region ?_
          refine wm rfl rfl ?_
          refine wm rfl rfl ?_
          refine w_op rfl ?_
          refine x_buildSlice _ ([strV cw]) rfl (run_buildSlice Tryd.underlying42 Tryd.hi9 Tryd.cz9 Tryd.zeroValue9 rfl (by kernel_rfl)) rfl (fun b33 => ?_)
          refine w_op rfl ?_
          refine x_appendIS (z := .string ⟨#[]⟩) (n := acc.length) (xs := strC acc) (size := 1) (bytes := 16) (k := 1) (news := [strV cw]) 1 rfl rfl rfl Tryd.underlying42 (by kernel_rfl) rfl (by decide) (fun w hw => blk_rds (hw.hold _ (List.mem_cons_self ..)) rfl) (by intro u hu; simp only [List.mem_singleton] at hu; subst hu; rfl) (by omega) (by simp only [maxLen]; omega) rfl (fun A4 cap4 _ => ?_)
          refine wa rfl rfl ?_
          refine wre ?_
          refine wa rfl rfl ?_
          refine w_nil ?_
          refine e_blk ?_
          refine e_region ?_
          refine wm rfl rfl ?_
          refine w_val (v_add rfl rfl (by omega)) rfl ?_
          refine wa rfl rfl ?_
          refine w_nil ?_
          exact e_round ((i + 1, .slice A4 (acc.length + 1) cap4, acc ++ [cw], [])) (⟨by dsimp only; omega, by dsimp only; simp, by dsimp only; rw [List.length_append, List.length_singleton]; omega, h1, h2⟩) (by dsimp only; omega) (by repeat (first | exact Sub.nil _ | refine Sub.cons rfl ?_)) (fun _ hw => by dsimp only; rw [List.length_append, List.length_singleton, strC_app]; exact hw.pick [1] (by decide))
  · have := hrel2 (by omega)
    subst this
    refine e_exit rfl ?_
    refine esr ?_
    refine wm rfl rfl ?_
    refine wa rfl rfl ?_
    refine w_nil ?_
    refine e_retQ (q_ret1 rfl (.tmp rfl) ?_)
    exact fun w' hw' => ⟨_, trivial, rfl, hw'.res⟩
end Go.SL

