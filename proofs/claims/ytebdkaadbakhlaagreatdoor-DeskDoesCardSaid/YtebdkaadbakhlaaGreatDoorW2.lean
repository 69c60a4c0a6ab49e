/- YtebdkaadbakhlaaGreatDoor: part W2 of this seat's own texts. -/
import Derived.Test.YtebdkaadbakhlaaGreatDoorW1
import Derived.Test.YtebdkaadbakhlaaGreatDoorP1
set_option linter.unusedVariables false
set_option linter.unusedSimpArgs false
section
open Go Go.Proofs Go.SL
set_option maxRecDepth 100000
namespace Go.SL
def w64 (x : Int) : Int := IntKind.i64.wrap x
def arithL (k a b : Int) : Int := if k = 3 then w64 (a + b) else if k = 4 then w64 (a - b) else if k = 5 then w64 (a * b) else if k = 6 ∧ a < b then 1 else 0
theorem arith_spec (k a b : Int) (w : World) : Calls Tryz.prog 178 #[.int .i64 k, .int .i64 a, .int .i64 b] w fun e w' => e = .returned (.int .i64 (arithL k a b)) ∧ Res w [] [] w' := by
 have hk : k = 3 ∨ k = 4 ∨ k = 5 ∨ (k = 6 ∧ a < b) ∨ (k = 6 ∧ ¬ a < b) ∨ (k ≠ 3 ∧ k ≠ 4 ∧ k ≠ 5 ∧ k ≠ 6) := by omega
 refine enter0 (N := 28) Tryz.func178 rfl rfl rfl <| esr <| wa rfl rfl <| w_nil <| e_seq <| esr <| wm rfl rfl <| w_nil <| e_block <| esr <| w_val (v_eql rfl rfl) rfl <| wa rfl rfl <| w_nil ?_
 rcases hk with hk | hk | hk | hk | hk | hk
 ·refine e_condDT rfl (by omega) ?_
  refine esr <| wm rfl rfl <| wm rfl rfl <| w_val (v_addw rfl rfl) rfl <| wa rfl rfl <| w_nil ?_
  refine e_retQ (q_ret1 rfl (.tmp rfl) ?_)
  exact fun w' hw' => ⟨by subst hk; rfl, hw'.res.nil⟩
 ·refine e_condDF rfl (by omega) ?_
  refine esr <| w_val (v_eql rfl rfl) rfl <| wa rfl rfl <| w_nil ?_
  refine e_condDT rfl (by omega) ?_
  refine esr <| wm rfl rfl <| wm rfl rfl <| w_val (v_subw rfl rfl) rfl <| wa rfl rfl <| w_nil ?_
  refine e_retQ (q_ret1 rfl (.tmp rfl) ?_)
  exact fun w' hw' => ⟨by subst hk; rfl, hw'.res.nil⟩
 ·refine e_condDF rfl (by omega) ?_
  refine esr <| w_val (v_eql rfl rfl) rfl <| wa rfl rfl <| w_nil ?_
  refine e_condDF rfl (by omega) ?_
  refine esr <| w_val (v_eql rfl rfl) rfl <| wa rfl rfl <| w_nil ?_
  refine e_condDT rfl (by omega) ?_
  refine esr <| wm rfl rfl <| wm rfl rfl <| w_val (v_mulw rfl rfl) rfl <| wa rfl rfl <| w_nil ?_
  refine e_retQ (q_ret1 rfl (.tmp rfl) ?_)
  exact fun w' hw' => ⟨by subst hk; rfl, hw'.res.nil⟩
 ·refine e_condDF rfl (by omega) ?_
  refine esr <| w_val (v_eql rfl rfl) rfl <| wa rfl rfl <| w_nil ?_
  refine e_condDF rfl (by omega) ?_
  refine esr <| w_val (v_eql rfl rfl) rfl <| wa rfl rfl <| w_nil ?_
  refine e_condDF rfl (by omega) ?_
  refine esr <| w_val (v_eql rfl rfl) rfl <| wa rfl rfl <| w_nil ?_
  refine e_condDT rfl (by omega) ?_
  refine esr <| wm rfl rfl <| wm rfl rfl <| w_val (v_lss rfl rfl) rfl <| w_nil ?_
  refine e_condDT rfl (by omega) ?_
  refine esr <| wa rfl rfl <| w_nil ?_
  refine e_retQ (q_ret1 rfl (.tmp rfl) ?_)
  exact fun w' hw' => ⟨by simp [arithL, hk.1, hk.2], hw'.res.nil⟩
 ·refine e_condDF rfl (by omega) ?_
  refine esr <| w_val (v_eql rfl rfl) rfl <| wa rfl rfl <| w_nil ?_
  refine e_condDF rfl (by omega) ?_
  refine esr <| w_val (v_eql rfl rfl) rfl <| wa rfl rfl <| w_nil ?_
  refine e_condDF rfl (by omega) ?_
  refine esr <| w_val (v_eql rfl rfl) rfl <| wa rfl rfl <| w_nil ?_
  refine e_condDT rfl (by omega) ?_
  refine esr <| wm rfl rfl <| wm rfl rfl <| w_val (v_lss rfl rfl) rfl <| w_nil ?_
  refine e_condDF rfl (by omega) ?_
  refine e_skip <| e_blk <| esr <| wa rfl rfl <| w_nil ?_
  refine e_retQ (q_ret1 rfl (.tmp rfl) ?_)
  exact fun w' hw' => ⟨by simp [arithL, hk.1]; omega, hw'.res.nil⟩
 ·refine e_condDF rfl (by omega) ?_
  refine esr <| w_val (v_eql rfl rfl) rfl <| wa rfl rfl <| w_nil ?_
  refine e_condDF rfl (by omega) ?_
  refine esr <| w_val (v_eql rfl rfl) rfl <| wa rfl rfl <| w_nil ?_
  refine e_condDF rfl (by omega) ?_
  refine esr <| w_val (v_eql rfl rfl) rfl <| wa rfl rfl <| w_nil ?_
  refine e_condDF rfl (by omega) ?_
  refine e_skip <| e_blk <| esr <| wa rfl rfl <| w_nil ?_
  refine e_retQ (q_ret1 rfl (.tmp rfl) ?_)
  exact fun w' hw' => ⟨by simp [arithL, hk.1, hk.2.1, hk.2.2.1, hk.2.2.2], hw'.res.nil⟩
def lens (r : RoundL) : Nat := (r.map List.length).sum
end Go.SL
end
section
open Go Go.Proofs Go.SL
set_option maxRecDepth 100000
namespace Go.SL
theorem badL_zero {x m : Int} (h : ¬ badL x m ≠ 0) : (m = 0 ∧ x = 0) ∨ (m ≠ 0 ∧ 0 ≤ x ∧ x < m) := by
 unfold badL at h
 split at h
 ·left; refine ⟨by assumption, ?_⟩; by_cases hx : x = 0
  ·exact hx
  ·simp [hx] at h
 ·right; refine ⟨by assumption, ?_⟩; by_cases hx : x < 0 ∨ m ≤ x
  ·simp [hx] at h
  ·omega
theorem fault_rng {o : OpL} (h : opFaultL o = 0) : 1 ≤ o.kind ∧ o.kind ≤ 9 ∧ ¬ badL o.a ((limL o.kind).getD 0 0) ≠ 0 ∧ ¬ badL o.b ((limL o.kind).getD 1 0) ≠ 0 ∧ ¬ badL o.c ((limL o.kind).getD 2 0) ≠ 0 := by
 unfold opFaultL at h
 by_cases h1 : o.kind < 1 ∨ 9 < o.kind
 ·rw [if_pos h1] at h; omega
 ·rw [if_neg h1] at h
  by_cases h2 : badL o.a ((limL o.kind).getD 0 0) ≠ 0
  ·rw [if_pos h2] at h; exact absurd h h2
  ·rw [if_neg h2] at h
   by_cases h3 : badL o.b ((limL o.kind).getD 1 0) ≠ 0
   ·rw [if_pos h3] at h; exact absurd h h3
   ·rw [if_neg h3] at h
    by_cases h4 : badL o.c ((limL o.kind).getD 2 0) ≠ 0
    ·rw [if_pos h4] at h; exact absurd h h4
    ·exact ⟨by omega, by omega, h2, h3, h4⟩
theorem rng_all {o : OpL} (h : opFaultL o = 0) :
  (o.kind = 1 ∧ 0 ≤ o.a ∧ o.a < 4) ∨ (o.kind = 8 ∧ 0 ≤ o.a ∧ o.a < 4) ∨ (o.kind = 2 ∧ 0 ≤ o.a ∧ o.a < 4 ∧ 0 ≤ o.b ∧ o.b < 10) ∨ (o.kind = 7 ∧ 0 ≤ o.a ∧ o.a < 10 ∧ 0 ≤ o.b ∧ o.b < 4) ∨
  (o.kind = 9 ∧ 0 ≤ o.a ∧ o.a < 4 ∧ 0 ≤ o.b ∧ o.b < 14) ∨ ((o.kind = 3 ∨ o.kind = 4 ∨ o.kind = 5 ∨ o.kind = 6) ∧ 0 ≤ o.a ∧ o.a < 4 ∧ 0 ≤ o.b ∧ o.b < 4 ∧ 0 ≤ o.c ∧ o.c < 4) := by
 obtain ⟨h1, h2, ha, hb, hc⟩ := fault_rng h
 have hk : o.kind = 1 ∨ o.kind = 8 ∨ o.kind = 2 ∨ o.kind = 7 ∨ o.kind = 9 ∨ (o.kind = 3 ∨ o.kind = 4 ∨ o.kind = 5 ∨ o.kind = 6) := by omega
 rcases hk with hk | hk | hk | hk | hk | hk
 ·rw [lims_num (.inl hk)] at ha; have := badL_zero ha; simp at this; omega
 ·rw [lims_num (.inr hk)] at ha; have := badL_zero ha; simp at this; omega
 ·rw [lims_load hk] at ha hb; have h3 := badL_zero ha; have h4 := badL_zero hb; simp at h3 h4; omega
 ·rw [lims_store hk] at ha hb; have h3 := badL_zero ha; have h4 := badL_zero hb; simp at h3 h4; omega
 ·rw [lims_skip hk] at ha hb; have h3 := badL_zero ha; have h4 := badL_zero hb; simp at h3 h4; omega
 ·rw [lims_ar hk] at ha hb hc; have h3 := badL_zero ha; have h4 := badL_zero hb; have h5 := badL_zero hc; simp at h3 h4 h5; omega
theorem checkFrom_all {total : Nat} : ∀ (rest : DeedL) (i : Nat) (st : Bool), (checkFrom total i st rest).1 = 0 → ∀ j (h : j < rest.length), ∃ st', opCheckL total (i + j) st' rest[j] = 0
 | [], _, _, _, j, h => by simp at h
 | o :: rest, i, st, h, j, hj => by
  simp only [checkFrom] at h
  by_cases hc : opCheckL total i st o ≠ 0
  ·rw [if_pos hc] at h; exact absurd h hc
  ·rw [if_neg hc] at h
   cases j with
   | zero => exact ⟨st, by simpa using hc⟩
   | succ j =>
    obtain ⟨st', h'⟩ := checkFrom_all rest (i + 1) _ h j (by simpa using hj)
    exact ⟨st', by rw [show i + (j + 1) = i + 1 + j by omega]; simpa using h'⟩
theorem checked {d : DeedL} (h : (checkL d).1 = 0) : d.length ≤ 14 ∧ ∀ k (hk : k < d.length), opFaultL d[k] = 0 ∧ (d[k].kind ≠ 9 ∨ (1 ≤ d[k].b ∧ (k : Int) + d[k].b < d.length)) := by
 unfold checkL at h
 by_cases h14 : 14 < d.length
 ·rw [if_pos h14] at h; simp at h
 ·rw [if_neg h14] at h
  refine ⟨by omega, fun k hk => ?_⟩
  obtain ⟨st', h'⟩ := checkFrom_all d 0 false h k hk
  simp only [opCheckL, Nat.zero_add] at h'
  by_cases h1 : opFaultL d[k] ≠ 0
  ·rw [if_pos h1] at h'; exact absurd h' h1
  ·rw [if_neg h1] at h'
   refine ⟨by omega, ?_⟩
   by_cases h2 : d[k].kind = 8 ∧ st' = true
   ·rw [if_pos h2] at h'; omega
   ·rw [if_neg h2] at h'
    by_cases h3 : d[k].kind = 9 ∧ (d[k].b < 1 ∨ (d.length : Int) - k - 1 < d[k].b)
    ·rw [if_pos h3] at h'; omega
    ·by_cases h9 : d[k].kind = 9
     ·right
      have : ¬ (d[k].b < 1 ∨ (d.length : Int) - k - 1 < d[k].b) := fun hh => h3 ⟨h9, hh⟩
      omega
     ·exact .inl h9
theorem reckon_spec (k a b : Int) (w : World) : Calls Tryz.prog 135 #[.int .i64 k, .int .i64 a, .int .i64 b] w fun e w' => e = .returned (.int .i64 (arithL k a b)) ∧ Res w [] [] w' := by
 have hk : k = 3 ∨ k = 4 ∨ k = 5 ∨ (k ≠ 3 ∧ k ≠ 4 ∧ k ≠ 5) := by omega
 refine enter0 (N := 29) Tryz.func135 rfl rfl rfl <| esr <| wa rfl rfl <| w_nil <| e_seq <| esr <| wm rfl rfl <| w_val (v_eql rfl rfl) rfl <| w_nil ?_
 rcases hk with hk | hk | hk | hk
 ·refine e_condDT rfl (by omega) ?_
  refine esr <| wm rfl rfl <| wm rfl rfl <| w_val (v_addw rfl rfl) rfl <| wa rfl rfl <| w_nil ?_
  refine e_retQ (q_ret1 rfl (.tmp rfl) ?_)
  exact fun w' hw' => ⟨by subst hk; rfl, hw'.res.nil⟩
 ·refine e_condDF rfl (by omega) ?_
  refine e_skip <| e_seq <| esr <| wm rfl rfl <| w_val (v_eql rfl rfl) rfl <| w_nil ?_
  refine e_condDT rfl (by omega) ?_
  refine esr <| wm rfl rfl <| wm rfl rfl <| w_val (v_subw rfl rfl) rfl <| wa rfl rfl <| w_nil ?_
  refine e_retQ (q_ret1 rfl (.tmp rfl) ?_)
  exact fun w' hw' => ⟨by subst hk; rfl, hw'.res.nil⟩
 ·refine e_condDF rfl (by omega) ?_
  refine e_skip <| e_seq <| esr <| wm rfl rfl <| w_val (v_eql rfl rfl) rfl <| w_nil ?_
  refine e_condDF rfl (by omega) ?_
  refine e_skip <| e_seq <| esr <| wm rfl rfl <| w_val (v_eql rfl rfl) rfl <| w_nil ?_
  refine e_condDT rfl (by omega) ?_
  refine esr <| wm rfl rfl <| wm rfl rfl <| w_val (v_mulw rfl rfl) rfl <| wa rfl rfl <| w_nil ?_
  refine e_retQ (q_ret1 rfl (.tmp rfl) ?_)
  exact fun w' hw' => ⟨by subst hk; rfl, hw'.res.nil⟩
 ·refine e_condDF rfl (by omega) ?_
  refine e_skip <| e_seq <| esr <| wm rfl rfl <| w_val (v_eql rfl rfl) rfl <| w_nil ?_
  refine e_condDF rfl (by omega) ?_
  refine e_skip <| e_seq <| esr <| wm rfl rfl <| w_val (v_eql rfl rfl) rfl <| w_nil ?_
  refine e_condDF rfl (by omega) ?_
  refine e_skip <| e_seq <| e_seq ?_
  refine e_test 28 (decide (k = 6 ∧ a < b)) ?_ ?_
  ·refine e_region <| wm rfl rfl ?_
   refine w_valD (v_eql rfl rfl) rfl (fun hg1 => ?_) (fun hg1 => ?_)
   ·refine wm rfl rfl <| w_want rfl rfl <| wm rfl rfl <| w_want rfl rfl <| wm rfl rfl <| w_want rfl rfl ?_
    refine w_valD (v_lss rfl rfl) rfl (fun hg5 => ?_) (fun hg5 => ?_)
    ·refine w_val (v_pickT rfl rfl) rfl <| w_nil ?_
     exact e_testEnd rfl (by first | (simp_all; done) | (simp_all; omega)) (by repeat (first | exact Sub.refl _ | exact Sub.nil _ | exact Sub.del _ _ | refine Sub.skip rfl ?_)) (fun _ hw => hw)
    ·refine w_val (v_pickT rfl rfl) rfl <| w_nil ?_
     exact e_testEnd rfl (by first | (simp_all; done) | (simp_all; omega)) (by repeat (first | exact Sub.refl _ | exact Sub.nil _ | exact Sub.del _ _ | refine Sub.skip rfl ?_)) (fun _ hw => hw)
   ·refine wm rfl rfl <| w_skip rfl rfl rfl rfl <| w_skip rfl rfl rfl rfl <| w_skip rfl rfl rfl rfl <| w_val (v_pickF rfl rfl) rfl <| w_nil ?_
    exact e_testEnd rfl (by first | (simp_all; done) | (simp_all; omega)) (by repeat (first | exact Sub.refl _ | exact Sub.nil _ | exact Sub.del _ _ | refine Sub.skip rfl ?_)) (fun _ hw => hw)
  refine e_condD rfl (fun h => ?_) (fun h => ?_)
  ·refine esr <| wa rfl rfl <| w_nil ?_
   refine e_retQ (q_ret1 rfl (.tmp rfl) ?_)
   exact fun w' hw' => ⟨by simp [arithL, h.1, h.2], hw'.res.nil⟩
  ·refine e_skip <| esr <| wa rfl rfl <| w_nil ?_
   refine e_retQ (q_ret1 rfl (.tmp rfl) ?_)
   exact fun w' hw' => ⟨by simp only [arithL]; rw [if_neg hk.1, if_neg hk.2.1, if_neg hk.2.2, if_neg h], hw'.res.nil⟩
end Go.SL
end
section
open Go Go.Proofs Go.SL
set_option maxRecDepth 100000
namespace Go.SL
theorem roundFrom_ok : ∀ {r : RoundL}, roundFrom r = 0 → ∀ d ∈ r, (checkL d).1 = 0
 | [], _, d, hd => by simp at hd
 | x :: r, h, d, hd => by
  simp only [roundFrom] at h
  by_cases hx : (checkL x).1 ≠ 0
  ·rw [if_pos hx] at h; exact absurd h hx
  ·rw [if_neg hx] at h
   rcases List.mem_cons.1 hd with rfl | hd
   ·omega
   ·exact roundFrom_ok h d hd
theorem roundFault_ok {r : RoundL} (h : roundFaultL r = 0) : r.length ≤ 8 ∧ ∀ d ∈ r, (checkL d).1 = 0 := by
 unfold roundFaultL at h
 split at h
 ·omega
 ·exact ⟨by omega, roundFrom_ok h⟩
theorem u64_nonneg (x : Int) : 0 ≤ IntKind.u64.wrap x := by
 simp [IntKind.wrap, IntKind.bits, IntKind.signed]
 omega
end Go.SL
end
