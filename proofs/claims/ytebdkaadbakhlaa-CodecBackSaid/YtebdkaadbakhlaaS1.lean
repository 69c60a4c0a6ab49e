/- Ytebdkaadbakhlaa: part S1 of this seat's own texts. -/
import Derived.Test.YtebdkaadbakhlaaC5
set_option linter.unusedVariables false
set_option linter.unusedSimpArgs false
open Go Go.Proofs Go.SL
set_option maxRecDepth 100000
namespace Go.SL
def w64 (x : Int) : Int := IntKind.i64.wrap x
def arithL (k a b : Int) : Int := if k = 3 then w64 (a + b) else if k = 4 then w64 (a - b) else if k = 5 then w64 (a * b) else if k = 6 ∧ a < b then 1 else 0
theorem arith_spec (k a b : Int) (w : World) : Calls Try.prog 19 #[.int .i64 k, .int .i64 a, .int .i64 b] w fun e w' => e = .returned (.int .i64 (arithL k a b)) ∧ Res w [] [] w' := by
  have hk : k = 3 ∨ k = 4 ∨ k = 5 ∨ (k = 6 ∧ a < b) ∨ (k = 6 ∧ ¬ a < b) ∨ (k ≠ 3 ∧ k ≠ 4 ∧ k ≠ 5 ∧ k ≠ 6) := by omega
  refine enter0 (N := 28) Try.func19 rfl rfl rfl ?_
  refine e_seq ?_
  refine e_region ?_
  refine w_val (v_assign rfl) rfl ?_
  refine w_nil ?_
  refine e_seq ?_
  refine e_seq ?_
  refine e_region ?_
  refine w_val (v_move rfl) rfl ?_
  refine w_nil ?_
  refine e_block ?_
  refine e_seq ?_
  refine e_region ?_
  refine w_val (v_eql rfl rfl) rfl ?_
  refine w_val (v_assign rfl) rfl ?_
  refine w_nil ?_
  rcases hk with hk | hk | hk | hk | hk | hk
  · first | refine e_condDT rfl (by omega) ?_ | refine e_condT rfl ?_
    refine e_seq ?_
    refine e_region ?_
    refine w_val (v_move rfl) rfl ?_
    refine w_val (v_move rfl) rfl ?_
    refine w_val (v_addw rfl rfl) rfl ?_
    refine w_val (v_assign rfl) rfl ?_
    refine w_nil ?_
    refine e_retQ (q_ret1 rfl (.tmp rfl) ?_)
    exact fun w' hw' => ⟨by subst hk; rfl, hw'.res.nil⟩
  · first | refine e_condDF rfl (by omega) ?_ | refine e_condF rfl ?_
    refine e_seq ?_
    refine e_region ?_
    refine w_val (v_eql rfl rfl) rfl ?_
    refine w_val (v_assign rfl) rfl ?_
    refine w_nil ?_
    first | refine e_condDT rfl (by omega) ?_ | refine e_condT rfl ?_
    refine e_seq ?_
    refine e_region ?_
    refine w_val (v_move rfl) rfl ?_
    refine w_val (v_move rfl) rfl ?_
    refine w_val (v_subw rfl rfl) rfl ?_
    refine w_val (v_assign rfl) rfl ?_
    refine w_nil ?_
    refine e_retQ (q_ret1 rfl (.tmp rfl) ?_)
    exact fun w' hw' => ⟨by subst hk; rfl, hw'.res.nil⟩
  · first | refine e_condDF rfl (by omega) ?_ | refine e_condF rfl ?_
    refine e_seq ?_
    refine e_region ?_
    refine w_val (v_eql rfl rfl) rfl ?_
    refine w_val (v_assign rfl) rfl ?_
    refine w_nil ?_
    first | refine e_condDF rfl (by omega) ?_ | refine e_condF rfl ?_
    refine e_seq ?_
    refine e_region ?_
    refine w_val (v_eql rfl rfl) rfl ?_
    refine w_val (v_assign rfl) rfl ?_
    refine w_nil ?_
    first | refine e_condDT rfl (by omega) ?_ | refine e_condT rfl ?_
    refine e_seq ?_
    refine e_region ?_
    refine w_val (v_move rfl) rfl ?_
    refine w_val (v_move rfl) rfl ?_
    refine w_val (v_mulw rfl rfl) rfl ?_
    refine w_val (v_assign rfl) rfl ?_
    refine w_nil ?_
    refine e_retQ (q_ret1 rfl (.tmp rfl) ?_)
    exact fun w' hw' => ⟨by subst hk; rfl, hw'.res.nil⟩
  · first | refine e_condDF rfl (by omega) ?_ | refine e_condF rfl ?_
    refine e_seq ?_
    refine e_region ?_
    refine w_val (v_eql rfl rfl) rfl ?_
    refine w_val (v_assign rfl) rfl ?_
    refine w_nil ?_
    first | refine e_condDF rfl (by omega) ?_ | refine e_condF rfl ?_
    refine e_seq ?_
    refine e_region ?_
    refine w_val (v_eql rfl rfl) rfl ?_
    refine w_val (v_assign rfl) rfl ?_
    refine w_nil ?_
    first | refine e_condDF rfl (by omega) ?_ | refine e_condF rfl ?_
    refine e_seq ?_
    refine e_region ?_
    refine w_val (v_eql rfl rfl) rfl ?_
    refine w_val (v_assign rfl) rfl ?_
    refine w_nil ?_
    first | refine e_condDT rfl (by omega) ?_ | refine e_condT rfl ?_
    refine e_seq ?_
    refine e_region ?_
    refine w_val (v_move rfl) rfl ?_
    refine w_val (v_move rfl) rfl ?_
    refine w_val (v_lss rfl rfl) rfl ?_
    refine w_nil ?_
    first | refine e_condDT rfl (by omega) ?_ | refine e_condT rfl ?_
    refine e_seq ?_
    refine e_region ?_
    refine w_val (v_assign rfl) rfl ?_
    refine w_nil ?_
    refine e_retQ (q_ret1 rfl (.tmp rfl) ?_)
    exact fun w' hw' => ⟨by simp [arithL, hk.1, hk.2], hw'.res.nil⟩
  · first | refine e_condDF rfl (by omega) ?_ | refine e_condF rfl ?_
    refine e_seq ?_
    refine e_region ?_
    refine w_val (v_eql rfl rfl) rfl ?_
    refine w_val (v_assign rfl) rfl ?_
    refine w_nil ?_
    first | refine e_condDF rfl (by omega) ?_ | refine e_condF rfl ?_
    refine e_seq ?_
    refine e_region ?_
    refine w_val (v_eql rfl rfl) rfl ?_
    refine w_val (v_assign rfl) rfl ?_
    refine w_nil ?_
    first | refine e_condDF rfl (by omega) ?_ | refine e_condF rfl ?_
    refine e_seq ?_
    refine e_region ?_
    refine w_val (v_eql rfl rfl) rfl ?_
    refine w_val (v_assign rfl) rfl ?_
    refine w_nil ?_
    first | refine e_condDT rfl (by omega) ?_ | refine e_condT rfl ?_
    refine e_seq ?_
    refine e_region ?_
    refine w_val (v_move rfl) rfl ?_
    refine w_val (v_move rfl) rfl ?_
    refine w_val (v_lss rfl rfl) rfl ?_
    refine w_nil ?_
    first | refine e_condDF rfl (by omega) ?_ | refine e_condF rfl ?_
    refine e_skip ?_
    refine e_blk ?_
    refine e_seq ?_
    refine e_region ?_
    refine w_val (v_assign rfl) rfl ?_
    refine w_nil ?_
    refine e_retQ (q_ret1 rfl (.tmp rfl) ?_)
    exact fun w' hw' => ⟨by simp [arithL, hk.1]; omega, hw'.res.nil⟩
  · first | refine e_condDF rfl (by omega) ?_ | refine e_condF rfl ?_
    refine e_seq ?_
    refine e_region ?_
    refine w_val (v_eql rfl rfl) rfl ?_
    refine w_val (v_assign rfl) rfl ?_
    refine w_nil ?_
    first | refine e_condDF rfl (by omega) ?_ | refine e_condF rfl ?_
    refine e_seq ?_
    refine e_region ?_
    refine w_val (v_eql rfl rfl) rfl ?_
    refine w_val (v_assign rfl) rfl ?_
    refine w_nil ?_
    first | refine e_condDF rfl (by omega) ?_ | refine e_condF rfl ?_
    refine e_seq ?_
    refine e_region ?_
    refine w_val (v_eql rfl rfl) rfl ?_
    refine w_val (v_assign rfl) rfl ?_
    refine w_nil ?_
    first | refine e_condDF rfl (by omega) ?_ | refine e_condF rfl ?_
    refine e_skip ?_
    refine e_blk ?_
    refine e_seq ?_
    refine e_region ?_
    refine w_val (v_assign rfl) rfl ?_
    refine w_nil ?_
    refine e_retQ (q_ret1 rfl (.tmp rfl) ?_)
    exact fun w' hw' => ⟨by simp [arithL, hk.1, hk.2.1, hk.2.2.1, hk.2.2.2], hw'.res.nil⟩
def lens (r : RoundL) : Nat := (r.map List.length).sum
def greatL (r : RoundL) : Bool := decide (60 < r.length ∨ 500 < lens (r.take 100))
theorem lens_take {r : RoundL} {k : Nat} (h : k < r.length) : lens (r.take (k + 1)) = lens (r.take k) + r[k].length := by
  unfold lens
  rw [List.take_succ_eq_append_getElem h, List.map_append, List.sum_append]
  simp
theorem lens_bound {r : RoundL} {B : Nat} (hb : ∀ d ∈ r, d.length ≤ B) (k : Nat) : lens (r.take k) ≤ k * B := by
  induction k with
  | zero => simp [lens]
  | succ k ih =>
    rw [Nat.succ_mul]
    by_cases h : k < r.length
    · rw [lens_take h]
      have := hb r[k] (List.getElem_mem h)
      omega
    · rw [List.take_of_length_le (by omega)] at ih ⊢
      omega
theorem great_spec (v : Value) (r : RoundL) (w : World) (h : IsRound w.cell? v r) (hb : ∀ d ∈ r, d.length ≤ 4398046511104) : Calls Try.prog 18 #[v] w fun e w' => e = .returned (.bool (greatL r)) ∧ Res w [] [] w' := by
  rw [← off_none w] at h
  obtain ⟨A, kp, rfl, hle, hc⟩ := h.form
  refine enter0 (N := 29) Try.func18 rfl rfl rfl ?_
  refine e_seq ?_
  refine e_region ?_
  refine w_val (v_assign rfl) rfl ?_
  refine w_nil ?_
  refine e_seq ?_
  refine e_region ?_
  refine w_val (v_assign rfl) rfl ?_
  refine w_nil ?_
  refine e_seq ?_
  refine e_seq ?_
  refine e_region ?_
  refine w_val (v_assign rfl) rfl ?_
  refine w_nil ?_
  refine e_cutK (σ := Unit) [0] (.cons rfl .nil) (fun _ => [(3, .int .i64 (lens (r.take 100)))]) (fun _ => True) ?_ ?_
  · refine e_block ?_
    refine e_loopK (σ := Nat) [0] (.cons rfl .nil) (fun k => [(4, .int .i64 k), (3, .int .i64 (lens (r.take k)))]) (fun k => k ≤ r.length ∧ k ≤ 100) (fun k => r.length - k) 0 ⟨by omega, by omega⟩ (by repeat (first | exact Sub.nil _ | refine Sub.cons rfl ?_)) ?_
    rintro k ⟨hk, hk2⟩
    have hlb := Nat.le_trans (lens_bound hb k) (Nat.mul_le_mul_right _ hk2)
    refine e_seq ?_
    refine e_seq ?_
    refine e_test 12 (decide ((k : Int) < r.length ∧ (k : Int) < 100)) ?_ ?_
    · refine e_region ?_
      refine w_val (v_move rfl) rfl ?_
      refine w_val (v_move rfl) rfl ?_
      refine w_val (v_lenS Try.underlying40 rfl) rfl ?_
      refine w_valD (v_lss rfl rfl) rfl (fun hg3 => ?_) (fun hg3 => ?_)
      · refine w_val (v_move rfl) rfl ?_
        refine w_want rfl rfl ?_
        refine w_val (v_move rfl) rfl ?_
        refine w_want rfl rfl ?_
        refine w_valD (v_lss rfl rfl) rfl (fun hg6 => ?_) (fun hg6 => ?_)
        · refine w_val (v_pickT rfl rfl) rfl ?_
          refine w_nil ?_
          exact e_testEnd rfl (by first | (simp_all; done) | (simp_all; omega)) (by repeat (first | exact Sub.refl _ | exact Sub.nil _ | exact Sub.del _ _ | refine Sub.skip rfl ?_)) (fun _ hw => hw)
        · refine w_val (v_pickT rfl rfl) rfl ?_
          refine w_nil ?_
          exact e_testEnd rfl (by first | (simp_all; done) | (simp_all; omega)) (by repeat (first | exact Sub.refl _ | exact Sub.nil _ | exact Sub.del _ _ | refine Sub.skip rfl ?_)) (fun _ hw => hw)
      · refine w_val (v_move rfl) rfl ?_
        refine w_skip rfl rfl rfl rfl ?_
        refine w_skip rfl rfl rfl rfl ?_
        refine w_val (v_pickF rfl rfl) rfl ?_
        refine w_nil ?_
        exact e_testEnd rfl (by first | (simp_all; done) | (simp_all; omega)) (by repeat (first | exact Sub.refl _ | exact Sub.nil _ | exact Sub.del _ _ | refine Sub.skip rfl ?_)) (fun _ hw => hw)
    refine e_condD rfl (fun hlt => ?_) (fun hlt => ?_)
    · have hlt' : k < r.length := by omega
      obtain ⟨ad, u, rfl, hcell, hd⟩ := hc k hlt'
      obtain ⟨A', kp', rfl, hle', -⟩ := hd.form
      have hbk := hb r[k] (List.getElem_mem hlt')
      have hls := lens_take hlt'
      refine e_skip ?_
      refine e_seq ?_
      refine e_block ?_
      refine e_region ?_
      refine w_val (v_move rfl) rfl ?_
      refine w_val (v_move rfl) rfl ?_
      refine w_val (v_move rfl) rfl ?_
      first | refine w_val (v_indexSB Try.underlying40 Try.hi25 Try.cz25 rfl rfl (by omega)) rfl ?_ | refine w_val (v_indexS Try.underlying40 Try.hi25 Try.cz25 rfl rfl (by omega)) rfl ?_
      first | refine w_val (v_loadO Try.underlying25 rfl rfl (hcell)) rfl ?_ | refine w_val (v_loadB 0 rfl Try.underlying25 rfl rfl rfl) rfl ?_ | refine w_val (v_loadB 1 rfl Try.underlying25 rfl rfl rfl) rfl ?_ | refine w_val (v_loadB 2 rfl Try.underlying25 rfl rfl rfl) rfl ?_ | refine w_val (v_loadB 3 rfl Try.underlying25 rfl rfl rfl) rfl ?_ | refine w_val (v_loadB 4 rfl Try.underlying25 rfl rfl rfl) rfl ?_ | refine w_val (v_loadB 5 rfl Try.underlying25 rfl rfl rfl) rfl ?_ | refine w_val (v_loadB 6 rfl Try.underlying25 rfl rfl rfl) rfl ?_ | refine w_val (v_loadB 7 rfl Try.underlying25 rfl rfl rfl) rfl ?_
      refine w_val (v_lenS Try.underlying25 rfl) rfl ?_
      first | refine w_val (v_add rfl rfl (by omega)) rfl ?_ | refine w_val (v_addw rfl rfl) rfl ?_
      refine w_val (v_assign rfl) rfl ?_
      refine w_nil ?_
      refine e_blk ?_
      refine e_region ?_
      refine w_val (v_move rfl) rfl ?_
      first | refine w_val (v_add rfl rfl (by omega)) rfl ?_ | refine w_val (v_addw rfl rfl) rfl ?_
      refine w_val (v_assign rfl) rfl ?_
      refine w_nil ?_
      rw [show ((lens (r.take k) : Nat) : Int) + (r[k].length : Int) = ((lens (r.take (k + 1)) : Nat) : Int) from by rw [hls]; simp]
      exact e_round (k + 1) (⟨by omega, by omega⟩) (by omega) (by repeat (first | exact Sub.nil _ | refine Sub.cons rfl ?_)) (fun _ hw => hw)
    · refine e_exit rfl ?_
      have : lens (r.take 100) = lens (r.take k) := by
        rcases (by omega : k = r.length ∨ k = 100) with rfl | rfl
        · rw [List.take_of_length_le (by omega), List.take_of_length_le (by omega)]
        · rfl
      rw [this]
      exact e_cutEnd (()) (trivial) (by repeat (first | exact Sub.nil _ | refine Sub.cons rfl ?_)) (fun _ hw => hw)
  · rintro - -
    refine e_seq ?_
    refine e_test 2 (greatL r) ?_ ?_
    · refine e_region ?_
      refine w_val (v_move rfl) rfl ?_
      refine w_val (v_lenS Try.underlying40 rfl) rfl ?_
      refine w_valD (v_gtr rfl rfl) rfl (fun hg2 => ?_) (fun hg2 => ?_)
      · refine w_val (v_move rfl) rfl ?_
        refine w_skip rfl rfl rfl rfl ?_
        refine w_skip rfl rfl rfl rfl ?_
        refine w_val (v_pickT rfl rfl) rfl ?_
        refine w_val (v_assign rfl) rfl ?_
        refine w_nil ?_
        exact e_testEnd rfl (by simp only [greatL]; first | (simp_all; done) | (simp_all; omega)) (by repeat (first | exact Sub.refl _ | exact Sub.nil _ | exact Sub.del _ _ | refine Sub.skip rfl ?_)) (fun _ hw => hw)
      · refine w_val (v_move rfl) rfl ?_
        refine w_want rfl rfl ?_
        refine w_val (v_move rfl) rfl ?_
        refine w_want rfl rfl ?_
        refine w_valD (v_gtr rfl rfl) rfl (fun hg5 => ?_) (fun hg5 => ?_)
        · refine w_val (v_pickF rfl rfl) rfl ?_
          refine w_val (v_assign rfl) rfl ?_
          refine w_nil ?_
          exact e_testEnd rfl (by simp only [greatL]; first | (simp_all; done) | (simp_all; omega)) (by repeat (first | exact Sub.refl _ | exact Sub.nil _ | exact Sub.del _ _ | refine Sub.skip rfl ?_)) (fun _ hw => hw)
        · refine w_val (v_pickF rfl rfl) rfl ?_
          refine w_val (v_assign rfl) rfl ?_
          refine w_nil ?_
          exact e_testEnd rfl (by simp only [greatL]; first | (simp_all; done) | (simp_all; omega)) (by repeat (first | exact Sub.refl _ | exact Sub.nil _ | exact Sub.del _ _ | refine Sub.skip rfl ?_)) (fun _ hw => hw)
    refine e_retQ (q_ret1 rfl (.tmp rfl) ?_)
    exact fun w' hw' => ⟨rfl, hw'.res.nil⟩
end Go.SL
