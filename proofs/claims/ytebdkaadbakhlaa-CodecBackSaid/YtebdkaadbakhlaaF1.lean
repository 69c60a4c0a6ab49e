/- Ytebdkaadbakhlaa: part F1 of this seat's own texts. -/
import Derived.Test.YtebdkaadbakhlaaS2
set_option linter.unusedVariables false
set_option linter.unusedSimpArgs false
open Go Go.Proofs Go.SL
set_option maxRecDepth 100000
namespace Go.SL
theorem roundFrom_ok : ∀ {r : RoundL}, roundFrom r = 0 → ∀ d ∈ r, (checkL d).1 = 0
  | [], _, d, hd => by simp at hd
  | x :: r, h, d, hd => by
    simp only [roundFrom] at h
    by_cases hx : (checkL x).1 ≠ 0
    · rw [if_pos hx] at h; exact absurd h hx
    · rw [if_neg hx] at h
      rcases List.mem_cons.1 hd with rfl | hd
      · omega
      · exact roundFrom_ok h d hd
theorem roundFault_ok {r : RoundL} (h : roundFaultL r = 0) : r.length ≤ 8 ∧ ∀ d ∈ r, (checkL d).1 = 0 := by
  unfold roundFaultL at h
  split at h
  · omega
  · exact ⟨by omega, roundFrom_ok h⟩
theorem roundFault_of {r : RoundL} (h8 : r.length ≤ 8) (h : ∀ d ∈ r, (checkL d).1 = 0) : roundFaultL r = 0 := by
  unfold roundFaultL
  rw [if_neg (by omega)]
  clear h8
  induction r with
  | nil => rfl
  | cons d r ih =>
    simp only [roundFrom]
    rw [if_neg (by simp [h d (by simp)])]
    exact ih (fun d hd => h d (by simp [hd]))
theorem u64_small {x : Int} (h0 : 0 ≤ x) (h1 : x < 18446744073709551616) : IntKind.u64.wrap x = x := by
  simp [IntKind.wrap, IntKind.bits, IntKind.signed]
  omega
theorem u64_nonneg (x : Int) : 0 ≤ IntKind.u64.wrap x := by
  simp [IntKind.wrap, IntKind.bits, IntKind.signed]
  omega
end Go.SL
