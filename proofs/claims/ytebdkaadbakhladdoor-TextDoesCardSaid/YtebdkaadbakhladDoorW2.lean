/- YtebdkaadbakhladDoor: part W2 of this seat's own texts. -/
import Derived.Test.YtebdkaadbakhladDoorW1
import Derived.Test.YtebdkaadbakhladDoorP1
set_option linter.unusedVariables false
set_option linter.unusedSimpArgs false
section

open Go Go.Proofs Go.SL
set_option maxRecDepth 100000
namespace Go.SL
def lens (r : RoundL) : Nat := (r.map List.length).sum
end Go.SL
end
section

open Go Go.Proofs Go.SL
set_option maxRecDepth 100000
namespace Go.SL
theorem checkFrom_all {total : Nat} : ∀ (rest : DeedL) (i : Nat) (st : Bool), (checkFrom total i st rest).1 = 0 → ∀ j (h : j < rest.length), ∃ st', opCheckL total (i + j) st' rest[j] = 0
  | [], _, _, _, j, h => by simp at h
  | o :: rest, i, st, h, j, hj => by
    simp only [checkFrom] at h
    by_cases hc : opCheckL total i st o ≠ 0
    · rw [if_pos hc] at h; exact absurd h hc
    · rw [if_neg hc] at h
      cases j with
      | zero => exact ⟨st, by simpa using hc⟩
      | succ j =>
        obtain ⟨st', h'⟩ := checkFrom_all rest (i + 1) _ h j (by simpa using hj)
        exact ⟨st', by rw [show i + (j + 1) = i + 1 + j by omega]; simpa using h'⟩
theorem checked {d : DeedL} (h : (checkL d).1 = 0) : d.length ≤ 14 ∧ ∀ k (hk : k < d.length), opFaultL d[k] = 0 ∧ (d[k].kind ≠ 9 ∨ (1 ≤ d[k].b ∧ (k : Int) + d[k].b < d.length)) := by
  unfold checkL at h
  by_cases h14 : 14 < d.length
  · rw [if_pos h14] at h; simp at h
  · rw [if_neg h14] at h
    refine ⟨by omega, fun k hk => ?_⟩
    obtain ⟨st', h'⟩ := checkFrom_all d 0 false h k hk
    simp only [opCheckL, Nat.zero_add] at h'
    by_cases h1 : opFaultL d[k] ≠ 0
    · rw [if_pos h1] at h'; exact absurd h' h1
    · rw [if_neg h1] at h'
      refine ⟨by omega, ?_⟩
      by_cases h2 : d[k].kind = 8 ∧ st' = true
      · rw [if_pos h2] at h'; omega
      · rw [if_neg h2] at h'
        by_cases h3 : d[k].kind = 9 ∧ (d[k].b < 1 ∨ (d.length : Int) - k - 1 < d[k].b)
        · rw [if_pos h3] at h'; omega
        · by_cases h9 : d[k].kind = 9
          · right
            have : ¬ (d[k].b < 1 ∨ (d.length : Int) - k - 1 < d[k].b) := fun hh => h3 ⟨h9, hh⟩
            omega
          · exact .inl h9
-- left out: caracole/caracoleref.Reckon
end Go.SL
end
section

open Go Go.Proofs Go.SL
set_option maxRecDepth 100000
namespace Go.SL
end Go.SL
end
