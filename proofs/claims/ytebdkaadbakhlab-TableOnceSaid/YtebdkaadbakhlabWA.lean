/- Ytebdkaadbakhlab: part WA of this seat's own texts. -/
import Derived.Test.YtebdkaadbakhlabW4
import Derived.Test.YtebdkaadbakhlabP4
set_option linter.unusedVariables false
set_option linter.unusedSimpArgs false
open Go Go.Proofs Go.SL
set_option maxRecDepth 100000
namespace Go.SL
theorem in64_byte (x : UInt8) : In64 (x.toNat : Int) := by have := x.toNat_lt; unfold In64; omega
theorem in64_wrap (m : Int) : In64 (IntKind.i64.wrap m) := by have := w64_range m; unfold In64; omega
theorem getOp_in : ∀ {b b' : List UInt8} {o : OpL}, getOp b = some (o, b') → OpIn o
  | [], _, _, h => by simp [getOp] at h
  | k :: b, b', o, h => by
    simp only [getOp] at h
    by_cases hk : k = 1
    · subst hk
      simp only [if_true] at h
      split at h
      · simp only [Option.some.injEq, Prod.mk.injEq] at h
        obtain ⟨rfl, rfl⟩ := h
        exact ⟨by unfold In64; dsimp only; omega, in64_byte _, by unfold In64; dsimp only; omega, by unfold In64; dsimp only; omega, in64_wrap _⟩
      · cases h
    · rw [if_neg hk] at h
      split at h
      · rename_i x c rest
        simp only [Option.some.injEq, Prod.mk.injEq] at h
        obtain ⟨rfl, rfl⟩ := h
        have := x.toNat_lt
        exact ⟨in64_byte _, by unfold In64; dsimp only; omega, by unfold In64; dsimp only; omega, in64_byte _, by unfold In64; dsimp only; omega⟩
      · cases h
theorem getOps_in : ∀ {n : Nat} {b b' : List UInt8} {d : DeedL}, getOps n b = some (d, b') → ∀ o ∈ d, OpIn o
  | 0, b, b', d, h => by
    simp only [getOps, Option.some.injEq, Prod.mk.injEq] at h
    obtain ⟨rfl, rfl⟩ := h
    intro o ho; simp at ho
  | n + 1, b, b', d, h => by
    simp only [getOps] at h
    cases h1 : getOp b with
    | none => rw [h1] at h; cases h
    | some p =>
      obtain ⟨o, b1⟩ := p
      rw [h1] at h
      dsimp only at h
      cases h2 : getOps n b1 with
      | none => rw [h2] at h; cases h
      | some p =>
        obtain ⟨d', b2⟩ := p
        rw [h2] at h
        simp only [Option.some.injEq, Prod.mk.injEq] at h
        obtain ⟨rfl, rfl⟩ := h
        intro o' ho'
        rcases List.mem_cons.1 ho' with rfl | ho'
        · exact getOp_in h1
        · exact getOps_in h2 o' ho'
theorem getDeeds_in : ∀ {n : Nat} {b b' : List UInt8} {r : RoundL}, getDeeds n b = some (r, b') → ∀ d ∈ r, ∀ o ∈ d, OpIn o
  | 0, b, b', d, h => by
    simp only [getDeeds, Option.some.injEq, Prod.mk.injEq] at h
    obtain ⟨rfl, rfl⟩ := h
    intro o ho; simp at ho
  | n + 1, b, b', d, h => by
    simp only [getDeeds] at h
    cases h1 : getDeed b with
    | none => rw [h1] at h; cases h
    | some p =>
      obtain ⟨o, b1⟩ := p
      rw [h1] at h
      dsimp only at h
      cases h2 : getDeeds n b1 with
      | none => rw [h2] at h; cases h
      | some p =>
        obtain ⟨d', b2⟩ := p
        rw [h2] at h
        simp only [Option.some.injEq, Prod.mk.injEq] at h
        obtain ⟨rfl, rfl⟩ := h
        intro o' ho'
        rcases List.mem_cons.1 ho' with rfl | ho'
        · cases b with
          | nil => cases h1
          | cons x b => exact getOps_in h1
        · exact getDeeds_in h2 o' ho'
theorem getRound_in {b b' : List UInt8} {r : RoundL} (h : getRound b = some (r, b')) : ∀ d ∈ r, ∀ o ∈ d, OpIn o := by
  cases b with
  | nil => cases h
  | cons x b => exact getDeeds_in h
theorem decL_in (bs : List UInt8) : ∀ d ∈ (decL roundFaultL bs).1, ∀ o ∈ d, OpIn o := by
  have hB : ∀ b : List UInt8, ∀ d ∈ (bodyL roundFaultL b).1, ∀ o ∈ d, OpIn o := by
    intro b
    unfold bodyL
    cases h : getRound b with
    | none => intro d hd; simp at hd
    | some p =>
      obtain ⟨r, rest⟩ := p
      dsimp only
      by_cases h1 : rest ≠ []
      · rw [if_pos h1]; intro d hd; simp at hd
      · rw [if_neg h1]
        by_cases h2 : roundFaultL r ≠ 0
        · rw [if_pos h2]; intro d hd; simp at hd
        · rw [if_neg h2]; exact getRound_in h
  unfold decL
  by_cases h1 : bs.length < 2
  · rw [if_pos h1]; intro d hd; simp at hd
  · rw [if_neg h1]
    by_cases h2 : bs.length < headN bs
    · rw [if_pos h2]; intro d hd; simp at hd
    · rw [if_neg h2]
      by_cases h3 : (bodyL roundFaultL ((bs.take (headN bs)).drop 2)).2 ≠ 0
      · rw [if_pos h3]; intro d hd; simp at hd
      · rw [if_neg h3]; exact hB _
theorem u64_rem' (x : Int) {m : Nat} (hm : 0 < m) : ∃ k : Nat, k < m ∧ (IntKind.u64.wrap x).tmod m = k := by
  have h0 := u64_nonneg x
  have h1 := Int.tmod_nonneg (m : Int) h0
  have h2 := Int.tmod_lt_of_pos (IntKind.u64.wrap x) (show (0 : Int) < m by omega)
  exact ⟨((IntKind.u64.wrap x).tmod m).toNat, by omega, by omega⟩
end Go.SL

