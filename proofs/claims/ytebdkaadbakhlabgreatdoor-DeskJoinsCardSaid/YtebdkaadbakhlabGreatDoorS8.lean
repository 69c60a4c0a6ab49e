/- YtebdkaadbakhlabGreatDoor: part S8 of this seat's own texts. -/
import Derived.Test.YtebdkaadbakhlabGreatDoorU1
set_option linter.unusedVariables false
set_option linter.unusedSimpArgs false

open Go Go.Proofs Go.SL
set_option maxRecDepth 100000
namespace Go.SL
/-! ### two runs that agree on what is loaded -/
theorem gt_st (l : List Int) (i x : Int) (k : Nat) : gt (st l i x) k = if i.toNat = k ∧ k < l.length then x else gt l k := by
  simp only [gt, st, List.getD, Int.toNat_natCast, List.getElem?_set]
  by_cases h1 : i.toNat = k
  · by_cases h2 : k < l.length
    · simp [h1, h2]
    · simp [h1, h2]
  · simp [h1]
theorem gt_nat (l : List Int) (i : Int) : gt l ((i.toNat : Nat) : Int) = gt l i := by simp only [gt, Int.toNat_natCast]
structure Rel (L : Nat → Prop) (s t s1 t1 : List Int) : Prop where
  len : s1.length = t1.length
  key : ∀ k : Nat, gt s1 k = gt t1 k ∨ (gt s1 k = gt s k ∧ gt t1 k = gt t k ∧ ¬ L k)
theorem Rel.store {L : Nat → Prop} {s t s1 t1 : List Int} (h : Rel L s t s1 t1) (i x : Int) : Rel L s t (st s1 i x) (st t1 i x) := by
  refine ⟨by simp [st, h.len], fun k => ?_⟩
  rw [gt_st, gt_st, h.len]
  by_cases hc : i.toNat = k ∧ k < t1.length
  · rw [if_pos hc, if_pos hc]; exact .inl rfl
  · rw [if_neg hc, if_neg hc]; exact h.key k
theorem Rel.step (ar : Int → Int → Int → Int) {L : Nat → Prop} {s t s1 t1 : List Int} (h : Rel L s t s1 t1) {o : OpL} (hl : o.kind = 2 → L o.b.toNat) (g : List Int) :
    (stepL ar o g s1 = none ∧ stepL ar o g t1 = none) ∨ ∃ g' s' t' j, stepL ar o g s1 = some (g', s', j) ∧ stepL ar o g t1 = some (g', t', j) ∧ Rel L s t s' t' := by
  unfold stepL
  by_cases h1 : o.kind = 1
  · rw [if_pos h1, if_pos h1]; exact .inr ⟨_, _, _, _, rfl, rfl, h⟩
  rw [if_neg h1, if_neg h1]
  by_cases h2 : o.kind = 2
  · rw [if_pos h2, if_pos h2]
    have e : gt s1 o.b = gt t1 o.b := by
      have := h.key o.b.toNat
      have ht : ∀ l : List Int, gt l ((o.b.toNat : Nat) : Int) = gt l o.b := fun l => gt_nat l o.b
      rw [ht, ht] at this
      rcases this with h3 | h3
      · exact h3
      · exact absurd (hl h2) h3.2.2
    rw [e]; exact .inr ⟨_, _, _, _, rfl, rfl, h⟩
  rw [if_neg h2, if_neg h2]
  by_cases h7 : o.kind = 7
  · rw [if_pos h7, if_pos h7]; exact .inr ⟨_, _, _, _, rfl, rfl, h.store _ _⟩
  rw [if_neg h7, if_neg h7]
  by_cases h8 : o.kind = 8
  · rw [if_pos h8, if_pos h8]
    by_cases hz : gt g o.a ≠ 0
    · rw [if_pos hz, if_pos hz]; exact .inl ⟨rfl, rfl⟩
    · rw [if_neg hz, if_neg hz]; exact .inr ⟨_, _, _, _, rfl, rfl, h⟩
  rw [if_neg h8, if_neg h8]
  by_cases h9 : o.kind = 9
  · rw [if_pos h9, if_pos h9]
    by_cases hz : gt g o.a = 0
    · rw [if_pos hz, if_pos hz]; exact .inr ⟨_, _, _, _, rfl, rfl, h⟩
    · rw [if_neg hz, if_neg hz]; exact .inr ⟨_, _, _, _, rfl, rfl, h⟩
  rw [if_neg h9, if_neg h9]
  exact .inr ⟨_, _, _, _, rfl, rfl, h⟩
theorem Rel.run (ar : Int → Int → Int → Int) {L : Nat → Prop} {s t : List Int} : ∀ (n : Nat) (d : DeedL) (g s1 t1 : List Int), (∀ o ∈ d, o.kind = 2 → L o.b.toNat) → Rel L s t s1 t1 →
    (runF ar n d g s1).1 = (runF ar n d g t1).1 ∧ (runF ar n d g s1).2.1 = (runF ar n d g t1).2.1 ∧ Rel L s t (runF ar n d g s1).2.2 (runF ar n d g t1).2.2
  | 0, _, _, _, _, _, h => ⟨rfl, rfl, h⟩
  | _ + 1, [], _, _, _, _, h => ⟨rfl, rfl, h⟩
  | n + 1, o :: rest, g, s1, t1, hd, h => by
    rcases h.step ar (hd o (by simp)) g with ⟨h1, h2⟩ | ⟨g', s', t', j, h1, h2, h3⟩
    · simp only [runF, h1, h2]; exact ⟨trivial, trivial, h⟩
    · simp only [runF, h1, h2]
      exact Rel.run ar n (rest.drop j) g' s' t' (fun o ho => hd o (by simp [List.mem_of_mem_drop ho])) h3
end Go.SL

