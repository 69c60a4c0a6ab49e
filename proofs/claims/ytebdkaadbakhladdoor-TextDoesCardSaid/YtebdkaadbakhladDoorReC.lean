/- YtebdkaadbakhladDoor: part ReC of this seat's own texts: WHATEVER THE INPUT, the law eC returns true and leaves what was there; no condition. -/
import Derived.Test.YtebdkaadbakhladDoorReB
set_option linter.unusedVariables false
set_option linter.unusedSimpArgs false

open Go Go.Proofs Go.SL Go.RowKit
set_option maxRecDepth 100000
set_option maxHeartbeats 8000000
namespace Go.SL
theorem split_snoc_c (c : UInt8) : ∀ s : List UInt8, splitL c (s ++ [c]) = splitL c s ++ [[]]
  | [] => by simp [splitL]
  | b :: t => by
    have ih := split_snoc_c c t
    rw [List.cons_append]
    by_cases hb : b = c
    · subst hb
      rw [show splitL b (b :: (t ++ [b])) = [] :: splitL b (t ++ [b]) from by rw [splitL, if_pos rfl], show splitL b (b :: t) = [] :: splitL b t from by rw [splitL, if_pos rfl], ih]
      rfl
    · cases h : splitL c t with
      | nil => exact absurd h (splitL_ne c t)
      | cons p ps =>
        rw [h] at ih
        rw [show splitL c (b :: t) = (b :: p) :: ps from by rw [splitL, if_neg hb, h], show splitL c (b :: (t ++ [c])) = (b :: p) :: (ps ++ [[]]) from by rw [splitL, if_neg hb, ih]; rfl]
        rfl
theorem split_snoc (c : UInt8) {x : UInt8} (hx : x ≠ c) : ∀ (s : List UInt8) (Q : List (List UInt8)) (q : List UInt8), splitL c s = Q ++ [q] → splitL c (s ++ [x]) = Q ++ [q ++ [x]]
  | [], Q, q, h => by
    have : Q = [] ∧ q = [] := by
      cases Q with
      | nil => simp [splitL] at h; exact ⟨rfl, h⟩
      | cons a r => simp [splitL] at h
    obtain ⟨rfl, rfl⟩ := this
    simp [splitL, hx]
  | b :: t, Q, q, h => by
    rw [List.cons_append]
    by_cases hb : b = c
    · subst hb
      have e : splitL b (b :: t) = [] :: splitL b t := by rw [splitL, if_pos rfl]
      rw [e] at h
      rw [show splitL b (b :: (t ++ [x])) = [] :: splitL b (t ++ [x]) from by rw [splitL, if_pos rfl]]
      cases Q with
      | nil => simp only [List.nil_append, List.cons.injEq] at h; exact absurd h.2 (splitL_ne b t)
      | cons a r =>
        simp only [List.cons_append, List.cons.injEq] at h
        rw [split_snoc b hx t r q h.2, ← h.1]
        rfl
    · cases h2 : splitL c t with
      | nil => exact absurd h2 (splitL_ne c t)
      | cons p ps =>
        have e : splitL c (b :: t) = (b :: p) :: ps := by rw [splitL, if_neg hb, h2]
        rw [e] at h
        cases Q with
        | nil =>
          simp only [List.nil_append, List.cons.injEq] at h
          obtain ⟨rfl, rfl⟩ := h
          have := split_snoc c hx t [] p h2
          rw [show splitL c (b :: (t ++ [x])) = (b :: (p ++ [x])) :: [] from by rw [splitL, if_neg hb, this]; rfl]
          rfl
        | cons a r =>
          simp only [List.cons_append, List.cons.injEq] at h
          obtain ⟨rfl, rfl⟩ := h
          have := split_snoc c hx t (p :: r) q (by rw [h2]; rfl)
          rw [show splitL c (b :: (t ++ [x])) = (b :: p) :: (r ++ [q ++ [x]]) from by rw [splitL, if_neg hb, this]; rfl]
          rfl
theorem opOf_nil (k : Nat) : opOf k [] = ⟨(k : Int), 0, 0, 0, 0⟩ := by
  unfold opOf
  split
  · rename_i h; subst h; rfl
  · rfl
theorem opOf_a {k : Nat} {v : Int} : opCells (opOf k [v]) = (opCells (opOf k [])).set 1 (.int .i64 v) := by unfold opOf; split <;> rfl
theorem opOf_n {a v : Int} : opCells (opOf 1 [a, v]) = (opCells (opOf 1 [a])).set 4 (.int .i64 v) := rfl
theorem opOf_b {k : Nat} (hk : k ≠ 1) {a v : Int} : opCells (opOf k [a, v]) = (opCells (opOf k [a])).set 2 (.int .i64 v) := by unfold opOf; rw [if_neg hk, if_neg hk]; rfl
theorem opOf_c {k : Nat} (hk : k ≠ 1) {a b v : Int} : opCells (opOf k [a, b, v]) = (opCells (opOf k [a, b])).set 3 (.int .i64 v) := by unfold opOf; rw [if_neg hk, if_neg hk]; rfl
theorem opOf_k {k : Nat} {ns : List Int} : ∃ a b c n, opCells (opOf k ns) = [.int .i64 (k : Int), .int .i64 a, .int .i64 b, .int .i64 c, .int .i64 n] := by
  unfold opOf
  split
  · rename_i h; subst h; exact ⟨_, _, _, _, rfl⟩
  · exact ⟨_, _, _, _, rfl⟩
end Go.SL

