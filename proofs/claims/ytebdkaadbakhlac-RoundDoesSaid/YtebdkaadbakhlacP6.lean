/- Ytebdkaadbakhlac: part P6 of this seat's own texts. -/
import Derived.Test.YtebdkaadbakhlacP4
import Derived.Test.YtebdkaadbakhlacP5
set_option linter.unusedVariables false
set_option linter.unusedSimpArgs false
namespace Go.SL
open Go.ChangeShapes Go.WideShapes Go.RowKit Go.Deep
section
variable {H : Type} {enc : TypeId × Value → H} {P : Program} {w W : World} {base b0 : Nat} {spare : Nat → Bool} {held : Bool} {t : TypeId} {v : Value} {d : DataW H}
theorem told_intS {e : TypeId} (ht : P.underlying t = some (.slice e)) (he : P.underlying e = some (.int .i64)) (hc : P.cellsOf e = 1) (hb : P.bytesOf e = 8) (h : Gives enc P W base t v d) : ∃ b : List Int, IsInts W.cell? v b ∧ (∀ x ∈ b, In64 x) ∧ b.length ≤ 140737488355328 := by
  obtain ⟨k1, ⟨p, fuel, k2⟩, k3⟩ := h
  obtain ⟨A, len, cap, rfl⟩ := okWide_slice ht k1
  rcases open_slice1 ht hc k2 with ⟨hcs, hx⟩ | ⟨a, len', cap', m, n, V, D, Pl, hcs, _, hl, hm, hmm, hx, hi⟩
  · simp only [Value.cells, List.cons.injEq, Value.slice.injEq, and_true] at hcs
    obtain ⟨rfl, rfl, rfl⟩ := hcs
    exact ⟨[], ⟨none, 0, rfl, Nat.le_refl _, rfl, fun h => absurd h (Nat.lt_irrefl _)⟩, fun x hx => by simp at hx, by simp⟩
  · simp only [Value.cells, List.cons.injEq, Value.slice.injEq, and_true] at hcs
    obtain ⟨rfl, rfl, rfl⟩ := hcs
    simp only [if_true] at hmm
    obtain ⟨f, hf⟩ := choose_lt (α := Int) (n := m) (p := fun i x => V i = .int .i64 x ∧ In64 x) (fun i him => by
      obtain ⟨_, h4⟩ := hi i him
      obtain ⟨x, h5, _, h6⟩ := DataW.trod_int he h4
      simp only [List.cons.injEq, and_true] at h5
      exact ⟨x, h5, in64_of_wf h6⟩)
    refine ⟨(List.range len).map f, ⟨some a, cap, by simp, by simpa using hl, by simp [intsC], fun _ => ⟨a, rfl, fun j u hj => ?_⟩⟩, fun x hx => ?_, ?_⟩
    · simp only [intsC, List.map_map, List.getElem?_map, Option.map_eq_some_iff] at hj
      obtain ⟨i, h3, rfl⟩ := hj
      obtain ⟨h4, h5⟩ := List.getElem?_eq_some_iff.1 h3
      simp only [List.length_range, List.getElem_range] at h4 h5
      subst h5
      rw [(hi j (by omega)).1, (hf j (by omega)).1]
      rfl
    · obtain ⟨i, hi', rfl⟩ := List.mem_map.1 hx
      exact (hf i (by have := List.mem_range.1 hi'; omega)).2
    · have hd : d = .slice ((List.range len).map D) ((List.range (m - len)).map fun j => D (len + j)) := (Prod.mk.injEq .. ▸ hx : _ ∧ _).1
      have := k3 ((len + (m - len)) * 8) (by rw [hd]; simp [DataW.weights, ht, hb])
      simp only [reachBytes] at this
      simp only [List.length_map, List.length_range]
      omega
end
end Go.SL

