/- YtebdkaadbakhlabGreatDoor: part Z8 of this seat's own texts. -/
import Derived.Deep.Strs
import Derived.Test.YtebdkaadbakhlabGreatDoorZ6
import Derived.Test.YtebdkaadbakhlabGreatDoorDK2
import Derived.Test.YtebdkaadbakhlabGreatDoorP4
import Derived.Test.YtebdkaadbakhlabGreatDoorZ1
set_option linter.unusedVariables false
set_option linter.unusedSimpArgs false
section

open Go Go.Proofs Go.SL Go.RowKit
set_option maxRecDepth 100000
namespace Go.SL
theorem lt_of_var {P : Program} {w : World} {n : String} {g : Nat} {cs : Array Value} (hg : P.globalNamed n = some g) (h : w.var? P n = some cs) : g < w.heap.size := by
  unfold World.var? at h
  rw [hg, Option.bind_some] at h
  cases hb : w.heap[g]? with
  | none => rw [hb] at h; cases h
  | some o => exact (Array.getElem?_eq_some_iff.1 hb).1
theorem feet_none (b : Nat) (h : feet [] b) : False := by obtain ⟨_, hc, _⟩ := h; cases hc
theorem LaidD.lf {w : World} (h : LaidD w) (more : gTop < w.heap.size ∨ gTop = 5 ∨ gTop = 1 ∨ gTop = 2 ∨ gTop = 0) : LF w (feet []) := by
  have h1 : 5 < w.heap.size := lt_of_var (n := "internal/strconv.uint64pow10") (by kernel_rfl) h.tab
  have h2 : 1 < w.heap.size := by obtain ⟨_, _, hv⟩ := h.syn; exact lt_of_var (n := "strconv.ErrSyntax") (by kernel_rfl) hv
  have h3 : 2 < w.heap.size := by obtain ⟨_, _, hv⟩ := h.rng; exact lt_of_var (n := "strconv.ErrRange") (by kernel_rfl) hv
  have h4 : 0 < w.heap.size := by obtain ⟨m, hm⟩ := h.top; exact Lib.lt_of_cell hm
  exact ⟨h, fun b hb => (feet_none b hb).elim, by omega⟩
end Go.SL
end
section
namespace Go.SL
open Go.ChangeShapes Go.WideShapes Go.RowKit Go.Deep
section
variable {H : Type} {enc : TypeId × Value → H} {P : Program} {W : World} {base : Nat} {t : TypeId} {v : Value} {d : DataW H}
theorem told_strs {e : TypeId} (ht : P.underlying t = some (.slice e)) (he : P.underlying e = some .string) (hc : P.cellsOf e = 1) (h : Gives enc P W base t v d) :
    ∃ l : List (List UInt8), Rds W.cell? v 1 l.length (strC l) ∧ ∀ s ∈ l, s.length ≤ 140737488355328 := by
  obtain ⟨k1, ⟨p, fuel, k2⟩, k3⟩ := h
  obtain ⟨A, len, cap, rfl⟩ := okWide_slice ht k1
  rcases Go.Deep.open_strs ht he hc k2 with ⟨hcs, hx⟩ | ⟨a, len', cap', m, Sx, hcs, _, hl, hm, hmm, hx, hii⟩
  · simp only [Value.cells, List.cons.injEq, Value.slice.injEq, and_true] at hcs
    obtain ⟨rfl, rfl, rfl⟩ := hcs
    exact ⟨[], ⟨none, 0, rfl, Nat.le_refl _, rfl, fun h => absurd h (Nat.lt_irrefl _)⟩, fun s hs => by cases hs⟩
  · simp only [Value.cells, List.cons.injEq, Value.slice.injEq, and_true] at hcs
    obtain ⟨rfl, rfl, rfl⟩ := hcs
    have hlm : len ≤ m := by rw [hmm]; split <;> omega
    have hdd : d = .slice ((List.range len).map fun i => .lit (.string (Sx i).data.toList)) ((List.range (m - len)).map fun j => .lit (.string (Sx (len + j)).data.toList)) := (Prod.mk.injEq .. ▸ hx : _ ∧ _).1
    refine ⟨(List.range len).map fun i => (Sx i).data.toList, ⟨some a, cap, by simp, by simpa using hl, by simp [strC], fun _ => ⟨a, rfl, fun j u hj => ?_⟩⟩, fun s hs => ?_⟩
    · simp only [strC, List.map_map, List.getElem?_map, Option.map_eq_some_iff] at hj
      obtain ⟨i, h3, rfl⟩ := hj
      obtain ⟨h4, h5⟩ := List.getElem?_eq_some_iff.1 h3
      simp only [List.length_range, List.getElem_range] at h4 h5
      subst h5
      rw [(hii j (by omega)).1]
      exact congrArg some (strV_of _)
    · obtain ⟨i, hi, rfl⟩ := List.mem_map.1 hs
      have := k3 (Sx i).data.toList.length (by
        rw [hdd]
        simp only [DataW.weights, ht, List.mem_cons, List.mem_append]
        refine .inr (.inl (weightsAll_mem (List.mem_map.2 ⟨i, hi, rfl⟩) _ ?_))
        simp [DataW.weights])
      simp only [reachBytes] at this
      omega
end
end Go.SL
end
