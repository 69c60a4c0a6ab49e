/- Ytebdkaadbakhlaa: part Row2 of this seat's own texts: WHATEVER THE INPUT, the law ow2 returns true and leaves what was there; no condition. -/
import Derived.Test.YtebdkaadbakhlaaRow
import Derived.Test.YtebdkaadbakhlaaMo3
set_option linter.unusedVariables false
set_option linter.unusedSimpArgs false
namespace Go.SL
open Go.ChangeShapes Go.WideShapes Go.RowKit Go.Deep
section
variable {H : Type} {enc : TypeId × Value → H} {P : Program} {w W : World} {base b0 : Nat} {spare : Nat → Bool} {held : Bool} {t : TypeId} {v : Value} {d : DataW H}
theorem told_bytes {e : TypeId} (ht : P.underlying t = some (.slice e)) (he : P.underlying e = some (.int .u8)) (hc : P.cellsOf e = 1) (hb : P.bytesOf e = 1) (h : Gives enc P W base t v d) : ∃ b : List UInt8, IsBytes W.cell? v b ∧ b.length ≤ 140737488355328 := by
  obtain ⟨k1, ⟨p, fuel, k2⟩, k3⟩ := h
  obtain ⟨A, len, cap, rfl⟩ := okWide_slice ht k1
  rcases open_slice1 ht hc k2 with ⟨hcs, hx⟩ | ⟨a, len', cap', m, n, V, D, Pl, hcs, _, hl, hm, hmm, hx, hi⟩
  · simp only [Value.cells, List.cons.injEq, Value.slice.injEq, and_true] at hcs
    obtain ⟨rfl, rfl, rfl⟩ := hcs
    exact ⟨[], ⟨none, 0, rfl, Nat.le_refl _, rfl, fun h => absurd h (Nat.lt_irrefl _)⟩, by simp⟩
  · simp only [Value.cells, List.cons.injEq, Value.slice.injEq, and_true] at hcs
    obtain ⟨rfl, rfl, rfl⟩ := hcs
    simp only [if_true] at hmm
    obtain ⟨f, hf⟩ := choose_lt (α := UInt8) (n := m) (p := fun i x => V i = .int .u8 (x.toNat : Int)) (fun i him => by
      obtain ⟨_, h4⟩ := hi i him
      obtain ⟨x, h5, _, h6⟩ := DataW.trod_int he h4
      simp only [List.cons.injEq, and_true] at h5
      refine ⟨ub x, ?_⟩
      have h7 : 0 ≤ x ∧ x < 256 := by
        simp [Lit.wf, IntKind.min, IntKind.max, IntKind.signed, IntKind.bits] at h6
        omega
      rw [h5, ub_toNat]
      congr 1
      omega)
    refine ⟨(List.range len).map f, ⟨some a, cap, by simp, by simpa using hl, by simp [byteCells], fun _ => ⟨a, rfl, fun j u hj => ?_⟩⟩, ?_⟩
    · simp only [byteCells, List.map_map, List.getElem?_map, Option.map_eq_some_iff] at hj
      obtain ⟨i, h3, rfl⟩ := hj
      obtain ⟨h4, h5⟩ := List.getElem?_eq_some_iff.1 h3
      simp only [List.length_range, List.getElem_range] at h4 h5
      subst h5
      rw [(hi j (by omega)).1, hf j (by omega)]
      rfl
    · have hd : d = .slice ((List.range len).map D) ((List.range (m - len)).map fun j => D (len + j)) := (Prod.mk.injEq .. ▸ hx : _ ∧ _).1
      have := k3 ((len + (m - len)) * 1) (by rw [hd]; simp [DataW.weights, ht, hb])
      simp only [reachBytes] at this
      simp only [List.length_map, List.length_range]
      omega
end
end Go.SL
