/- Ytebdkaadbakhlaa: part More of this seat's own texts. -/
import Derived.Test.YtebdkaadbakhlaaSerL
set_option linter.unusedVariables false
set_option linter.unusedSimpArgs false
namespace Go.SL
theorem run_buildSlice {P : Program} {t e : TypeId} {n size : Nat} {parts : List (Nat × Value)} {z : Value} {cs : List Value} (ht : P.underlying t = some (.slice e)) (hi : P.info? e ≠ none) (hc : P.cellsOf e = size) (hz : ∀ w, (zeroValue e).run P w = .ok z w)
    (hn : (!Nat.beq (n * size) 0 && Nat.ble (n * size) (2 ^ 24)) = true) (hf : Instr.fill (fun i => some (i * size, size)) ((Array.range (n * size)).map (z.cells[· % z.cells.size]!)) parts = some cs.toArray) :
    ∀ w, (Instr.buildSlice t n parts.toArray).run P w = .ok (.slice (some ⟨w.heap.size, 0, none⟩) n n) (w.alloc (.cells cs.toArray e)) := by
  intro w
  have h2 : ∀ w, (sizeOf e).run P w = .ok size w := by
    intro w
    unfold Program.cellsOf at hc
    cases hi' : P.info? e with
    | none => exact absurd hi' hi
    | some i => simp [hi'] at hc; simp [sizeOf, typeInfo, hi', hc]
  simp only [Bool.and_eq_true, Bool.not_eq_true'] at hn
  obtain ⟨hn1, hn2⟩ := hn
  have hn3 := Nat.le_of_ble_eq_true hn2
  have hn1 : n * size ≠ 0 := fun h => by rw [h] at hn1; cases hn1
  simp only [Instr.buildSlice, underlying]
  simp [ht, h2, hz, hf, newRow, hn1, Nat.not_lt.2 hn3]
end Go.SL
namespace Go.SL
/-- a new row of operations, as a deed -/
theorem isDeed_blk {w : World} {b e k : Nat} {d : DeedL} (hb : (Chunk.blk b e (deedCells d)).holds w) (hk : d.length ≤ k) : IsDeed w.cell? (.slice (some ⟨b, 0, none⟩) d.length k) d :=
  ⟨_, k, rfl, hk, deedCells_len d, fun _ => ⟨_, rfl, fun j v hj => by
    have := blk_cells hb 0 (cs' := deedCells d) (fun j v hv => by simpa using hv)
    exact this j v hj⟩⟩
theorem one_resCells (c : Int) (g : List Int) : ∀ u ∈ (resCells c g).toArray.toList, u.oneCell' = true := by
  intro u hu
  simp only [resCells, List.mem_cons] at hu
  rcases hu with rfl | hu
  · rfl
  · exact one_intCells g u hu
end Go.SL
