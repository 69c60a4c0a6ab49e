/- Ytebdkaadbakhlaa: part More of this seat's own texts. -/
import Derived.Test.YtebdkaadbakhlaaSerL
set_option linter.unusedVariables false
set_option linter.unusedSimpArgs false
namespace Go.SL
theorem run_buildSlice {P : Program} {t e : TypeId} {n size : Nat} {parts : List (Nat × Value)} {z : Value} {cs : List Value} (ht : P.underlying t = some (.slice e)) (hi : P.info? e ≠ none) (hc : P.cellsOf e = size) (hz : ∀ w, (zeroValue e).run P w = .ok z w)
    (hn : (!Nat.beq (n * size) 0 && Nat.ble (n * size) (2 ^ 24)) = true) (hf : Instr.fill (fun i => some (i * size, size)) ((Array.range (n * size)).map (z.cells[· % z.cells.size]!)) parts = some cs.toArray) :
    ∀ w, (Instr.buildSlice t n parts.toArray).run P w = .ok (.slice (some ⟨w.heap.size, 0, none⟩) n n) (w.alloc (.cells cs.toArray e)) := by
  intro w
  have h2 : ∀ w, (sizeOf e).run P w = .ok size w := by
    intro w
    unfold Program.cellsOf at hc
    cases hi' : P.info? e with
    | none => exact absurd hi' hi
    | some i => simp [hi'] at hc; simp [sizeOf, typeInfo, hi', hc]
  simp only [Bool.and_eq_true, Bool.not_eq_true'] at hn
  obtain ⟨hn1, hn2⟩ := hn
  have hn3 := Nat.le_of_ble_eq_true hn2
  have hn1 : n * size ≠ 0 := fun h => by rw [h] at hn1; cases hn1
  simp only [Instr.buildSlice, underlying]
  simp [ht, h2, hz, hf, newRow, hn1, Nat.not_lt.2 hn3]
end Go.SL
namespace Go.SL
/-- a new row of operations, as a deed -/
theorem isDeed_blk {w : World} {b e k : Nat} {d : DeedL} (hb : (Chunk.blk b e (deedCells d)).holds w) (hk : d.length ≤ k) : IsDeed w.cell? (.slice (some ⟨b, 0, none⟩) d.length k) d :=
  ⟨_, k, rfl, hk, deedCells_len d, fun _ => ⟨_, rfl, fun j v hj => by
    have := blk_cells hb 0 (cs' := deedCells d) (fun j v hv => by simpa using hv)
    exact this j v hj⟩⟩
theorem one_resCells (c : Int) (g : List Int) : ∀ u ∈ (resCells c g).toArray.toList, u.oneCell' = true := by
  intro u hu
  simp only [resCells, List.mem_cons] at hu
  rcases hu with rfl | hu
  · rfl
  · exact one_intCells g u hu
end Go.SL
namespace Go.SL
theorem blk_rds {w : World} {b e size n : Nat} {cs : List Value} (hb : (Chunk.blk b e cs).holds w) (hn : cs.length = n * size) : Rds w.cell? (.slice (some ⟨b, 0, none⟩) n n) size n cs :=
  ⟨_, n, rfl, Nat.le_refl _, hn, fun _ => ⟨_, rfl, fun j v hj => blk_cells hb 0 (cs' := cs) (fun j v hv => by simpa using hv) j v hj⟩⟩
section
variable {C : Cx} {l : Fr} {m : Hp} {ty : TypeId} {pos : String} {after : Array Edge} {d : Nat}
theorem x_appendI {Φ : Act → World → Prop} {Q : Exit → Act → World → Prop} {s x : Operand} {t e : TypeId} {z v vx : Value} {size bytes n k : Nat} {xs news : List Value} (i : Nat) (hm : m[i]? = some (Own v e size n xs)) (hs : rd l s = some v) (hx : rd l x = some vx)
    (ht : C.P.underlying t = some (.slice e)) (hi : (C.P.info? e).map (fun i => (i.zero, i.size, i.bytes)) = some (some z, size, bytes)) (hzs : z.cells.size = size) (hsz : 0 < size)
    (hr : ∀ w, St C.w0 C.F m w → Rds w.cell? vx size k news) (h1 : ∀ u ∈ news, u.oneCell' = true) (hb : (n + k) * bytes ≤ 140737488355328) (h63 : n + k ≤ maxLen) (hd : Nat.blt d C.N = true)
    (h : ∀ v', G C ((d, v') :: l) (m.set i (Own v' e size (n + k) (xs ++ news))) Φ) :
    G C l m (fun a w => Oper.wp C.P ⟨some d, .call ⟨.builtin .append, #[s, x], #[t, t]⟩, ty, pos, after, none⟩ a w Φ Q) := by
  cases hf : C.P.info? e with
  | none => rw [hf] at hi; cases hi
  | some inf =>
    rw [hf] at hi
    simp only [Option.map_some, Option.some.injEq, Prod.mk.injEq] at hi
    exact x_append i hm hs hx ht hf hi.1 hi.2.1 hi.2.2 hzs hsz hr h1 hb h63 hd h
end
end Go.SL
namespace Go.SL
section
variable {C : Cx} {l : Fr} {m : Hp}
/-- what a slice of the call's own looks like -/
theorem g_shape {Φ : Act → World → Prop} {v : Value} {e size n : Nat} {xs : List Value} (i : Nat) (hm : m[i]? = some (Own v e size n xs)) (h : ∀ A k, v = .slice A n k → n ≤ k → G C l m Φ) : G C l m Φ := fun a w ha hw => by
  obtain ⟨A, k, h1, h2, _⟩ := own_rds (hw.mem hm)
  exact h A k h1 h2 a w ha hw
end
end Go.SL
