/- Ytebdkaadbakhlab: part P6 of this seat's own texts. -/
import Derived.Test.YtebdkaadbakhlabP4
import Derived.Test.YtebdkaadbakhlabP5
set_option linter.unusedVariables false
set_option linter.unusedSimpArgs false
namespace Go.SL
open Go.ChangeShapes Go.WideShapes Go.RowKit Go.Deep
section
variable {H : Type} {enc : TypeId × Value → H} {P : Program} {w W : World} {base b0 : Nat} {spare : Nat → Bool} {held : Bool} {t : TypeId} {v : Value} {d : DataW H}
theorem told_intS {e : TypeId} (ht : P.underlying t = some (.slice e)) (he : P.underlying e = some (.int .i64)) (hc : P.cellsOf e = 1) (hb : P.bytesOf e = 8) (h : Gives enc P W base t v d) : ∃ b : List Int, IsInts W.cell? v b ∧ (∀ x ∈ b, In64 x) ∧ b.length ≤ 140737488355328 := by
  obtain ⟨k1, ⟨p, fuel, k2⟩, k3⟩ := h
  obtain ⟨A, len, cap, rfl⟩ := okWide_slice ht k1
  rcases open_slice1 ht hc k2 with ⟨hcs, hx⟩ | ⟨a, len', cap', m, n, V, D, Pl, hcs, _, hl, hm, hmm, hx, hi⟩
  · simp only [Value.cells, List.cons.injEq, Value.slice.injEq, and_true] at hcs
    obtain ⟨rfl, rfl, rfl⟩ := hcs
    exact ⟨[], ⟨none, 0, rfl, Nat.le_refl _, rfl, fun h => absurd h (Nat.lt_irrefl _)⟩, fun x hx => by simp at hx, by simp⟩
  · simp only [Value.cells, List.cons.injEq, Value.slice.injEq, and_true] at hcs
    obtain ⟨rfl, rfl, rfl⟩ := hcs
    simp only [if_true] at hmm
    obtain ⟨f, hf⟩ := choose_lt (α := Int) (n := m) (p := fun i x => V i = .int .i64 x ∧ In64 x) (fun i him => by
      obtain ⟨_, h4⟩ := hi i him
      obtain ⟨x, h5, _, h6⟩ := DataW.trod_int he h4
      simp only [List.cons.injEq, and_true] at h5
      exact ⟨x, h5, in64_of_wf h6⟩)
    refine ⟨(List.range len).map f, ⟨some a, cap, by simp, by simpa using hl, by simp [intsC], fun _ => ⟨a, rfl, fun j u hj => ?_⟩⟩, fun x hx => ?_, ?_⟩
    · simp only [intsC, List.map_map, List.getElem?_map, Option.map_eq_some_iff] at hj
      obtain ⟨i, h3, rfl⟩ := hj
      obtain ⟨h4, h5⟩ := List.getElem?_eq_some_iff.1 h3
      simp only [List.length_range, List.getElem_range] at h4 h5
      subst h5
      rw [(hi j (by omega)).1, (hf j (by omega)).1]
      rfl
    · obtain ⟨i, hi', rfl⟩ := List.mem_map.1 hx
      exact (hf i (by have := List.mem_range.1 hi'; omega)).2
    · have hd : d = .slice ((List.range len).map D) ((List.range (m - len)).map fun j => D (len + j)) := (Prod.mk.injEq .. ▸ hx : _ ∧ _).1
      have := k3 ((len + (m - len)) * 8) (by rw [hd]; simp [DataW.weights, ht, hb])
      simp only [reachBytes] at this
      simp only [List.length_map, List.length_range]
      omega
theorem trod_tst {f0 f1 f2 f3 : Field} {cs : List Value} {fuel : Nat} {x : DataW H × List MemPlace} (ht : P.underlying t = some (.struct #[f0, f1, f2, f3]))
    (hf : ∀ f ∈ [f0, f1, f2, f3], P.underlying f.type = some (.int .i64) ∧ P.cellsOf f.type = 1) (ho : [f0.offset, f1.offset, f2.offset, f3.offset] = [0, 1, 2, 3]) (hn : P.cellsOf t = 4)
    (h : DataW.trod enc P w base spare held fuel t cs = some x) : ∃ o : TStepL, cs = tstC o := by
  obtain ⟨xs, m, _, _, hl, hxl, hx⟩ := DataW.trod_struct ht h
  rw [hn] at hl
  simp only [List.cons.injEq, and_true] at ho
  obtain ⟨o0, o1, o2, o3⟩ := ho
  match cs, hl with
  | [c0, c1, c2, c3], _ =>
    have key : ∀ (i : Nat) (f : Field) (c : Value), #[f0, f1, f2, f3][i]? = some f → f ∈ [f0, f1, f2, f3] → (([c0, c1, c2, c3] : List Value).drop f.offset).take 1 = [c] → ∃ n, c = .int .i64 n := fun i f c hi hm hc => by
      have h3 := hx i f hi
      have hi' : i < xs.length := by rw [hxl]; exact (Array.getElem?_eq_some_iff.1 hi).1
      rw [(hf f hm).2, hc, List.getElem?_eq_getElem hi'] at h3
      obtain ⟨n, h4, _, h5⟩ := DataW.trod_int (hf f hm).1 h3
      simp only [List.cons.injEq, and_true] at h4
      exact ⟨n, h4⟩
    obtain ⟨n0, rfl⟩ := key 0 f0 c0 rfl (by simp) (by rw [o0]; rfl)
    obtain ⟨n1, rfl⟩ := key 1 f1 c1 rfl (by simp) (by rw [o1]; rfl)
    obtain ⟨n2, rfl⟩ := key 2 f2 c2 rfl (by simp) (by rw [o2]; rfl)
    obtain ⟨n3, rfl⟩ := key 3 f3 c3 rfl (by simp) (by rw [o3]; rfl)
    exact ⟨⟨n0, n1, n2, n3⟩, rfl⟩
theorem told_tst {e : TypeId} {f0 f1 f2 f3 : Field} (ht : P.underlying t = some (.slice e)) (he : P.underlying e = some (.struct #[f0, f1, f2, f3]))
    {t1 t2 : TypeId} (hty : [f0.type, f1.type, f2.type, f3.type] = [t1, t1, t1, t2]) (h1 : P.underlying t1 = some (.int .i64)) (h2 : P.underlying t2 = some (.int .i64)) (hc1 : P.cellsOf t1 = 1) (hc2 : P.cellsOf t2 = 1) (ho : [f0.offset, f1.offset, f2.offset, f3.offset] = [0, 1, 2, 3]) (hn : P.cellsOf e = 4)
    (h : Gives enc P W base t v d) : ∃ l : List TStepL, IsTst W.cell? v l := by
  have hf : ∀ f ∈ [f0, f1, f2, f3], P.underlying f.type = some (.int .i64) ∧ P.cellsOf f.type = 1 := by
    intro f hf
    simp only [List.cons.injEq, and_true] at hty
    obtain ⟨e0, e1, e2, e3⟩ := hty
    simp only [List.mem_cons, List.not_mem_nil, or_false] at hf
    rcases hf with rfl | rfl | rfl | rfl <;> simp_all
  obtain ⟨k1, ⟨p, fuel, k2⟩, k3⟩ := h
  obtain ⟨A, len, cap, rfl⟩ := okWide_slice ht k1
  rcases open_slice ht k2 with ⟨hcs, hx⟩ | ⟨a, len', cap', m, n, D, Pl, hcs, _, hl, hm, hmm, hx, hi⟩
  · simp only [Value.cells, List.cons.injEq, Value.slice.injEq, and_true] at hcs
    obtain ⟨rfl, rfl, rfl⟩ := hcs
    exact ⟨[], none, 0, rfl, Nat.le_refl _, rfl, fun h => absurd h (Nat.lt_irrefl _)⟩
  · simp only [Value.cells, List.cons.injEq, Value.slice.injEq, and_true] at hcs
    obtain ⟨rfl, rfl, rfl⟩ := hcs
    simp only [if_true] at hmm
    obtain ⟨f, hf'⟩ := choose_lt (α := TStepL) (n := m) (p := fun i o => W.cells? 0 (a.add (i * 4)) 4 = some (tstC o)) (fun i him => by
      obtain ⟨cs', h1, h2⟩ := hi i him
      obtain ⟨o, rfl⟩ := trod_tst he hf ho hn h2
      exact ⟨o, by rw [hn] at h1; exact h1⟩)
    refine ⟨(List.range len).map f, some a, cap, by simp, by simpa [hmm] using hl, by rw [tstCells_len], fun _ => ⟨a, rfl, fun j u hj => ?_⟩⟩
    obtain ⟨o, h1, h2⟩ := tstCells_get _ j u hj
    simp only [List.getElem?_map, Option.map_eq_some_iff] at h1
    obtain ⟨i, h3, rfl⟩ := h1
    obtain ⟨h4, h5⟩ := List.getElem?_eq_some_iff.1 h3
    simp only [List.length_range, List.getElem_range] at h4 h5
    subst h5
    have h6 := hf' (j / 4) (by omega)
    obtain ⟨_, _, hat⟩ := World.cells?_some h6
    have h7 := hat (j % 4) (by omega)
    rw [h2, Go.SL.add_add, show j / 4 * 4 + j % 4 = j from by omega] at h7
    exact h7
end
end Go.SL

