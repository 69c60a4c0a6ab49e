/- Ytebdkaadbakhlac: part Row6 of this seat's own texts: WHATEVER THE INPUT, the law ow6 returns true and leaves what was there; no condition. -/
import Derived.Test.YtebdkaadbakhlacP4
import Derived.Test.YtebdkaadbakhlacP6
import Derived.Test.YtebdkaadbakhlacSStL
set_option linter.unusedVariables false
set_option linter.unusedSimpArgs false
namespace Go.SL
open Go.ChangeShapes Go.WideShapes Go.RowKit Go.Deep
section
variable {H : Type} {enc : TypeId × Value → H} {P : Program} {w W : World} {base b0 : Nat} {spare : Nat → Bool} {held : Bool} {t : TypeId} {v : Value} {d : DataW H}
theorem trod_ints {e : TypeId} {fuel : Nat} {x : DataW H × List MemPlace} (ht : P.underlying t = some (.slice e)) (hc : P.cellsOf e = 1) (he : P.underlying e = some (.int .i64))
    (k2 : DataW.trod enc P W 0 (fun _ => true) held fuel t [v] = some x) : ∃ b : List Int, IsInts W.cell? v b := by
  rcases open_slice1 ht hc k2 with ⟨hcs, hx⟩ | ⟨a, len, cap, m, n, V, D, Pl, hcs, _, hl, hm, hmm, hx, hi⟩
  · simp only [List.cons.injEq, and_true] at hcs
    subst hcs
    exact ⟨[], ⟨none, 0, rfl, Nat.le_refl _, rfl, fun h => absurd h (Nat.lt_irrefl _)⟩⟩
  · simp only [List.cons.injEq, and_true] at hcs
    subst hcs
    simp only [if_true] at hmm
    obtain ⟨f, hf⟩ := choose_lt (α := Int) (n := m) (p := fun i x => V i = .int .i64 x) (fun i him => by
      obtain ⟨_, h4⟩ := hi i him
      obtain ⟨x, h5, _, h6⟩ := DataW.trod_int he h4
      simp only [List.cons.injEq, and_true] at h5
      exact ⟨x, h5⟩)
    refine ⟨(List.range len).map f, ⟨some a, cap, by simp, by simpa using hl, by simp [intsC], fun _ => ⟨a, rfl, fun j u hj => ?_⟩⟩⟩
    simp only [intsC, List.map_map, List.getElem?_map, Option.map_eq_some_iff] at hj
    obtain ⟨i, h3, rfl⟩ := hj
    obtain ⟨h4, h5⟩ := List.getElem?_eq_some_iff.1 h3
    simp only [List.length_range, List.getElem_range] at h4 h5
    subst h5
    rw [(hi j (by omega)).1, hf j (by omega)]
    rfl
theorem told_ssteps {es tr tp te e ep : TypeId} {g0 g1 g2 g3 f0 f1 f2 f3 f4 : Field} (hts : P.underlying t = some (.slice es)) (hes : P.underlying es = some (.struct #[g0, g1, g2, g3])) (hgo : [g0.offset, g1.offset, g2.offset, g3.offset] = [0, 1, 2, 3]) {t0 : TypeId} (hg0 : g0.type = t0) (hg1 : g1.type = tr) (hg2 : g2.type = tp) (hg3 : g3.type = t0) (hc3 : P.cellsOf es = 4)
    (hi0 : P.underlying t0 = some (.int .i64)) (hci0 : P.cellsOf t0 = 1) (hctr : P.cellsOf tr = 1) (hctp : P.cellsOf tp = 1) (htp : P.underlying tp = some (.slice ep)) (hcep : P.cellsOf ep = 1) (hep : P.underlying ep = some (.int .i64))
    (ht0 : P.underlying tr = some (.slice te)) (hcd : P.cellsOf te = 1) (ht : P.underlying te = some (.slice e)) (he : P.underlying e = some (.struct #[f0, f1, f2, f3, f4]))
    {t1 t2 : TypeId} (hty : [f0.type, f1.type, f2.type, f3.type, f4.type] = [t1, t1, t1, t1, t2]) (h1 : P.underlying t1 = some (.int .i64)) (h2 : P.underlying t2 = some (.int .i64)) (hc1 : P.cellsOf t1 = 1) (hc2 : P.cellsOf t2 = 1) (ho : [f0.offset, f1.offset, f2.offset, f3.offset, f4.offset] = [0, 1, 2, 3, 4]) (hn : P.cellsOf e = 5) (hb : P.bytesOf e = 40)
    (h : Gives enc P W base t v d) : ∃ l : List SStepL, IsSSteps W.cell? v l ∧ (∀ x ∈ l, ∀ d ∈ x.round, ∀ o ∈ d, OpIn o) ∧ (∀ x ∈ l, ∀ d ∈ x.round, d.length ≤ 4398046511104) ∧ l.length ≤ maxLen ∧ ∀ x ∈ l, In64 x.kind ∧ In64 x.keep := by
  obtain ⟨k1, ⟨p, fuel, k2⟩, k3⟩ := h
  obtain ⟨A, len, cap, rfl⟩ := okWide_slice hts k1
  simp only [Value.cells] at k2
  rcases open_slice hts k2 with ⟨hcs, hx⟩ | ⟨a, len', cap', m, n, D, Pl, hcs, _, hl, hm, hmm, hx, hi⟩
  · simp only [List.cons.injEq, Value.slice.injEq, and_true] at hcs
    obtain ⟨rfl, rfl, rfl⟩ := hcs
    exact ⟨[], ⟨none, 0, rfl, Nat.le_refl _, fun i hi => by simp at hi⟩, fun d hd => by simp at hd, fun d hd => by simp at hd, by simp, fun d hd => by simp at hd⟩
  · simp only [List.cons.injEq, Value.slice.injEq, and_true] at hcs
    obtain ⟨rfl, rfl, rfl⟩ := hcs
    simp only [if_true] at hmm
    simp only [List.cons.injEq, and_true] at hgo
    obtain ⟨o0, o1, o2, o3⟩ := hgo
    have hdd : d = .slice ((List.range len).map D) ((List.range (m - len)).map fun j => D (len + j)) := (Prod.mk.injEq .. ▸ hx : _ ∧ _).1
    obtain ⟨f, hf⟩ := choose_lt (α := SStepL) (n := len) (p := fun i s => (∃ u p, Cells W.cell? (a.add (i * 4)) (sstC s u p) ∧ IsRound W.cell? u s.round ∧ IsInts W.cell? p s.picks) ∧ (∀ d ∈ s.round, ∀ o ∈ d, OpIn o) ∧ (∀ d ∈ s.round, d.length ≤ 4398046511104) ∧ In64 s.kind ∧ In64 s.keep) (fun i hil => by
      obtain ⟨cs', hc', ht'⟩ := hi i (by omega)
      obtain ⟨xs, m', _, hxx, hl3, hxl, hxf⟩ := DataW.trod_struct hes ht'
      rw [hc3] at hl3 hc'
      match cs', hl3 with
      | [c0, c1, c2, c3], _ =>
        match xs, hxl with
        | [y0, y1, y2, y3], _ =>
          have q0 := hxf 0 g0 rfl
          have q1 := hxf 1 g1 rfl
          have q2 := hxf 2 g2 rfl
          have q3 := hxf 3 g3 rfl
          rw [hg0, o0, hci0] at q0
          rw [hg1, o1, hctr] at q1
          rw [hg2, o2, hctp] at q2
          rw [hg3, o3, hci0] at q3
          simp only [List.drop_zero, List.take_succ_cons, List.take_zero, List.drop_succ_cons, List.getElem?_cons_zero, List.getElem?_cons_succ] at q0 q1 q2 q3
          obtain ⟨n0, e0, _, w0⟩ := DataW.trod_int hi0 q0
          obtain ⟨n1, e1, _, w1⟩ := DataW.trod_int hi0 q3
          simp only [List.cons.injEq, and_true] at e0 e1
          subst e0; subst e1
          obtain ⟨r, hr, hr1, hr2⟩ := trod_round ht0 hcd ht he hty h1 h2 hc1 hc2 ho hn hb q1 (fun n hn' => k3 n (by
            rw [hdd]
            simp only [DataW.weights, hts, List.mem_cons, List.mem_append]
            refine .inr (.inl (weightsAll_mem (List.mem_map.2 ⟨i, List.mem_range.2 hil, rfl⟩) _ ?_))
            have hDi : D i = .agg [y0.1, y1.1, y2.1, y3.1] := by
              have := (Prod.mk.injEq .. ▸ hxx : _ ∧ _).1
              simpa using this
            rw [hDi]
            simp only [DataW.weights, hes, List.map_cons, List.map_nil, DataW.weightsEach, hg1, List.mem_append]
            exact .inr (.inl hn')))
          obtain ⟨pk, hpk⟩ := trod_ints htp hcep hep q2
          obtain ⟨_, _, hat⟩ := World.cells?_some hc'
          refine ⟨⟨n0, n1, r, pk⟩, ⟨c1, c2, fun j u hj => ?_, hr, hpk⟩, hr1, hr2, in64_of_wf w0, in64_of_wf w1⟩
          have hj3 : j < 4 := (List.getElem?_eq_some_iff.1 hj).1
          have h7 := hat j hj3
          exact h7.trans hj)
    refine ⟨(List.range len).map f, ⟨some a, cap, by simp, by simpa using hl, fun i hil => ?_⟩, fun x hx' => ?_, fun x hx' => ?_, by simp; omega, fun x hx' => ?_⟩
    · simp only [List.length_map, List.length_range] at hil
      obtain ⟨u, p, h5, h6, h7⟩ := (hf i hil).1
      exact ⟨a, u, p, rfl, by simpa using h5, by simpa using h6, by simpa using h7⟩
    · obtain ⟨i, hi', rfl⟩ := List.mem_map.1 hx'
      exact (hf i (List.mem_range.1 hi')).2.1
    · obtain ⟨i, hi', rfl⟩ := List.mem_map.1 hx'
      exact (hf i (List.mem_range.1 hi')).2.2.1
    · obtain ⟨i, hi', rfl⟩ := List.mem_map.1 hx'
      exact (hf i (List.mem_range.1 hi')).2.2.2
theorem told_intss {te e : TypeId} (ht : P.underlying t = some (.slice te)) (hct : P.cellsOf te = 1) (he : P.underlying te = some (.slice e)) (hc : P.cellsOf e = 1) (hi : P.underlying e = some (.int .i64)) (h : Gives enc P W base t v d) : ∃ l : List (List Int), IsIntss W.cell? v l := by
  obtain ⟨k1, ⟨p, fuel, k2⟩, k3⟩ := h
  obtain ⟨A, len, cap, rfl⟩ := okWide_slice ht k1
  rcases open_slice1 ht hct k2 with ⟨hcs, hx⟩ | ⟨a, len', cap', m, n, V, D, Pl, hcs, _, hl, hm, hmm, hx, hii⟩
  · simp only [Value.cells, List.cons.injEq, Value.slice.injEq, and_true] at hcs
    obtain ⟨rfl, rfl, rfl⟩ := hcs
    exact ⟨[], ⟨none, 0, rfl, Nat.le_refl _, fun i hi => by simp at hi⟩⟩
  · simp only [Value.cells, List.cons.injEq, Value.slice.injEq, and_true] at hcs
    obtain ⟨rfl, rfl, rfl⟩ := hcs
    simp only [if_true] at hmm
    obtain ⟨f, hf⟩ := choose_lt (α := List Int) (n := m) (p := fun i b => IsInts W.cell? (V i) b) (fun i him => by
      obtain ⟨_, h4⟩ := hii i him
      exact trod_ints he hc hi h4)
    refine ⟨(List.range len).map f, ⟨some a, cap, by simp, by simpa using hl, fun i hil => ?_⟩⟩
    simp only [List.length_map, List.length_range] at hil
    exact ⟨a, V i, rfl, by rw [Int.toNat_natCast, Nat.mul_one]; exact (hii i (by omega)).1, by simpa using hf i (by omega)⟩
end
end Go.SL

