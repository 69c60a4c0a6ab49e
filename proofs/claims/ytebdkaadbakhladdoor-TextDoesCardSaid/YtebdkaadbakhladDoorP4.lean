/- YtebdkaadbakhladDoor: part P4 of this seat's own texts. -/
import Derived.ProofKit
import Derived.SizedLaws
import Derived.OpenShut
import Derived.Deep.Slices
import Derived.WideKeyArgs
import Derived.Test.YtebdkaadbakhladDoorP1
set_option linter.unusedVariables false
set_option linter.unusedSimpArgs false
namespace Go.SL
open Go.ChangeShapes Go.WideShapes Go.RowKit Go.Deep
/-! ## The outer frame of a law: its arguments as plain data, its row -/
def In64 (x : Int) : Prop := -9223372036854775808 ≤ x ∧ x ≤ 9223372036854775807
structure OpIn (o : OpL) : Prop where
  kind : In64 o.kind
  a : In64 o.a
  b : In64 o.b
  c : In64 o.c
  n : In64 o.n
/-- what is told of one argument -/
def Gives {H : Type} (enc : TypeId × Value → H) (P : Program) (W : World) (base : Nat) (t : TypeId) (v : Value) (d : DataW H) : Prop :=
  Value.okWide P W .any base t v ∧ (∃ p, DataW.Trod enc P W 0 (fun _ => true) true t v d p) ∧ ∀ n ∈ d.weights P t, n ≤ reachBytes
theorem in64_of_wf {x : Int} (h : (Lit.int .i64 x).wf = true) : In64 x := by
  simpa [Lit.wf, IntKind.min, IntKind.max, IntKind.signed, IntKind.bits, In64] using h
section
variable {H : Type} {enc : TypeId × Value → H} {P : Program} {w W : World} {base b0 : Nat} {spare : Nat → Bool} {held : Bool} {t : TypeId} {v : Value} {d : DataW H}
/-- an operation's cells -/
theorem trod_op {f0 f1 f2 f3 f4 : Field} {cs : List Value} {fuel : Nat} {x : DataW H × List MemPlace} (ht : P.underlying t = some (.struct #[f0, f1, f2, f3, f4]))
    (hf : ∀ f ∈ [f0, f1, f2, f3, f4], P.underlying f.type = some (.int .i64) ∧ P.cellsOf f.type = 1) (ho : [f0.offset, f1.offset, f2.offset, f3.offset, f4.offset] = [0, 1, 2, 3, 4]) (hn : P.cellsOf t = 5)
    (h : DataW.trod enc P w base spare held fuel t cs = some x) : ∃ o : OpL, cs = opCells o ∧ OpIn o := by
  obtain ⟨xs, m, _, _, hl, hxl, hx⟩ := DataW.trod_struct ht h
  rw [hn] at hl
  simp only [List.cons.injEq, and_true] at ho
  obtain ⟨o0, o1, o2, o3, o4⟩ := ho
  match cs, hl with
  | [c0, c1, c2, c3, c4], _ =>
    have key : ∀ (i : Nat) (f : Field) (c : Value), #[f0, f1, f2, f3, f4][i]? = some f → f ∈ [f0, f1, f2, f3, f4] → (([c0, c1, c2, c3, c4] : List Value).drop f.offset).take 1 = [c] → ∃ n, c = .int .i64 n ∧ In64 n := fun i f c hi hm hc => by
      have h3 := hx i f hi
      have hi' : i < xs.length := by rw [hxl]; exact (Array.getElem?_eq_some_iff.1 hi).1
      rw [(hf f hm).2, hc, List.getElem?_eq_getElem hi'] at h3
      obtain ⟨n, h4, _, h5⟩ := DataW.trod_int (hf f hm).1 h3
      simp only [List.cons.injEq, and_true] at h4
      exact ⟨n, h4, in64_of_wf h5⟩
    obtain ⟨n0, rfl, w0⟩ := key 0 f0 c0 rfl (by simp) (by rw [o0]; rfl)
    obtain ⟨n1, rfl, w1⟩ := key 1 f1 c1 rfl (by simp) (by rw [o1]; rfl)
    obtain ⟨n2, rfl, w2⟩ := key 2 f2 c2 rfl (by simp) (by rw [o2]; rfl)
    obtain ⟨n3, rfl, w3⟩ := key 3 f3 c3 rfl (by simp) (by rw [o3]; rfl)
    obtain ⟨n4, rfl, w4⟩ := key 4 f4 c4 rfl (by simp) (by rw [o4]; rfl)
    exact ⟨⟨n0, n1, n2, n3, n4⟩, rfl, ⟨w0, w1, w2, w3, w4⟩⟩
instance : Inhabited OpL := ⟨⟨0, 0, 0, 0, 0⟩⟩
theorem deedCells_get : ∀ (l : DeedL) (j : Nat) (v : Value), (deedCells l)[j]? = some v → ∃ o, l[j / 5]? = some o ∧ (opCells o)[j % 5]? = some v
  | [], j, v, h => by simp [deedCells] at h
  | o :: l, j, v, h => by
    by_cases hj : j < 5
    · simp only [deedCells, List.flatMap_cons] at h
      rw [List.getElem?_append_left (by simpa [opCells] using hj)] at h
      exact ⟨o, by rw [Nat.div_eq_of_lt hj]; rfl, by rw [Nat.mod_eq_of_lt hj]; exact h⟩
    · simp only [deedCells, List.flatMap_cons] at h
      rw [List.getElem?_append_right (by simpa [opCells] using Nat.le_of_not_lt hj)] at h
      obtain ⟨o', h1, h2⟩ := deedCells_get l (j - 5) v (by simpa [deedCells, opCells] using h)
      refine ⟨o', ?_, ?_⟩
      · rw [show j / 5 = (j - 5) / 5 + 1 from by omega]; simpa using h1
      · rw [show j % 5 = (j - 5) % 5 from by omega]; exact h2
/-- a reading as a deed -/
theorem trod_deed {e : TypeId} {f0 f1 f2 f3 f4 : Field} {fuel : Nat} {x : DataW H × List MemPlace} (ht : P.underlying t = some (.slice e)) (he : P.underlying e = some (.struct #[f0, f1, f2, f3, f4]))
    (hf : ∀ f ∈ [f0, f1, f2, f3, f4], P.underlying f.type = some (.int .i64) ∧ P.cellsOf f.type = 1) (ho : [f0.offset, f1.offset, f2.offset, f3.offset, f4.offset] = [0, 1, 2, 3, 4]) (hn : P.cellsOf e = 5)
    (h : DataW.trod enc P w 0 (fun _ => true) held fuel t [v] = some x) : ∃ d : DeedL, IsDeed w.cell? v d ∧ (∀ o ∈ d, OpIn o) ∧ ((x.1 = .nil ∧ d = []) ∨ ∃ els sp, x.1 = .slice els sp ∧ els.length = d.length) := by
  rcases open_slice ht h with ⟨hcs, rfl⟩ | ⟨a, len, cap, m, n, D, Pl, hcs, _, hl, hm, hmm, rfl, hi⟩
  · simp only [List.cons.injEq, and_true] at hcs
    subst hcs
    exact ⟨[], ⟨none, 0, rfl, Nat.le_refl _, rfl, fun h => absurd h (Nat.lt_irrefl _)⟩, fun o ho => by simp at ho, .inl ⟨rfl, rfl⟩⟩
  · simp only [List.cons.injEq, and_true] at hcs
    subst hcs
    simp only [if_true] at hmm
    obtain ⟨f, hf'⟩ := choose_lt (α := OpL) (n := m) (p := fun i o => w.cells? 0 (a.add (i * 5)) 5 = some (opCells o) ∧ OpIn o) (fun i him => by
      obtain ⟨cs', h1, h2⟩ := hi i him
      obtain ⟨o, rfl, ho'⟩ := trod_op he hf ho hn h2
      exact ⟨o, by rw [hn] at h1; exact h1, ho'⟩)
    refine ⟨(List.range len).map f, ⟨some a, cap, by simp, by simpa [hmm] using hl, by rw [deedCells_len], fun _ => ⟨a, rfl, fun j u hj => ?_⟩⟩, fun o ho' => ?_, .inr ⟨_, _, rfl, by simp⟩⟩
    · obtain ⟨o, h1, h2⟩ := deedCells_get _ j u hj
      simp only [List.getElem?_map, Option.map_eq_some_iff] at h1
      obtain ⟨i, h3, rfl⟩ := h1
      obtain ⟨h4, h5⟩ := List.getElem?_eq_some_iff.1 h3
      simp only [List.length_range, List.getElem_range] at h4 h5
      subst h5
      obtain ⟨h6, _⟩ := hf' (j / 5) (by omega)
      obtain ⟨_, _, hat⟩ := World.cells?_some h6
      have h7 := hat (j % 5) (by omega)
      rw [h2, Go.SL.add_add, show j / 5 * 5 + j % 5 = j from by omega] at h7
      exact h7
    · obtain ⟨i, hi', rfl⟩ := List.mem_map.1 ho'
      exact (hf' i (by have := List.mem_range.1 hi'; omega)).2
theorem opFields {f0 f1 f2 f3 f4 : Field} {t1 t2 : TypeId} (hty : [f0.type, f1.type, f2.type, f3.type, f4.type] = [t1, t1, t1, t1, t2]) (h1 : P.underlying t1 = some (.int .i64)) (h2 : P.underlying t2 = some (.int .i64)) (hc1 : P.cellsOf t1 = 1) (hc2 : P.cellsOf t2 = 1) :
    ∀ f ∈ [f0, f1, f2, f3, f4], P.underlying f.type = some (.int .i64) ∧ P.cellsOf f.type = 1 := by
  intro f hf
  simp only [List.cons.injEq, and_true] at hty
  obtain ⟨e0, e1, e2, e3, e4⟩ := hty
  simp only [List.mem_cons, List.not_mem_nil, or_false] at hf
  rcases hf with rfl | rfl | rfl | rfl | rfl <;> simp_all
theorem told_deed {e : TypeId} {f0 f1 f2 f3 f4 : Field} (ht : P.underlying t = some (.slice e)) (he : P.underlying e = some (.struct #[f0, f1, f2, f3, f4]))
    {t1 t2 : TypeId} (hty : [f0.type, f1.type, f2.type, f3.type, f4.type] = [t1, t1, t1, t1, t2]) (h1 : P.underlying t1 = some (.int .i64)) (h2 : P.underlying t2 = some (.int .i64)) (hc1 : P.cellsOf t1 = 1) (hc2 : P.cellsOf t2 = 1) (ho : [f0.offset, f1.offset, f2.offset, f3.offset, f4.offset] = [0, 1, 2, 3, 4]) (hn : P.cellsOf e = 5) (hb : P.bytesOf e = 40)
    (h : Gives enc P W base t v d) : ∃ r : DeedL, IsDeed W.cell? v r ∧ (∀ o ∈ r, OpIn o) ∧ r.length ≤ 4398046511104 := by
  obtain ⟨k1, ⟨p, fuel, k2⟩, h3⟩ := h
  obtain ⟨A, len, cap, rfl⟩ := okWide_slice ht k1
  obtain ⟨r, h4, h5, h6⟩ := trod_deed ht he (opFields hty h1 h2 hc1 hc2) ho hn k2
  refine ⟨r, h4, h5, ?_⟩
  rcases h6 with ⟨_, rfl⟩ | ⟨els, sp, h7, h8⟩
  · simp
  · simp only at h7
    subst h7
    have := h3 ((els.length + sp.length) * 40) (by simp [DataW.weights, ht, hb])
    simp only [reachBytes] at this
    omega
theorem trodAll_each : ∀ {ts : List TypeId} {vs : List Value} {ds : List (DataW H)} {p : List MemPlace}, DataW.TrodAll enc P W 0 (fun _ => true) true ts vs ds p →
    ts.length = vs.length ∧ ts.length = ds.length ∧ ∀ (j : Nat) t v d, ts[j]? = some t → vs[j]? = some v → ds[j]? = some d → ∃ q, DataW.Trod enc P W 0 (fun _ => true) true t v d q
  | [], vs, ds, p, h => by
    cases vs <;> cases ds <;> simp_all [DataW.TrodAll]
  | t :: ts, vs, ds, p, h => by
    obtain ⟨v0, vs', d0, ds', p0, p', rfl, rfl, rfl, h0, h1⟩ := trodAll_cons h
    obtain ⟨h2, h3, h4⟩ := trodAll_each h1
    refine ⟨by simp [h2], by simp [h3], fun j u v d hu hv hd => ?_⟩
    cases j with
    | zero =>
      simp only [List.getElem?_cons_zero, Option.some.injEq] at hu hv hd
      subst hu; subst hv; subst hd
      exact ⟨_, h0⟩
    | succ j =>
      simp only [List.getElem?_cons_succ] at hu hv hd
      exact h4 j u v d hu hv hd
theorem trodAll_stays (hl : laidOutB P = true) {W' : World} {sp : Nat → Bool} : ∀ {ts : List TypeId} {vs : List Value} {ds : List (DataW H)} {p : List MemPlace}, (∀ t ∈ ts, P.readableRec t = true ∧ t < P.types.size) → DataW.TrodAll enc P W 0 (fun _ => true) true ts vs ds p →
    (∀ x ∈ p, W.sameAt W' x) → (∀ x ∈ p, sp x.block = true) → DataW.TrodAll enc P W' 0 sp true ts vs ds p
  | [], vs, ds, p, _, h, _, _ => by
    cases vs <;> cases ds <;> simp_all [DataW.TrodAll]
  | t :: ts, vs, ds, p, ht, h, hs, hp => by
    obtain ⟨v0, vs', d0, ds', p0, p', rfl, rfl, rfl, h0, h1⟩ := trodAll_cons h
    have h2 := ht t (by simp)
    exact trodAll_cons_mk (WideElems.Trod_stays hl h2.1 h2.2 h0 (fun x hx => hs x (by simp [hx])) (fun x hx => hp x (by simp [hx])))
      (trodAll_stays hl (fun u hu => ht u (by simp [hu])) h1 (fun x hx => hs x (by simp [hx])) (fun x hx => hp x (by simp [hx])))
/-- A LAW's CONTRACT: the walk gives 'true' and leaves what was there -/
theorem law_contract {f : Func} {i : FuncId} {s : ChangeSpec} {apart fresh handsOn : Bool} {args : Array Value} {ds gs : List (DataW H)} {before : List MemPlace} {tb : TypeId} (hl : laidOutB P = true)
    (hpar : f.params.toList.all (fun t => P.readableRec t && Nat.blt t P.types.size) = true) (hvars : s.vars = []) (hres : f.resultTypes = #[tb]) (hb : P.underlying tb = some .bool)
    (hs : ∀ ds : List (DataW H), ds.length = f.params.size → s.fn H ds = { results := [.lit (.bool true)], args := ds })
    (hval : ∀ (j : Nat) t v, f.params[j]? = some t → args[j]? = some v → Value.okWide P W .any base t v)
    (hW : DataW.Whole enc P f.params.toList s.vars apart W args.toList ds gs before)
    (hsz : (DataW.weightsEach P (f.params.toList ++ s.plain.varTypes P) (ds ++ gs)).all (· ≤ reachBytes) = true)
    (walk : args.size = f.params.size → ds.length = f.params.size → (∀ (j : Nat) t v d, f.params[j]? = some t → args[j]? = some v → ds[j]? = some d → Gives enc P W base t v d) →
      Calls P i args W fun e w' => e = .returned (.bool true) ∧ Res W [] [] w') :
    Calls P i args W fun e W' => ∃ v, e = .returned v ∧ s.post enc P f apart fresh handsOn false W args v W' := by
  have hW' := hW
  obtain ⟨p, q, hA0, hV, rfl, hfz, hnd⟩ := hW
  rw [hvars] at hV
  obtain ⟨rfl, rfl⟩ := trodVars_none hV
  obtain ⟨h1, h2, h3⟩ := trodAll_each hA0
  have hdl : ds.length = f.params.size := by rw [← h2]; simp
  have hw := walk (by simpa using h1.symm) hdl (fun j t v d ht hv hd => ?_)
  · refine hw.mono fun e W' ⟨he, hr⟩ => ?_
    subst he
    have hbel := hr.below
    have hlt : ∀ x ∈ p, x.block < W.heap.size := fun x hx => by have := hW'.lt x (by simp [hx]); simpa using this
    have hsf := hs (ds ++ []) (by simpa using hdl)
    have hold : ∀ x ∈ p, (fun b => decide (b < W.heap.size)) x.block = true := fun x hx => by simpa using hlt x hx
    refine ⟨_, rfl, _, _, _, [], p, [], hW', ?_, ?_, ?_, hbel.frame _, fun h => by cases h⟩
    · rw [hsf, hres]
      exact trodAll_cons_mk (shut_bool hb _) trodAll_mk0
    · rw [hsf]
      simp only [List.append_nil]
      refine trodAll_stays hl (fun t ht => ?_) hA0 (fun x hx => hbel.same (hlt x hx)) hold
      have := List.all_eq_true.1 hpar t ht
      simp only [Bool.and_eq_true] at this
      exact ⟨this.1, Nat.blt_eq.mp this.2⟩
    · rw [hsf, hvars]; rfl
  · refine ⟨hval j t v ht hv, h3 j t v d (by simpa using ht) (by simpa using hv) hd, fun n hn => ?_⟩
    have := List.all_eq_true.1 hsz n (DataW.weights_mem_each (j := j) (t := t) (d := d) ?_ ?_ n hn)
    · simpa using this
    · rw [List.getElem?_append_left]
      · simpa using ht
      · have := (Array.getElem?_eq_some_iff.1 ht).1; simpa using this
    · rw [List.getElem?_append_left]
      · exact hd
      · exact (List.getElem?_eq_some_iff.1 hd).1
end
end Go.SL

