/- YtebdkaadbakhlaaGreatDoor: part Z6 of this seat's own texts. -/
import Derived.Test.YtebdkaadbakhlaaGreatDoorRows
import Derived.Test.YtebdkaadbakhlaaGreatDoorTie
import Derived.Test.YtebdkaadbakhlaaGreatDoorCards
import Derived.Stop.LaidErr
import Derived.Lib.LaidTab
import Derived.Shelf.Vars
import Derived.HandedShaped
import Derived.Lay
import Derived.ProofKit
import Derived.SevenTiedAt
import Derived.Deep.Strs
import Derived.ChangeSlices
import Derived.Test.YtebdkaadbakhlaaGreatDoorZ1
import Derived.Test.YtebdkaadbakhlaaGreatDoorP4
import Derived.Test.YtebdkaadbakhlaaGreatDoorDK2
import Derived.Test.YtebdkaadbakhlaaGreatDoorRE1
set_option linter.unusedVariables false
set_option linter.unusedSimpArgs false
section
open Go Go.Proofs Go.SL Go.RowKit
set_option maxRecDepth 100000
namespace Go.SL
theorem starD : "*" ++ "errors.errorString" = "*errors.errorString" := by decide
theorem errRow (u : TypeId) (h : Tryz.prog.typeName? 3 u = some "*errors.errorString") : u = 194 :=
 typeName_ptr_named (nm := "errors.errorString") (by rw [starD]; kernel_rfl) (by kernel_rfl) (by decide) u (by rw [starD]; exact h)
theorem cellsErr : Tryz.prog.cellsOf 196 = 1 := by kernel_rfl
theorem cellsStr : Tryz.prog.cellsOf 9 = 1 := by kernel_rfl
theorem laid_of {x1 x2 x4 : String × DataW Unit} {rest : List (String × DataW Unit)} {W : World}
  (h : laidMet Tryz.prog (x1 :: x2 :: ("internal/strconv.uint64pow10", YtebdkaadbakhlaaGreatDoor.Rows.laid_internal_strconv_uint64pow10) :: x4 :: ("strconv.ErrRange", YtebdkaadbakhlaaGreatDoor.Rows.laid_strconv_ErrRange) :: ("strconv.ErrSyntax", YtebdkaadbakhlaaGreatDoor.Rows.laid_strconv_ErrSyntax) :: rest) W) (hS : W.ShapedOpen Tryz.prog) : LaidD W := by
 have h3 := h.tail.tail
 have h5 := h3.tail.tail
 have h6 := h5.tail
 refine ⟨?_, ?_, ?_, ?_⟩
 ·exact Lib.tabIs_of_head (g := 5) (t := 210) (e := 165) (n := 20) (k := .u64) (zs := Lib.pow10Tab) (by kernel_rfl) (by kernel_rfl) uT210 uT165 Tryz.cz165 (by kernel_rfl) h3
 ·obtain ⟨a, s, hv, _⟩ := laid_sentinel h6 (g := 3) (ti := 72) (by kernel_rfl) (by kernel_rfl) uT72 errRow uT194 uT196 rfl rfl uT9 cellsErr cellsStr
  exact ⟨_, _, hv⟩
 ·obtain ⟨a, s, hv, _⟩ := laid_sentinel h5 (g := 4) (ti := 72) (by kernel_rfl) (by kernel_rfl) uT72 errRow uT194 uT196 rfl rfl uT9 cellsErr cellsStr
  exact ⟨_, _, hv⟩
 ·exact cell_of_shapedOpen_int (g := 2) (t := 3) (zero := #[.int .i64 0]) (k := .i64) hS (of_decide_eq_true (by kernel_rfl)) (by kernel_rfl) rfl (by kernel_rfl) (by kernel_rfl) uT3
theorem handed_laid {H : Type} {enc : TypeId × Value → H} {a : Assume} {C : Checked} {os : Os} {f : FuncId} {fn : Func} {s : ChangeSpec} {conds : List PathCond} {apart fresh handsOn again : Bool} {X : World → Array Value → Prop}
  (hX : ∀ (w w' : World) (args : Array Value), w.heap = w'.heap → X w args → X w' args)
  (own : ownKnob C.prog.godebug = none) (started : os.Started) (noInit : C.prog.inits.idxOf? f = none) (hfn : C.prog.funcs[f]? = some fn)
  (witness : ∃ (w : World) (tape : Tape) (i : Input), w.os = os ∧ (w.forCall tape i).Shaped C.prog ∧ i.vars = [] ∧ Input.okWide C.prog (w.forCall tape i) .any w.heap.size f i ∧
   ((s.pre enc C.prog fn conds apart (w.forCall tape i).memory i.args ∧ X (w.forCall tape i).memory i.args) ∧ sizedMet enc C.prog fn (OpenSpec.ofChange s) apart (w.forCall tape i).memory i.args) ∧ a.holds C.prog (lone (Frame.enter C.prog f i.args .normal) [] (w.forCall tape i)))
  (contract : ∀ (W : World) (base : Nat) (args : Array Value) (ds gs : List (DataW H)) (before : List MemPlace),
   (∀ (j : Nat) t v, fn.params[j]? = some t → args[j]? = some v → Value.okWide C.prog W .any base t v) →
   DataW.Whole enc C.prog fn.params.toList s.vars apart W args.toList ds gs before →
   (DataW.weightsEach C.prog (fn.params.toList ++ s.plain.varTypes C.prog) (ds ++ gs)).all (· ≤ reachBytes) = true → X W args → W.ShapedOpen C.prog →
   Calls C.prog f args W fun e W' => ∃ v, e = .returned v ∧ s.post enc C.prog fn apart fresh handsOn again W args v W') :
  ReturnsInHanded a C os f .any (fun w args => (s.pre enc C.prog fn conds apart w args ∧ X w args) ∧ sizedMet enc C.prog fn (OpenSpec.ofChange s) apart w args) (s.post enc C.prog fn apart fresh handsOn again) := by
 refine returnsInHanded_of_calls own started noInit witness ?_
 intro w tape i _ hsh _ hok hpre hholds
 obtain ⟨_, _, _, fn', hfn', _, _, _, _, hval⟩ := hok
 have e : fn' = fn := Option.some.inj (hfn'.symm.trans hfn)
 subst e
 obtain ⟨⟨⟨ds, gs, before, hw, hc⟩, hx⟩, hz⟩ := hpre
 have hw' := DataW.Whole.of_heap (w' := w.forCall tape i) (by rfl) hw
 refine (contract (w.forCall tape i) w.heap.size i.args ds gs before hval hw' (hz.weights hw) (hX _ _ _ (by rfl) hx) hsh).mono fun e W' ⟨v, he, hp⟩ => ?_
 subst he
 exact ChangeSpec.post_blind hp
end Go.SL
end
section
open Go Go.Proofs Go.SL Go.RowKit
set_option maxRecDepth 100000
namespace Go.SL
theorem lt_of_var {P : Program} {w : World} {n : String} {g : Nat} {cs : Array Value} (hg : P.globalNamed n = some g) (h : w.var? P n = some cs) : g < w.heap.size := by
 unfold World.var? at h
 rw [hg, Option.bind_some] at h
 cases hb : w.heap[g]? with
 | none => rw [hb] at h; cases h
 | some o => exact (Array.getElem?_eq_some_iff.1 hb).1
theorem feet_none (b : Nat) (h : feet [] b) : False := by obtain ⟨_, hc, _⟩ := h; cases hc
theorem LaidD.lf {w : World} (h : LaidD w) (more : gTop < w.heap.size ∨ gTop = 5 ∨ gTop = 3 ∨ gTop = 4 ∨ gTop = 2) : LF w (feet []) := by
 have h1 : 5 < w.heap.size := lt_of_var (n := "internal/strconv.uint64pow10") (by kernel_rfl) h.tab
 have h2 : 3 < w.heap.size := by obtain ⟨_, _, hv⟩ := h.syn; exact lt_of_var (n := "strconv.ErrSyntax") (by kernel_rfl) hv
 have h3 : 4 < w.heap.size := by obtain ⟨_, _, hv⟩ := h.rng; exact lt_of_var (n := "strconv.ErrRange") (by kernel_rfl) hv
 have h4 : 2 < w.heap.size := by obtain ⟨m, hm⟩ := h.top; exact Lib.lt_of_cell hm
 exact ⟨h, fun b hb => (feet_none b hb).elim, by omega⟩
end Go.SL
end
section
namespace Go.SL
open Go.ChangeShapes Go.WideShapes Go.RowKit Go.Deep
section
variable {H : Type} {enc : TypeId × Value → H} {P : Program} {W : World} {base : Nat} {t : TypeId} {v : Value} {d : DataW H}
theorem told_strs {e : TypeId} (ht : P.underlying t = some (.slice e)) (he : P.underlying e = some .string) (hc : P.cellsOf e = 1) (h : Gives enc P W base t v d) :
  ∃ l : List (List UInt8), Rds W.cell? v 1 l.length (strC l) ∧ ∀ s ∈ l, s.length ≤ 140737488355328 := by
 obtain ⟨k1, ⟨p, fuel, k2⟩, k3⟩ := h
 obtain ⟨A, len, cap, rfl⟩ := okWide_slice ht k1
 rcases Go.Deep.open_strs ht he hc k2 with ⟨hcs, hx⟩ | ⟨a, len', cap', m, Sx, hcs, _, hl, hm, hmm, hx, hii⟩
 ·simp only [Value.cells, List.cons.injEq, Value.slice.injEq, and_true] at hcs
  obtain ⟨rfl, rfl, rfl⟩ := hcs
  exact ⟨[], ⟨none, 0, rfl, Nat.le_refl _, rfl, fun h => absurd h (Nat.lt_irrefl _)⟩, fun s hs => by cases hs⟩
 ·simp only [Value.cells, List.cons.injEq, Value.slice.injEq, and_true] at hcs
  obtain ⟨rfl, rfl, rfl⟩ := hcs
  have hlm : len ≤ m := by rw [hmm]; split <;> omega
  have hdd : d = .slice ((List.range len).map fun i => .lit (.string (Sx i).data.toList)) ((List.range (m - len)).map fun j => .lit (.string (Sx (len + j)).data.toList)) := (Prod.mk.injEq .. ▸ hx : _ ∧ _).1
  refine ⟨(List.range len).map fun i => (Sx i).data.toList, ⟨some a, cap, by simp, by simpa using hl, by simp [strC], fun _ => ⟨a, rfl, fun j u hj => ?_⟩⟩, fun s hs => ?_⟩
  ·simp only [strC, List.map_map, List.getElem?_map, Option.map_eq_some_iff] at hj
   obtain ⟨i, h3, rfl⟩ := hj
   obtain ⟨h4, h5⟩ := List.getElem?_eq_some_iff.1 h3
   simp only [List.length_range, List.getElem_range] at h4 h5
   subst h5
   rw [(hii j (by omega)).1]
   exact congrArg some (strV_of _)
  ·obtain ⟨i, hi, rfl⟩ := List.mem_map.1 hs
   have := k3 (Sx i).data.toList.length (by
    rw [hdd]
    simp only [DataW.weights, ht, List.mem_cons, List.mem_append]
    refine .inr (.inl (weightsAll_mem (List.mem_map.2 ⟨i, hi, rfl⟩) _ ?_))
    simp [DataW.weights])
   simp only [reachBytes] at this
   omega
end
end Go.SL
end
section
open Go Go.Proofs Go.SL Go.RowKit Go.ChangeShapes
set_option maxRecDepth 100000
namespace Go.SL
theorem var_cell0 {P : Program} {w : World} {n : String} {g : Nat} {v : Value} (hg : P.globalNamed n = some g) (h : w.var? P n = some #[v]) : w.cell? ⟨g, 0, none⟩ = some v := by
 have := World.var?_cell hg h 0; simpa using this
def unS (d : DataW Unit) : List UInt8 := match d with | .lit (.string s) => s | _ => []
def unI (d : DataW Unit) : Int := match d with | .lit (.int _ s) => s | _ => 0
theorem names_of {x1 x2 x3 x4 x5 x6 : String × DataW Unit} {rest : List (String × DataW Unit)} {W : World}
  (h : laidMet Tryz.prog (x1 :: x2 :: x3 :: x4 :: x5 :: x6 :: ("caracole/caracoleref.names", YtebdkaadbakhlaaGreatDoor.Rows.laid_caracole_caracoleref_names) :: ("caracole/caracoleref.counts", YtebdkaadbakhlaaGreatDoor.Rows.laid_caracole_caracoleref_counts) :: rest) W) : NamesV W.cell? := by
 have h7 := h.tail.tail.tail.tail.tail.tail
 have h8 := h7.tail
 constructor
 ·obtain ⟨ps, ⟨g, t, cs, fuel, p, q, hg, ht, hv, hd, _, _⟩, _⟩ := h7
  obtain rfl : g = 0 := Option.some.inj (hg.symm.trans (by kernel_rfl))
  obtain rfl : t = 22 := Option.some.inj (ht.symm.trans (by kernel_rfl))
  obtain ⟨cs⟩ := cs
  rcases Go.Deep.open_strs uT22 uT9 Tryz.cz9 hd with ⟨_, hx⟩ | ⟨a, len, cap, m, Sx, hcs, _, hl, hm, hmm, hx, hii⟩
  ·have e1 : (DataW.slice (kNames.map fun s => .lit (.string s)) [] : DataW Unit) = .nil := congrArg Prod.fst hx
   cases e1
  ·have e1 : (DataW.slice (kNames.map fun s => .lit (.string s)) [] : DataW Unit) = .slice ((List.range len).map fun i => .lit (.string (Sx i).data.toList)) ((List.range (m - len)).map fun j => .lit (.string (Sx (len + j)).data.toList)) := congrArg Prod.fst hx
   injection e1 with e2 e3
   have hlen : len = 10 := by have := congrArg List.length e2; simpa using this.symm
   subst hlen
   have e4 := congrArg (List.map unS) e2
   rw [List.map_map, List.map_map] at e4
   have e5 : kNames = (List.range 10).map (fun i => (Sx i).data.toList) := e4
   have hlm : 10 ≤ m := by rw [hmm]; split <;> omega
   have hcs : cs = [.slice (some a) 10 cap] := hcs
   subst hcs
   refine ⟨some a, cap, var_cell0 hg hv, some a, cap, rfl, hl, rfl, fun _ => ⟨a, rfl, fun j u hj => ?_⟩⟩
   rw [e5] at hj
   simp only [strC, List.map_map, List.getElem?_map, Option.map_eq_some_iff] at hj
   obtain ⟨i, h3, rfl⟩ := hj
   obtain ⟨h4, h5⟩ := List.getElem?_eq_some_iff.1 h3
   simp only [List.length_range, List.getElem_range] at h4 h5
   subst h5
   rw [(hii j (by omega)).1]
   exact congrArg some (strV_of _)
 ·obtain ⟨ps, ⟨g, t, cs, fuel, p, q, hg, ht, hv, hd, _, _⟩, _⟩ := h8
  obtain rfl : g = 1 := Option.some.inj (hg.symm.trans (by kernel_rfl))
  obtain rfl : t = 70 := Option.some.inj (ht.symm.trans (by kernel_rfl))
  obtain ⟨cs⟩ := cs
  rcases open_ints uT70 uT3 Tryz.cz3 hd with ⟨_, hx⟩ | ⟨a, len, cap, zs, hcs, _, hl, hm, hmm, hx, hii, _⟩
  ·have e1 : (DataW.slice (kCounts.map fun s => .lit (.int .i64 s)) [] : DataW Unit) = .nil := congrArg Prod.fst hx
   cases e1
  ·have e1 : (DataW.slice (kCounts.map fun s => .lit (.int .i64 s)) [] : DataW Unit) = .slice (lits .i64 (zs.take len)) (lits .i64 (zs.drop len)) := congrArg Prod.fst hx
   injection e1 with e2 e3
   have hzl : len ≤ zs.length := by rw [hmm]; split <;> omega
   have e4 := congrArg (List.map unI) e2
   have e5 : kCounts = zs.take len := by
    have e6 : (lits .i64 (zs.take len) : List (DataW Unit)).map unI = zs.take len := by
     show ((zs.take len).map _).map unI = _
     rw [List.map_map]
     exact List.map_id _
    exact e4.trans e6
   have hlen : len = 10 := by have := congrArg List.length e5; rw [List.length_take] at this; simp at this; omega
   subst hlen
   have hcs : cs = [.slice (some a) 10 cap] := hcs
   subst hcs
   refine ⟨some a, cap, var_cell0 hg hv, some a, cap, rfl, hl, rfl, fun _ => ⟨a, rfl, fun j u hj => ?_⟩⟩
   rw [e5] at hj
   simp only [intCells, List.getElem?_map, Option.map_eq_some_iff] at hj
   obtain ⟨z, h3, rfl⟩ := hj
   have hj10 : j < 10 := by
    obtain ⟨h4, _⟩ := List.getElem?_eq_some_iff.1 h3
    rw [List.length_take] at h4; omega
   rw [List.getElem?_take_of_lt hj10] at h3
   rw [hii j (by omega), List.getD, h3]
   rfl
end Go.SL
end
