/- YtebdkaadbakhladDoor: part LdN of this seat's own texts. -/
import Derived.Deep.Strs
import Derived.ChangeSlices
import Derived.Test.YtebdkaadbakhladDoorZ6
import Derived.Test.YtebdkaadbakhladDoorReA
set_option linter.unusedVariables false
set_option linter.unusedSimpArgs false

open Go Go.Proofs Go.SL Go.RowKit Go.ChangeShapes
set_option maxRecDepth 100000
namespace Go.SL
theorem var_cell0 {P : Program} {w : World} {n : String} {g : Nat} {v : Value} (hg : P.globalNamed n = some g) (h : w.var? P n = some #[v]) : w.cell? ⟨g, 0, none⟩ = some v := by
  have := World.var?_cell hg h 0; simpa using this
def unS (d : DataW Unit) : List UInt8 := match d with | .lit (.string s) => s | _ => []
def unI (d : DataW Unit) : Int := match d with | .lit (.int _ s) => s | _ => 0
/-- what the two tables of the reference give its walks -/
theorem names_of {x1 x2 x3 x4 x5 x6 : String × DataW Unit} {rest : List (String × DataW Unit)} {W : World}
    (h : laidMet Tryd.prog (x1 :: x2 :: x3 :: x4 :: x5 :: x6 :: ("caracole/caracoleref.names", YtebdkaadbakhladDoor.Rows.laid_caracole_caracoleref_names) :: ("caracole/caracoleref.counts", YtebdkaadbakhladDoor.Rows.laid_caracole_caracoleref_counts) :: rest) W) : NamesV W.cell? := by
  have h7 := h.tail.tail.tail.tail.tail.tail
  have h8 := h7.tail
  constructor
  · obtain ⟨ps, ⟨g, t, cs, fuel, p, q, hg, ht, hv, hd, _, _⟩, _⟩ := h7
    obtain rfl : g = 0 := Option.some.inj (hg.symm.trans (by kernel_rfl))
    obtain rfl : t = 42 := Option.some.inj (ht.symm.trans (by kernel_rfl))
    obtain ⟨cs⟩ := cs
    rcases Go.Deep.open_strs Tryd.underlying42 Tryd.underlying9 Tryd.cz9 hd with ⟨_, hx⟩ | ⟨a, len, cap, m, Sx, hcs, _, hl, hm, hmm, hx, hii⟩
    · have e1 : (DataW.slice (kNames.map fun s => .lit (.string s)) [] : DataW Unit) = .nil := congrArg Prod.fst hx
      cases e1
    · have e1 : (DataW.slice (kNames.map fun s => .lit (.string s)) [] : DataW Unit) = .slice ((List.range len).map fun i => .lit (.string (Sx i).data.toList)) ((List.range (m - len)).map fun j => .lit (.string (Sx (len + j)).data.toList)) := congrArg Prod.fst hx
      injection e1 with e2 e3
      have hlen : len = 10 := by have := congrArg List.length e2; simpa using this.symm
      subst hlen
      have e4 := congrArg (List.map unS) e2
      rw [List.map_map, List.map_map] at e4
      have e5 : kNames = (List.range 10).map (fun i => (Sx i).data.toList) := e4
      have hlm : 10 ≤ m := by rw [hmm]; split <;> omega
      have hcs : cs = [.slice (some a) 10 cap] := hcs
      subst hcs
      refine ⟨some a, cap, var_cell0 hg hv, some a, cap, rfl, hl, rfl, fun _ => ⟨a, rfl, fun j u hj => ?_⟩⟩
      rw [e5] at hj
      simp only [strC, List.map_map, List.getElem?_map, Option.map_eq_some_iff] at hj
      obtain ⟨i, h3, rfl⟩ := hj
      obtain ⟨h4, h5⟩ := List.getElem?_eq_some_iff.1 h3
      simp only [List.length_range, List.getElem_range] at h4 h5
      subst h5
      rw [(hii j (by omega)).1]
      exact congrArg some (strV_of _)
  · obtain ⟨ps, ⟨g, t, cs, fuel, p, q, hg, ht, hv, hd, _, _⟩, _⟩ := h8
    obtain rfl : g = 1 := Option.some.inj (hg.symm.trans (by kernel_rfl))
    obtain rfl : t = 52 := Option.some.inj (ht.symm.trans (by kernel_rfl))
    obtain ⟨cs⟩ := cs
    rcases open_ints Tryd.underlying52 Tryd.underlying3 Tryd.cz3 hd with ⟨_, hx⟩ | ⟨a, len, cap, zs, hcs, _, hl, hm, hmm, hx, hii, _⟩
    · have e1 : (DataW.slice (kCounts.map fun s => .lit (.int .i64 s)) [] : DataW Unit) = .nil := congrArg Prod.fst hx
      cases e1
    · have e1 : (DataW.slice (kCounts.map fun s => .lit (.int .i64 s)) [] : DataW Unit) = .slice (lits .i64 (zs.take len)) (lits .i64 (zs.drop len)) := congrArg Prod.fst hx
      injection e1 with e2 e3
      have hzl : len ≤ zs.length := by rw [hmm]; split <;> omega
      have e4 := congrArg (List.map unI) e2
      have e5 : kCounts = zs.take len := by
        have e6 : (lits .i64 (zs.take len) : List (DataW Unit)).map unI = zs.take len := by
          show ((zs.take len).map _).map unI = _
          rw [List.map_map]
          exact List.map_id _
        exact e4.trans e6
      have hlen : len = 10 := by have := congrArg List.length e5; rw [List.length_take] at this; simp at this; omega
      subst hlen
      have hcs : cs = [.slice (some a) 10 cap] := hcs
      subst hcs
      refine ⟨some a, cap, var_cell0 hg hv, some a, cap, rfl, hl, rfl, fun _ => ⟨a, rfl, fun j u hj => ?_⟩⟩
      rw [e5] at hj
      simp only [intCells, List.getElem?_map, Option.map_eq_some_iff] at hj
      obtain ⟨z, h3, rfl⟩ := hj
      have hj10 : j < 10 := by
        obtain ⟨h4, _⟩ := List.getElem?_eq_some_iff.1 h3
        rw [List.length_take] at h4; omega
      rw [List.getElem?_take_of_lt hj10] at h3
      rw [hii j (by omega), List.getD, h3]
      rfl
end Go.SL

