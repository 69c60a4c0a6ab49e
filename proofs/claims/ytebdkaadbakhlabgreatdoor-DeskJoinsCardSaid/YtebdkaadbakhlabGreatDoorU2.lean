/- YtebdkaadbakhlabGreatDoor: part U2 of this seat's own texts. -/
import Derived.Test.YtebdkaadbakhlabGreatDoorU1
import Derived.Test.YtebdkaadbakhlabGreatDoorW2
set_option linter.unusedVariables false
set_option linter.unusedSimpArgs false
section

open Go Go.Proofs Go.SL
set_option maxRecDepth 100000
namespace Go.SL
theorem zero10_len : zero10.length = 10 := rfl
abbrev ResL := List (Int × List Int)
def resL (rs : ResL) : List Value := rs.flatMap fun x => resCells x.1 x.2
theorem resL_app (a b : ResL) : resL (a ++ b) = resL a ++ resL b := by simp [resL]
theorem resL_one (c : Int) (g : List Int) : resL [(c, g)] = resCells c g := by simp [resL]
end Go.SL
end
section

open Go Go.Proofs Go.SL
set_option maxRecDepth 100000
namespace Go.SL
-- left out: caracole/caracoleref.All, caracole/caracoleref.Do
theorem resL_at : ∀ {a : ResL}, (∀ x ∈ a, x.2.length = 4) → ∀ {k : Nat} (hk : k < a.length) (j : Nat) (v : Value), (resCells a[k].1 a[k].2)[j]? = some v → (resL a)[k * 5 + j]? = some v
  | [], _, k, hk, _, _, _ => by simp at hk
  | x :: a, ha, 0, hk, j, v, hj => by
    have h4 := ha x (by simp)
    simp only [List.getElem_cons_zero] at hj
    simp only [resL, List.flatMap_cons, Nat.zero_mul, Nat.zero_add]
    rw [List.getElem?_append_left (List.getElem?_eq_some_iff.1 hj).1]
    exact hj
  | x :: a, ha, k + 1, hk, j, v, hj => by
    have h4 := ha x (by simp)
    have hl : (resCells x.1 x.2).length = 5 := by simp [resCells, intCells, h4]
    have := resL_at (a := a) (fun y hy => ha y (by simp [hy])) (k := k) (by simpa using hk) j v (by simpa using hj)
    simp only [resL, List.flatMap_cons]
    rw [List.getElem?_append_right (by rw [hl]; omega), hl, show (k + 1) * 5 + j - 5 = k * 5 + j from by omega]
    exact this
theorem resL_cells {c : View} {ad : Addr} {a : ResL} (ha : ∀ x ∈ a, x.2.length = 4) (h : Cells c ad (resL a)) {k : Nat} (hk : k < a.length) : Cells c (ad.add (k * 5)) (resCells a[k].1 a[k].2) := by
  intro j v hj
  rw [add_add]
  exact h _ _ (resL_at ha hk j v hj)
-- left out: caracole/caracoleref.SameResults
end Go.SL
end
