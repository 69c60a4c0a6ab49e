/- Ytebdkaadbakhlab: part WM of this seat's own texts. -/
import Derived.Test.YtebdkaadbakhlabWI
import Derived.Test.YtebdkaadbakhlabS8
import Derived.Test.YtebdkaadbakhlabU2
import Derived.Test.YtebdkaadbakhlabWH
set_option linter.unusedVariables false
set_option linter.unusedSimpArgs false

open Go Go.Proofs Go.SL
set_option maxRecDepth 100000
namespace Go.SL
def boolCells (l : List Bool) : List Value := l.map Value.bool
/-- a worker's cells -/
def wkC (x : WkL) (dv : Value) : List Value := [dv, .int .i64 (x.by_ : Int), .int .i64 (x.at_ : Int)] ++ (intCells x.g ++ (.bool x.ov :: (resCells x.rc x.rg ++ (boolCells (tab 10 x.put) ++ intCells (tab 10 x.has)))))
theorem at_app {a b : List Value} {i j : Nat} (h : i = a.length + j) : (a ++ b)[i]? = b[j]? := by
  subst h; rw [List.getElem?_append_right (by omega)]; congr 1; omega
section
variable {x : WkL} {dv : Value}
theorem wk_split (hg : x.g.length = 4) : wkC x dv = ([dv, .int .i64 (x.by_ : Int), .int .i64 (x.at_ : Int)] ++ intCells x.g) ++ (.bool x.ov :: (resCells x.rc x.rg ++ (boolCells (tab 10 x.put) ++ intCells (tab 10 x.has)))) := by
  unfold wkC; rw [List.append_assoc]
theorem wk_ov (hg : x.g.length = 4) : (wkC x dv)[0 + 7]? = some (.bool x.ov) := by
  rw [wk_split hg, at_app (j := 0) (by simp [intCells, hg])]; rfl
theorem wk_res (hg : x.g.length = 4) (hr : x.rg.length = 4) : ((wkC x dv).drop (0 + 8)).take 5 = resCells x.rc x.rg := by
  have : wkC x dv = (([dv, .int .i64 (x.by_ : Int), .int .i64 (x.at_ : Int)] ++ intCells x.g) ++ [.bool x.ov]) ++ (resCells x.rc x.rg ++ (boolCells (tab 10 x.put) ++ intCells (tab 10 x.has))) := by
    unfold wkC; simp only [List.append_assoc, List.cons_append, List.nil_append]
  rw [this, List.drop_left' (by simp [intCells, hg]), List.take_left' (by simp [intCells, resCells, hr])]
/-- what is read of it -/
structure WkV (c : View) (p : Nat) (x : WkL) : Prop where
  ov : c ⟨p, 0 + 7, none⟩ = some (.bool x.ov)
  res : Cells c ⟨p, 0 + 8, none⟩ (resCells x.rc x.rg)
theorem WkV.of {c : View} {p : Nat} (h : Cells c ⟨p, 0, none⟩ (wkC x dv)) (hg : x.g.length = 4) (hr : x.rg.length = 4) : WkV c p x := by
  refine ⟨?_, fun j v hj => ?_⟩
  · have := h (0 + 7) _ (wk_ov hg)
    rwa [add_mk] at this
  · have hlt := (List.getElem?_eq_some_iff.1 hj).1
    have h2 := h (0 + 8 + j) v (by
      have h3 := wk_res (dv := dv) hg hr
      rw [← h3, List.getElem?_take] at hj
      split at hj
      · rwa [List.getElem?_drop] at hj
      · cases hj)
    rw [add_mk] at h2 ⊢
    rwa [show 0 + (0 + 8 + j) = 0 + 8 + j from by omega] at h2
theorem WkV.mono {c c' : View} {p : Nat} (hl : Le c c') (h : WkV c p x) : WkV c' p x := ⟨hl _ _ h.ov, h.res.mono hl⟩
end
end Go.SL

