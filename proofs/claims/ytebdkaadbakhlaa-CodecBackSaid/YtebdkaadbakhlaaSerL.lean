/- Ytebdkaadbakhlaa: part SerL of this seat's own texts. -/
import Derived.Test.YtebdkaadbakhlaaDat
set_option linter.unusedVariables false
set_option linter.unusedSimpArgs false
namespace Go.SL
/-! ## serial: what a deed does, as plain Lean (over any arithmetic 'ar') -/
def intCells (l : List Int) : List Value := l.map (Value.int .i64)
def intsV (l : List Int) : Value := .agg (intCells l).toArray
theorem intCells_len (l : List Int) : (intCells l).length = l.length := by simp [intCells]
theorem ints_at (l : List Int) (i : Int) (_h0 : 0 ≤ i) (h : i < l.length) : (intCells l)[0 + i.toNat * 1]? = some (.int .i64 (l.getD i.toNat 0)) := by
  have : i.toNat < l.length := by omega
  simp [intCells, List.getD, this]
theorem set_ints (l : List Int) (i x : Int) : (intCells l).set (0 + i.toNat * 1) (.int .i64 x) = intCells (l.set i.toNat x) := by simp [intCells, List.map_set]
theorem one_intCells (l : List Int) : ∀ u ∈ (intCells l).toArray.toList, u.oneCell' = true := by
  intro u hu
  simp only [intCells, List.mem_map] at hu
  obtain ⟨x, _, rfl⟩ := hu
  rfl
theorem list4 {α : Type} {l : List α} (h : l.length = 4) : ∃ a b c d, l = [a, b, c, d] := by
  match l, h with
  | [a, b, c, d], _ => exact ⟨a, b, c, d, rfl⟩
theorem list10 {α : Type} {l : List α} (h : l.length = 10) : ∃ a b c d e f g h' i j, l = [a, b, c, d, e, f, g, h', i, j] := by
  match l, h with
  | [a, b, c, d, e, f, g, h', i, j], _ => exact ⟨a, b, c, d, e, f, g, h', i, j, rfl⟩
def gt (l : List Int) (i : Int) : Int := l.getD i.toNat 0
def st (l : List Int) (i x : Int) : List Int := l.set i.toNat x
theorem st_len (l : List Int) (i x : Int) : (st l i x).length = l.length := by simp [st]
theorem app_get0 {g s : List Int} (i : Int) (_h0 : 0 ≤ i) (h : i < g.length) : (intCells (g ++ s))[0 + 0 + i.toNat * 1]? = some (.int .i64 (gt g i)) := by
  have : i.toNat < g.length := by omega
  simp [intCells, gt, List.getD, this, List.getElem?_append_left]
theorem app_get4 {g s : List Int} (hg : g.length = 4) (i : Int) (_h0 : 0 ≤ i) (h : i < s.length) : (intCells (g ++ s))[0 + 4 + i.toNat * 1]? = some (.int .i64 (gt s i)) := by
  have : i.toNat < s.length := by omega
  have e : 0 + 4 + i.toNat * 1 = g.length + i.toNat := by omega
  rw [e]
  simp [intCells, gt, List.getD, this]
theorem app_set0 {g s : List Int} (i x : Int) (_h0 : 0 ≤ i) (h : i < g.length) : (intCells (g ++ s)).set (0 + 0 + i.toNat * 1) (.int .i64 x) = intCells (st g i x ++ s) := by
  have : i.toNat < g.length := by omega
  simp [intCells, st, List.map_set, List.set_append_left, this]
theorem app_set4 {g s : List Int} (hg : g.length = 4) (i x : Int) : (intCells (g ++ s)).set (0 + 4 + i.toNat * 1) (.int .i64 x) = intCells (g ++ st s i x) := by
  have e : 0 + 4 + i.toNat * 1 = g.length + i.toNat := by omega
  rw [e]
  simp [intCells, st, List.map_set, List.set_append_right]
/-- one operation: none: it stops; else the registers, the state, how many operations behind it are gone over -/
def stepL (ar : Int → Int → Int → Int) (o : OpL) (g s : List Int) : Option (List Int × List Int × Nat) :=
  if o.kind = 1 then some (st g o.a o.n, s, 0)
  else if o.kind = 2 then some (st g o.a (gt s o.b), s, 0)
  else if o.kind = 7 then some (g, st s o.a (gt g o.b), 0)
  else if o.kind = 8 then (if gt g o.a ≠ 0 then none else some (g, s, 0))
  else if o.kind = 9 then (if gt g o.a = 0 then some (g, s, o.b.toNat) else some (g, s, 0))
  else some (st g o.a (ar o.kind (gt g o.b) (gt g o.c)), s, 0)
section
variable (ar : Int → Int → Int → Int) {o : OpL} (g s : List Int)
theorem step_num (h : o.kind = 1) : stepL ar o g s = some (st g o.a o.n, s, 0) := by simp [stepL, h]
theorem step_load (h : o.kind = 2) : stepL ar o g s = some (st g o.a (gt s o.b), s, 0) := by simp [stepL, h]
theorem step_store (h : o.kind = 7) : stepL ar o g s = some (g, st s o.a (gt g o.b), 0) := by simp [stepL, h]
theorem step_stop (h : o.kind = 8) (hz : gt g o.a ≠ 0) : stepL ar o g s = none := by simp [stepL, h, hz]
theorem step_stay (h : o.kind = 8) (hz : ¬ gt g o.a ≠ 0) : stepL ar o g s = some (g, s, 0) := by simp only [ne_eq, Decidable.not_not] at hz; simp [stepL, h, hz]
theorem step_skip (h : o.kind = 9) (hz : gt g o.a = 0) : stepL ar o g s = some (g, s, o.b.toNat) := by simp [stepL, h, hz]
theorem step_noskip (h : o.kind = 9) (hz : ¬ gt g o.a = 0) : stepL ar o g s = some (g, s, 0) := by simp [stepL, h, hz]
theorem step_ar (h : o.kind = 3 ∨ o.kind = 4 ∨ o.kind = 5 ∨ o.kind = 6) : stepL ar o g s = some (st g o.a (ar o.kind (gt g o.b) (gt g o.c)), s, 0) := by
  unfold stepL
  rw [if_neg (by omega), if_neg (by omega), if_neg (by omega), if_neg (by omega), if_neg (by omega)]
end
/-- the registers, the state; does it stop? -/
def runF (ar : Int → Int → Int → Int) : Nat → DeedL → List Int → List Int → Bool × List Int × List Int
  | 0, _, g, s => (false, g, s)
  | _ + 1, [], g, s => (false, g, s)
  | n + 1, o :: rest, g, s =>
    match stepL ar o g s with
    | none => (true, g, s)
    | some (g', s', k) => runF ar n (rest.drop k) g' s'
theorem runF_fuel (ar : Int → Int → Int → Int) : ∀ (n m : Nat) (d : DeedL) (g s : List Int), d.length ≤ n → d.length ≤ m → runF ar n d g s = runF ar m d g s
  | 0, m, d, g, s, h, _ => by
    have : d = [] := List.eq_nil_of_length_eq_zero (by omega)
    subst this
    cases m <;> rfl
  | n + 1, m, [], g, s, _, _ => by cases m <;> rfl
  | n + 1, 0, o :: rest, g, s, _, h => by simp at h
  | n + 1, m + 1, o :: rest, g, s, h, h' => by
    simp only [runF]
    split
    · rfl
    · rename_i g' s' k _
      simp at h h'
      exact runF_fuel ar n m (rest.drop k) g' s' (by simp; omega) (by simp; omega)
def runL (ar : Int → Int → Int → Int) (d : DeedL) (g s : List Int) : Bool × List Int × List Int := runF ar d.length d g s
theorem runL_nil (ar : Int → Int → Int → Int) (g s : List Int) : runL ar [] g s = (false, g, s) := rfl
theorem runL_cons (ar : Int → Int → Int → Int) (o : OpL) (rest : DeedL) (g s : List Int) : runL ar (o :: rest) g s = match stepL ar o g s with
    | none => (true, g, s)
    | some (g', s', k) => runL ar (rest.drop k) g' s' := by
  simp only [runL, List.length_cons, runF]
  split
  · rfl
  · rename_i g' s' k _
    exact runF_fuel ar _ _ _ _ _ (by simp) (Nat.le_refl _)
theorem runL_at (ar : Int → Int → Int → Int) {d : DeedL} {k : Nat} (h : k < d.length) (g s : List Int) : runL ar (d.drop k) g s = match stepL ar d[k] g s with
    | none => (true, g, s)
    | some (g', s', j) => runL ar (d.drop (k + 1 + j)) g' s' := by
  rw [List.drop_eq_getElem_cons h, runL_cons]
  simp only [List.drop_drop]
theorem runL_end (ar : Int → Int → Int → Int) {d : DeedL} {k : Nat} (h : d.length ≤ k) (g s : List Int) : runL ar (d.drop k) g s = (false, g, s) := by
  rw [List.drop_eq_nil_of_le h]; rfl
def zero4 : List Int := [0, 0, 0, 0]
/-- a deed on a state: the state, the code, the registers -/
def doL (ar : Int → Int → Int → Int) (s : List Int) (d : DeedL) : List Int × Int × List Int :=
  let r := runL ar d zero4 s
  if r.1 = true then (s, 9, r.2.1) else (r.2.2, 0, r.2.1)
def resCells (c : Int) (g : List Int) : List Value := .int .i64 c :: intCells g
end Go.SL
