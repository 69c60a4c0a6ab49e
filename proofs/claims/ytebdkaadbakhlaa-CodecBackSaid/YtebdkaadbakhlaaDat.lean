/- Ytebdkaadbakhlaa: part Dat of this seat's own texts. -/
import Derived.Test.YtebdkaadbakhlaaDraw
set_option linter.unusedVariables false
set_option linter.unusedSimpArgs false
namespace Go.SL
open Go.RowKit
/-! ## The data of the program, as plain Lean -/
structure OpL where
  kind : Int
  a : Int
  b : Int
  c : Int
  n : Int
  deriving DecidableEq
def i64 (x : Int) : Value := .int .i64 x
def opCells (o : OpL) : List Value := [.int .i64 o.kind, .int .i64 o.a, .int .i64 o.b, .int .i64 o.c, .int .i64 o.n]
def opV (o : OpL) : Value := .agg #[.int .i64 o.kind, .int .i64 o.a, .int .i64 o.b, .int .i64 o.c, .int .i64 o.n]
abbrev DeedL := List OpL
abbrev RoundL := List DeedL
def deedCells (d : DeedL) : List Value := d.flatMap opCells
/-- a value that reads as a deed -/
def IsDeed (c : View) (v : Value) (d : DeedL) : Prop := Rds c v 5 d.length (deedCells d)
/-- a value that reads as a round -/
def IsRound (c : View) (v : Value) (r : RoundL) : Prop := ∃ vs : List Value, Rds c v 1 r.length vs ∧ ∀ i (h : i < r.length), ∃ u, vs[i]? = some u ∧ IsDeed c u r[i]
theorem IsDeed.mono {c c' : View} (hl : Le c c') {v : Value} {d : DeedL} (h : IsDeed c v d) : IsDeed c' v d := Rds.mono hl h
theorem IsRound.mono {c c' : View} (hl : Le c c') {v : Value} {r : RoundL} (h : IsRound c v r) : IsRound c' v r := by
  obtain ⟨vs, h1, h2⟩ := h
  exact ⟨vs, h1.mono hl, fun i hi => let ⟨u, h3, h4⟩ := h2 i hi; ⟨u, h3, h4.mono hl⟩⟩
theorem deedCells_len (d : DeedL) : (deedCells d).length = d.length * 5 := by
  induction d with
  | nil => rfl
  | cons o d ih => simp only [deedCells, List.flatMap_cons, List.length_append, List.length_cons] at ih ⊢; rw [ih]; simp [opCells]; omega
theorem deedCells_at : ∀ (d : DeedL) (k : Nat) (o : OpL), d[k]? = some o → ∀ j v, (opCells o)[j]? = some v → (deedCells d)[k * 5 + j]? = some v
  | [], k, o, h, _, _, _ => by simp at h
  | x :: d, 0, o, h, j, v, hj => by
    simp at h
    subst h
    have hlt : j < (opCells x).length := (List.getElem?_eq_some_iff.1 hj).1
    simp only [deedCells, List.flatMap_cons, Nat.zero_mul, Nat.zero_add]
    rw [List.getElem?_append_left hlt]
    exact hj
  | x :: d, k + 1, o, h, j, v, hj => by
    simp only [List.getElem?_cons_succ] at h
    have := deedCells_at d k o h j v hj
    simp only [deedCells, List.flatMap_cons] at this ⊢
    rw [List.getElem?_append_right (by simp [opCells]; omega)]
    have e : (k + 1) * 5 + j - (opCells x).length = k * 5 + j := by simp [opCells]; omega
    rw [e]
    exact this
theorem add_add (a : Addr) (i j : Nat) : (a.add i).add j = a.add (i + j) := by
  unfold Addr.add
  by_cases hi : i = 0 <;> by_cases hj : j = 0 <;> simp [hi, hj, Nat.add_assoc]
/-- an operation of a deed, whole -/
theorem deed_op {c : View} {ad : Addr} {d : DeedL} (h : Cells c ad (deedCells d)) {k : Nat} {o : OpL} (ho : d[k]? = some o) : Cells c (ad.add (k * 5)) (opCells o) := by
  intro j v hj
  rw [add_add]
  exact h _ _ (deedCells_at d k o ho j v hj)
theorem IsDeed.form {c : View} {v : Value} {d : DeedL} (h : IsDeed c v d) : ∃ A k, v = .slice A d.length k ∧ d.length ≤ k ∧ (d ≠ [] → ∃ ad, A = some ad ∧ Cells c ad (deedCells d)) := by
  obtain ⟨A, k, h1, h2, _, h4⟩ := h
  exact ⟨A, k, h1, h2, fun hn => h4 (List.length_pos_iff.2 hn)⟩
/-- zero-based element facts in a form for index variables over Int -/
theorem get_toNat {α : Type} {l : List α} {k : Nat} (h : k < l.length) : l[((k : Int)).toNat]? = some l[k] := by simp [h]
end Go.SL
