/- YtebdkaadbakhladDoor: part P5 of this seat's own texts. -/
import Derived.Sort.OwnSortedInts
import Derived.Shelf.Sort.Plain
import Derived.Shelf.Slices.In.SortNone
import Derived.Test.YtebdkaadbakhladDoorP1
import Derived.Test.YtebdkaadbakhladDoorP3
import Derived.Test.YtebdkaadbakhladDoorP2
set_option linter.unusedVariables false
set_option linter.unusedSimpArgs false
section
namespace Go.SL
end Go.SL
end
section
namespace Go.SL
open Go Go.Proofs Go.Sort
set_option maxRecDepth 100000
end Go.SL
end
section
namespace Go.SL
open Go
set_option maxRecDepth 100000
abbrev intsC (l : List Int) : List Value := l.map (Value.int .i64)
/-- a value that reads as a slice of integers -/
def IsInts (c : View) (v : Value) (l : List Int) : Prop := Rds c v 1 l.length (intsC l)
theorem IsInts.mono {c c' : View} (hl : Le c c') {v : Value} {l : List Int} (h : IsInts c v l) : IsInts c' v l := Rds.mono hl h
theorem IsInts.form {c : View} {v : Value} {l : List Int} (h : IsInts c v l) : ∃ A k, v = .slice A l.length k ∧ l.length ≤ k ∧ ∀ i (hi : i < l.length), ∃ ad, A = some ad ∧ c (ad.add (((i : Int)).toNat * 1)) = some (.int .i64 l[i]) := by
  obtain ⟨A, k, h1, h2, _, h4⟩ := h
  refine ⟨A, k, h1, h2, fun i hi => ?_⟩
  obtain ⟨ad, h6, h7⟩ := h4 (by omega)
  refine ⟨ad, h6, ?_⟩
  have := h7 i (.int .i64 l[i]) (by simp [intsC, hi])
  simpa using this
theorem IsInts.slice {c : View} {A : Option Addr} {cap lo hi : Nat} {b : List Int} (h : IsInts c (.slice A b.length cap) b) (h1 : lo ≤ hi) (h2 : hi ≤ b.length) : IsInts c (slV A lo hi cap 1) ((b.drop lo).take (hi - lo)) := by
  have h3 := slV_rds h h1 h2
  have hl : ((b.drop lo).take (hi - lo)).length = hi - lo := by simp; omega
  unfold IsInts
  rw [hl]
  simpa [intsC, List.map_take, List.map_drop] using h3
theorem IsInts.take {c : View} {A : Option Addr} {k j : Nat} {b : List Int} (h : IsInts c (.slice A b.length k) b) (hj : j ≤ b.length) : Rds c (.slice A j k) 1 j (intsC (b.take j)) := by
  have h3 := IsInts.slice (lo := 0) (hi := j) h (Nat.zero_le _) hj
  rw [slV_0', List.drop_zero, Nat.sub_zero] at h3
  have e : (b.take j).length = j := by simp; omega
  unfold IsInts at h3
  rw [e] at h3
  exact h3
theorem IsInts.drop {c : View} {A : Option Addr} {k j : Nat} {b : List Int} (h : IsInts c (.slice A b.length k) b) (hj : j ≤ b.length) : Rds c (slV A j b.length k 1) 1 (b.length - j) (intsC (b.drop j)) := by
  have h3 := IsInts.slice (lo := j) (hi := b.length) h hj (Nat.le_refl _)
  have e : (b.drop j).take (b.length - j) = b.drop j := List.take_of_length_le (by simp)
  rw [e] at h3
  have e : (b.drop j).length = b.length - j := by simp
  unfold IsInts at h3
  rw [e] at h3
  exact h3
section
variable {C : Cx} {l : Fr} {m : Hp} {ty : TypeId} {pos : String} {after : Array Edge} {dst : Option Nat} {gd : Option (Nat × Bool)}
end
end Go.SL
end
section
namespace Go.SL
open Go
set_option maxRecDepth 100000
/-- tables over numbers -/
def tab {α : Type} (N : Nat) (g : Nat → α) : List α := (List.range N).map g
/-- many chunks as one -/
def lstG (cs : List Chunk) : Gen where
  foot := feet cs
  holds := fun w => (∀ c ∈ cs, c.holds w) ∧ cs.Pairwise Disj
  lt := fun h ⟨c, hc, hb⟩ => Chunk.lt (h.1 c hc) hb
  stable := fun hs h => ⟨fun c hc => Chunk.stable (fun b hb => hs b ⟨c, hc, hb⟩) (h.1 c hc), h.2⟩
abbrev Lst (cs : List Chunk) : Chunk := .gen (lstG cs)
theorem lst_disj {cs : List Chunk} {k j : Nat} {c d : Chunk} (h : cs.Pairwise Disj) (hk : cs[k]? = some c) (hj : cs[j]? = some d) (hne : j ≠ k) : Disj c d := by
  obtain ⟨h1, rfl⟩ := List.getElem?_eq_some_iff.1 hk
  obtain ⟨h2, rfl⟩ := List.getElem?_eq_some_iff.1 hj
  rw [List.pairwise_iff_getElem] at h
  rcases Nat.lt_or_ge j k with hlt | hge
  · exact (h j k h2 h1 hlt).symm
  · exact h k j h1 h2 (by omega)
section
variable {C : Cx} {l : Fr} {m : Hp}
end
/-- rows -/
abbrev Rows (e size : Nat) (N : Nat) (hs : Nat → Value) (T : Nat → Nat × List Value) : Chunk := Lst (tab N fun k => Own (hs k) e size (T k).1 (T k).2)
end Go.SL
end
section
namespace Go.SL
open Go
set_option maxRecDepth 100000
/-- what a deed makes of a key -/
structure SlotL where
  by_ : Int
  opn : Bool
  vd : Bool
  n : Int
  deriving DecidableEq
def slotC (s : SlotL) : List Value := [.int .i64 s.by_, .bool s.opn, .bool s.vd, .int .i64 s.n]
def slotCells (l : List SlotL) : List Value := l.flatMap slotC
theorem slotCells_at : ∀ (d : List SlotL) (k : Nat) (o : SlotL), d[k]? = some o → ∀ j v, (slotC o)[j]? = some v → (slotCells d)[k * 4 + j]? = some v
  | [], k, o, h, _, _, _ => by simp at h
  | x :: d, 0, o, h, j, v, hj => by
    simp at h
    subst h
    have hlt : j < (slotC x).length := (List.getElem?_eq_some_iff.1 hj).1
    simp only [slotCells, List.flatMap_cons, Nat.zero_mul, Nat.zero_add]
    rw [List.getElem?_append_left hlt]
    exact hj
  | x :: d, k + 1, o, h, j, v, hj => by
    simp only [List.getElem?_cons_succ] at h
    have := slotCells_at d k o h j v hj
    simp only [slotCells, List.flatMap_cons] at this ⊢
    rw [List.getElem?_append_right (by simp [slotC]; omega)]
    have e : (k + 1) * 4 + j - (slotC x).length = k * 4 + j := by simp [slotC]; omega
    rw [e]
    exact this
theorem one_slotC (s : SlotL) : ∀ u ∈ (slotC s).toArray.toList, u.oneCell' = true := by
  intro u hu
  simp only [slotC, List.mem_cons, List.not_mem_nil, or_false] at hu
  rcases hu with rfl | rfl | rfl | rfl <;> rfl
def IsSlots (c : View) (v : Value) (l : List SlotL) : Prop := Rds c v 4 l.length (slotCells l)
theorem IsSlots.mono {c c' : View} (hl : Le c c') {v : Value} {l : List SlotL} (h : IsSlots c v l) : IsSlots c' v l := Rds.mono hl h
theorem IsSlots.form {c : View} {v : Value} {l : List SlotL} (h : IsSlots c v l) : ∃ A k, v = .slice A l.length k ∧ l.length ≤ k ∧ ∀ i (hi : i < l.length), ∃ ad, A = some ad ∧ Cells c (ad.add (i * 4)) (slotC l[i]) := by
  obtain ⟨A, k, h1, h2, _, h4⟩ := h
  refine ⟨A, k, h1, h2, fun i hi => ?_⟩
  obtain ⟨ad, h6, h7⟩ := h4 (by omega)
  refine ⟨ad, h6, fun j v hj => ?_⟩
  rw [add_add]
  exact h7 _ _ (slotCells_at l i _ (List.getElem?_eq_getElem hi) j v hj)
/-! ## a table, by its rows -/
end Go.SL
end
section
namespace Go.SL
section
variable {C : Cx} {l : Fr} {m : Hp} {ty t' : TypeId} {pos : String} {after : Array Edge} {dst : Option Nat} {gd : Option (Nat × Bool)} {x y : Operand}
end
end Go.SL
end
section
namespace Go.SL
open Go
set_option maxRecDepth 100000
section
variable {C : Cx} {l : Fr} {m : Hp} {ty : TypeId} {pos : String} {after : Array Edge}
theorem g_shapeW {Φ : Act → World → Prop} {v : Value} {e size n : Nat} {xs : List Value} (i : Nat) (hm : m[i]? = some (Own v e size n xs)) (hn : 0 < n) (h : ∀ g k, v = .slice (some ⟨g, 0, none⟩) n k → n ≤ k → G C l m Φ) : G C l m Φ := fun a w ha hw => by
  obtain ⟨h1, ⟨h2, h3⟩ | ⟨g, cap, cur, hv, _, _, h5, _⟩⟩ := (show w.ownsRow 0 e size v n xs from hw.mem hm)
  · omega
  · exact h g cap hv h5 a w ha hw
end
section
variable {C : Cx} {l : Fr} {m : Hp} {ty : TypeId} {pos : String} {after : Array Edge} {dst : Option Nat} {gd : Option (Nat × Bool)}
/-- a load from a row, at its place -/
theorem v_loadW2 {x : Operand} {g t e size n k j : Nat} {xs : List Value} {v : Value} {u : TypeDesc} (i : Nat) (hm : m[i]? = some (Own (.slice (some ⟨g, 0, none⟩) n k) e size n xs)) (hj : xs[j]? = some v) (ht : C.P.underlying t = some u) (hu : (match u with | .struct _ | .array _ _ => true | _ => false) = false)
    (hx : rd l x = some (.pointer (some ⟨g, j, none⟩))) : OpV C l m ⟨dst, .load t x, ty, pos, after, gd⟩ v :=
  v_load1 ht hu hx fun w hw => by
    obtain ⟨h1, ⟨h2, h3⟩ | ⟨g', cap, cur, hv, _, h4, h5, _, h7, h8⟩⟩ := (show World.ownsRow _ 0 e size (.slice (some ⟨g, 0, none⟩) n k) n xs from hw.mem hm)
    · cases h2
    · injection hv with e1 e2 e3
      injection e1 with e1
      injection e1 with e1 _ _
      subst e1
      have hblk : (Chunk.blk g e cur.toList).holds w := by simpa [Chunk.holds] using h4
      rw [blk_cell hblk]
      rw [← h8] at hj
      have hlt : j < n * size := by
        rcases Nat.lt_or_ge j (n * size) with h | h
        · exact h
        · rw [List.getElem?_eq_none (by simp; omega)] at hj; cases hj
      rw [List.getElem?_take_of_lt hlt] at hj
      exact hj
end
end Go.SL
end
