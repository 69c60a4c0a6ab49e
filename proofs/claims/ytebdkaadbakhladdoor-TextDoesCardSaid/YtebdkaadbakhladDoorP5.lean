/- YtebdkaadbakhladDoor: part P5 of this seat's own texts. -/
import Derived.Sort.OwnSortedInts
import Derived.Shelf.Sort.Plain
import Derived.Shelf.Slices.In.SortNone
import Derived.Test.YtebdkaadbakhladDoorP1
import Derived.Test.YtebdkaadbakhladDoorP3
import Derived.Test.YtebdkaadbakhladDoorP2
set_option linter.unusedVariables false
set_option linter.unusedSimpArgs false
section
namespace Go.SL
end Go.SL
end
section
namespace Go.SL
open Go Go.Proofs Go.Sort
set_option maxRecDepth 100000
end Go.SL
end
section
namespace Go.SL
open Go
set_option maxRecDepth 100000
abbrev intsC (l : List Int) : List Value := l.map (Value.int .i64)
/-- a value that reads as a slice of integers -/
def IsInts (c : View) (v : Value) (l : List Int) : Prop := Rds c v 1 l.length (intsC l)
theorem IsInts.mono {c c' : View} (hl : Le c c') {v : Value} {l : List Int} (h : IsInts c v l) : IsInts c' v l := Rds.mono hl h
theorem IsInts.form {c : View} {v : Value} {l : List Int} (h : IsInts c v l) : ∃ A k, v = .slice A l.length k ∧ l.length ≤ k ∧ ∀ i (hi : i < l.length), ∃ ad, A = some ad ∧ c (ad.add (((i : Int)).toNat * 1)) = some (.int .i64 l[i]) := by
  obtain ⟨A, k, h1, h2, _, h4⟩ := h
  refine ⟨A, k, h1, h2, fun i hi => ?_⟩
  obtain ⟨ad, h6, h7⟩ := h4 (by omega)
  refine ⟨ad, h6, ?_⟩
  have := h7 i (.int .i64 l[i]) (by simp [intsC, hi])
  simpa using this
theorem IsInts.slice {c : View} {A : Option Addr} {cap lo hi : Nat} {b : List Int} (h : IsInts c (.slice A b.length cap) b) (h1 : lo ≤ hi) (h2 : hi ≤ b.length) : IsInts c (slV A lo hi cap 1) ((b.drop lo).take (hi - lo)) := by
  have h3 := slV_rds h h1 h2
  have hl : ((b.drop lo).take (hi - lo)).length = hi - lo := by simp; omega
  unfold IsInts
  rw [hl]
  simpa [intsC, List.map_take, List.map_drop] using h3
theorem IsInts.take {c : View} {A : Option Addr} {k j : Nat} {b : List Int} (h : IsInts c (.slice A b.length k) b) (hj : j ≤ b.length) : Rds c (.slice A j k) 1 j (intsC (b.take j)) := by
  have h3 := IsInts.slice (lo := 0) (hi := j) h (Nat.zero_le _) hj
  rw [slV_0', List.drop_zero, Nat.sub_zero] at h3
  have e : (b.take j).length = j := by simp; omega
  unfold IsInts at h3
  rw [e] at h3
  exact h3
theorem IsInts.drop {c : View} {A : Option Addr} {k j : Nat} {b : List Int} (h : IsInts c (.slice A b.length k) b) (hj : j ≤ b.length) : Rds c (slV A j b.length k 1) 1 (b.length - j) (intsC (b.drop j)) := by
  have h3 := IsInts.slice (lo := j) (hi := b.length) h hj (Nat.le_refl _)
  have e : (b.drop j).take (b.length - j) = b.drop j := List.take_of_length_le (by simp)
  rw [e] at h3
  have e : (b.drop j).length = b.length - j := by simp
  unfold IsInts at h3
  rw [e] at h3
  exact h3
section
variable {C : Cx} {l : Fr} {m : Hp} {ty : TypeId} {pos : String} {after : Array Edge} {dst : Option Nat} {gd : Option (Nat × Bool)}
theorem g_shape2 {Φ : Act → World → Prop} {v : Value} {e size n : Nat} {xs : List Value} (i : Nat) (hm : m[i]? = some (Own v e size n xs)) (h : ∀ A k, v = .slice A n k → n ≤ k → (0 < n → ∃ ad, A = some ad) → G C l m Φ) : G C l m Φ := fun a w ha hw => by
  obtain ⟨A, k, h1, h2, _, h3⟩ := own_rds (hw.mem hm)
  exact h A k h1 h2 (fun hn => let ⟨ad, e, _⟩ := h3 hn; ⟨ad, e⟩) a w ha hw
theorem v_loadW {x : Operand} {ad : Addr} {t e size n k j : Nat} {xs : List Value} {v : Value} {u : TypeDesc} (i : Nat) (hm : m[i]? = some (Own (.slice (some ad) n k) e size n xs)) (hn : 0 < n) (hj : xs[j]? = some v) (ht : C.P.underlying t = some u) (hu : (match u with | .struct _ | .array _ _ => true | _ => false) = false)
    (hx : rd l x = some (.pointer (some (ad.add j)))) : OpV C l m ⟨dst, .load t x, ty, pos, after, gd⟩ v :=
  v_load1 ht hu hx fun _ hw => by
    obtain ⟨A, k', h1, _, _, h3⟩ := own_rds (hw.mem hm)
    obtain ⟨ad', h4, h5⟩ := h3 hn
    injection h1 with e1 e2 e3
    subst e1
    injection h4 with h4
    subst h4
    exact h5 j v hj
end
end Go.SL
end
section
namespace Go.SL
open Go
set_option maxRecDepth 100000
/-- tables over numbers -/
def tab {α : Type} (N : Nat) (g : Nat → α) : List α := (List.range N).map g
/-- many chunks as one -/
def lstG (cs : List Chunk) : Gen where
  foot := feet cs
  holds := fun w => (∀ c ∈ cs, c.holds w) ∧ cs.Pairwise Disj
  lt := fun h ⟨c, hc, hb⟩ => Chunk.lt (h.1 c hc) hb
  stable := fun hs h => ⟨fun c hc => Chunk.stable (fun b hb => hs b ⟨c, hc, hb⟩) (h.1 c hc), h.2⟩
abbrev Lst (cs : List Chunk) : Chunk := .gen (lstG cs)
theorem lst_disj {cs : List Chunk} {k j : Nat} {c d : Chunk} (h : cs.Pairwise Disj) (hk : cs[k]? = some c) (hj : cs[j]? = some d) (hne : j ≠ k) : Disj c d := by
  obtain ⟨h1, rfl⟩ := List.getElem?_eq_some_iff.1 hk
  obtain ⟨h2, rfl⟩ := List.getElem?_eq_some_iff.1 hj
  rw [List.pairwise_iff_getElem] at h
  rcases Nat.lt_or_ge j k with hlt | hge
  · exact (h j k h2 h1 hlt).symm
  · exact h k j h1 h2 (by omega)
section
variable {C : Cx} {l : Fr} {m : Hp}
end
/-- rows -/
abbrev Rows (e size : Nat) (N : Nat) (hs : Nat → Value) (T : Nat → Nat × List Value) : Chunk := Lst (tab N fun k => Own (hs k) e size (T k).1 (T k).2)
end Go.SL
end
section
namespace Go.SL
open Go
set_option maxRecDepth 100000
/-- what a deed makes of a key -/
structure SlotL where
  by_ : Int
  opn : Bool
  vd : Bool
  n : Int
  deriving DecidableEq
def slotC (s : SlotL) : List Value := [.int .i64 s.by_, .bool s.opn, .bool s.vd, .int .i64 s.n]
def slotCells (l : List SlotL) : List Value := l.flatMap slotC
theorem slotCells_at : ∀ (d : List SlotL) (k : Nat) (o : SlotL), d[k]? = some o → ∀ j v, (slotC o)[j]? = some v → (slotCells d)[k * 4 + j]? = some v
  | [], k, o, h, _, _, _ => by simp at h
  | x :: d, 0, o, h, j, v, hj => by
    simp at h
    subst h
    have hlt : j < (slotC x).length := (List.getElem?_eq_some_iff.1 hj).1
    simp only [slotCells, List.flatMap_cons, Nat.zero_mul, Nat.zero_add]
    rw [List.getElem?_append_left hlt]
    exact hj
  | x :: d, k + 1, o, h, j, v, hj => by
    simp only [List.getElem?_cons_succ] at h
    have := slotCells_at d k o h j v hj
    simp only [slotCells, List.flatMap_cons] at this ⊢
    rw [List.getElem?_append_right (by simp [slotC]; omega)]
    have e : (k + 1) * 4 + j - (slotC x).length = k * 4 + j := by simp [slotC]; omega
    rw [e]
    exact this
theorem one_slotC (s : SlotL) : ∀ u ∈ (slotC s).toArray.toList, u.oneCell' = true := by
  intro u hu
  simp only [slotC, List.mem_cons, List.not_mem_nil, or_false] at hu
  rcases hu with rfl | rfl | rfl | rfl <;> rfl
def IsSlots (c : View) (v : Value) (l : List SlotL) : Prop := Rds c v 4 l.length (slotCells l)
theorem IsSlots.mono {c c' : View} (hl : Le c c') {v : Value} {l : List SlotL} (h : IsSlots c v l) : IsSlots c' v l := Rds.mono hl h
theorem IsSlots.form {c : View} {v : Value} {l : List SlotL} (h : IsSlots c v l) : ∃ A k, v = .slice A l.length k ∧ l.length ≤ k ∧ ∀ i (hi : i < l.length), ∃ ad, A = some ad ∧ Cells c (ad.add (i * 4)) (slotC l[i]) := by
  obtain ⟨A, k, h1, h2, _, h4⟩ := h
  refine ⟨A, k, h1, h2, fun i hi => ?_⟩
  obtain ⟨ad, h6, h7⟩ := h4 (by omega)
  refine ⟨ad, h6, fun j v hj => ?_⟩
  rw [add_add]
  exact h7 _ _ (slotCells_at l i _ (List.getElem?_eq_getElem hi) j v hj)
/-! ## a table, by its rows -/
end Go.SL
end
section
namespace Go.SL
/-- a struct of two integers -/
def twoV (p : Int × Int) : Value := .agg #[.int .i64 p.1, .int .i64 p.2]
theorem run_equalTwo {P : Program} {t ti : TypeId} {f0 f1 : Field} (ht : P.underlying t = some (.struct #[f0, f1])) (hp : P.stoodInHeld t = false)
    (h0 : (f0.name != "_" && f1.name != "_" && Nat.beq f0.offset 0 && Nat.beq f1.offset 1) = true)
    (hf0 : f0.type = ti) (hf1 : f1.type = ti) (hi : P.underlying ti = some (.int .i64)) (o o' : Int × Int) (w : World) :
    (Op.equalIn 10000 t (twoV o) (twoV o')).run P w = .ok (decide (o = o')) w := by
  simp only [Bool.and_eq_true, bne_iff_ne, ne_eq] at h0
  obtain ⟨⟨⟨n0, n1⟩, o0⟩, o1⟩ := h0
  have o0 := Nat.eq_of_beq_eq_true o0
  have o1 := Nat.eq_of_beq_eq_true o1
  have hfs : P.fieldsOf t = #[f0, f1] := by simp [Program.fieldsOf, ht]
  have hpi : P.plainKey ti = true := by simp [Program.plainKey, hi]
  obtain ⟨k, a⟩ := o
  obtain ⟨k', a'⟩ := o'
  have part1 : ∀ {tt : TypeId} (_ : P.plainKey tt = true) (k a : Int) (j : Nat) (v : Value), (#[.int .i64 k, .int .i64 a] : Array Value)[j]? = some v → (part tt #[.int .i64 k, .int .i64 a] j).run P w = .ok v w := fun h k a j v hj => run_part_plain w h hj
  unfold twoV
  rw [run_equalIn_struct w 9999 t _ _ (by rw [hfs]; exact ht) hp, hfs]
  simp only [Op.eqFields, ne_eq, n0, n1, not_false_eq_true, if_true, o0, o1, hf0, hf1, Sem.run_bind, part1 hpi _ _ 0 _ rfl, part1 hpi _ _ 1 _ rfl, Result.andThen_ok, run_equalIn_int w 9998 ti .i64 .i64 _ _ hi]
  by_cases e1 : k = k' <;> by_cases e2 : a = a' <;>
    simp [e1, e2, part1 hpi _ _ 1 _ rfl, run_equalIn_int w 9998 ti .i64 .i64 _ _ hi]
section
variable {C : Cx} {l : Fr} {m : Hp} {ty t' : TypeId} {pos : String} {after : Array Edge} {dst : Option Nat} {gd : Option (Nat × Bool)} {x y : Operand}
theorem v_eqlTwo {t ti : TypeId} {f0 f1 : Field} (ht : C.P.underlying t = some (.struct #[f0, f1])) (hp : C.P.stoodInHeld t = false) (hm : C.P.eqGuardType C.P.depth t = false)
    (h0 : (f0.name != "_" && f1.name != "_" && Nat.beq f0.offset 0 && Nat.beq f1.offset 1) = true)
    (hf0 : f0.type = ti) (hf1 : f1.type = ti) (hi : C.P.underlying ti = some (.int .i64)) {o o' : Int × Int}
    (hx : rd l x = some (twoV o)) (hy : rd l y = some (twoV o')) : OpV C l m ⟨dst, .binOp .eql t x y t', ty, pos, after, gd⟩ (.bool (decide (o = o'))) :=
  fun a w ha _ => by
    have h1 := run_equalTwo ht hp h0 hf0 hf1 hi o o' w
    simp only [twoV] at h1
    simp only [execOp, rd_eval ha.knows hx, rd_eval ha.knows hy, twoV, Sem.run_bind, run_eqGuard_agg _ _ _ _ _ _ _ hm, Result.andThen_ok, run_eql_struct, h1]
    simp
end
end Go.SL
end
section
namespace Go.SL
open Go
set_option maxRecDepth 100000
theorem run_store_own {P : Program} {w : World} {t : TypeId} {g n cap e size o : Nat} {xs : List Value} {v : Value} (h : (Own (.slice (some ⟨g, 0, none⟩) n cap) e size n xs).holds w) (hi : P.info? t ≠ none) (hn : P.cellsOf t = v.cells.size) (ho : o + v.cells.size ≤ xs.length) (h1 : ∀ u ∈ v.cells.toList, u.oneCell' = true) :
    ∃ w', (Instr.storeAt t (.pointer (some ⟨g, o, none⟩)) v).run P w = .ok () w' ∧ Res w [Own (.slice (some ⟨g, 0, none⟩) n cap) e size n xs] [Own (.slice (some ⟨g, 0, none⟩) n cap) e size n (xs.take o ++ v.cells.toList ++ xs.drop (o + v.cells.size))] w' := by
  obtain ⟨hl, ⟨h2, _⟩ | ⟨g', cap', cur, hv, h3, h4, h5, h6, h7, h8⟩⟩ := (show w.ownsRow 0 e size (.slice (some ⟨g, 0, none⟩) n cap) n xs from h)
  · cases h2
  · injection hv with e1 e2 e3
    injection e1 with e1
    injection e1 with e1 _ _
    subst e1
    subst e3
    have hblk : (Chunk.blk g e cur.toList).holds w := by simpa [Chunk.holds] using h4
    have hle : n * size ≤ cap * size := Nat.mul_le_mul_right _ h5
    have hcl : cur.toList.length = cap * size := by simpa using h7
    obtain ⟨w', hrun, hres⟩ := run_store_blk (P := P) (o := o) (v := v) hblk hi hn (by omega) h1
    have hnew := hres.hold _ (List.mem_singleton.2 rfl)
    refine ⟨w', hrun, ⟨hres.chg.os, hres.chg.tape, hres.chg.output, hres.chg.size, fun b hb hf => hres.chg.block b hb (fun ⟨c, hc, hcb⟩ => ?_)⟩, ?_, by simp, ?_⟩
    · simp only [List.mem_singleton] at hc
      subst hc
      refine hf ⟨_, List.mem_singleton.2 rfl, ?_⟩
      show some g = some b
      have hcb : b = g := hcb
      rw [hcb]
    · intro c hc
      simp only [List.mem_singleton] at hc
      subst hc
      refine ⟨?_, .inr ⟨g, cap, _, rfl, h3, hnew, h5, h6, ?_, ?_⟩⟩
      · simp; omega
      · simp; simp at hcl; omega
      · rw [← h8]
        simp only [List.toList_toArray]
        have e1 : (cur.toList.take o).length = o := by simp; simp at hcl; omega
        rw [List.append_assoc, List.append_assoc, List.take_append, List.take_append, e1]
        rw [List.take_take, List.take_take, show min (n * size) o = o from by omega, show min o (n * size) = o from by omega]
        rw [List.take_of_length_le (l := v.cells.toList) (by simp; omega)]
        rw [List.drop_take]
        simp only [Array.length_toList]
        rw [show n * size - o - v.cells.size = n * size - (o + v.cells.size) from by omega]
    · intro c hc b hb
      simp only [List.mem_singleton] at hc
      subst hc
      exact .inr ⟨_, List.mem_singleton.2 rfl, hb⟩
section
variable {C : Cx} {l : Fr} {m : Hp} {ty : TypeId} {pos : String} {after : Array Edge}
theorem x_storeW {Φ : Act → World → Prop} {Q : Exit → Act → World → Prop} {x y : Operand} {v : Value} {t : TypeId} {g n cap e size o : Nat} {xs : List Value} (i : Nat) (hm : m[i]? = some (Own (.slice (some ⟨g, 0, none⟩) n cap) e size n xs)) (hx : rd l x = some (.pointer (some ⟨g, o, none⟩))) (hy : rd l y = some v)
    (hi : C.P.info? t ≠ none) (hn : C.P.cellsOf t = v.cells.size) (ho : o + v.cells.size ≤ xs.length) (h1 : ∀ u ∈ v.cells.toList, u.oneCell' = true) (xs' : List Value) (hxs : xs.take o ++ v.cells.toList ++ xs.drop (o + v.cells.size) = xs')
    (h : G C l (m.set i (Own (.slice (some ⟨g, 0, none⟩) n cap) e size n xs')) Φ) : G C l m (fun a w => Oper.wp C.P ⟨none, .store t x y, ty, pos, after, none⟩ a w Φ Q) := by
  intro a w ha hw
  obtain ⟨w', hrun, hres⟩ := run_store_own (P := C.P) (hw.mem hm) hi hn ho h1
  rw [hxs] at hres
  have : (execOp a.eval (⟨none, .store t x y, ty, pos, after, none⟩ : Oper)).run C.P w = .ok .skip w' := by
    simp [execOp, rd_eval ha.knows hx, rd_eval ha.knows hy, hrun]
  unfold Oper.wp
  rw [this]
  exact h _ _ ha (hw.at_ hm hres)
theorem g_shapeW {Φ : Act → World → Prop} {v : Value} {e size n : Nat} {xs : List Value} (i : Nat) (hm : m[i]? = some (Own v e size n xs)) (hn : 0 < n) (h : ∀ g k, v = .slice (some ⟨g, 0, none⟩) n k → n ≤ k → G C l m Φ) : G C l m Φ := fun a w ha hw => by
  obtain ⟨h1, ⟨h2, h3⟩ | ⟨g, cap, cur, hv, _, _, h5, _⟩⟩ := (show w.ownsRow 0 e size v n xs from hw.mem hm)
  · omega
  · exact h g cap hv h5 a w ha hw
end
section
variable {C : Cx} {l : Fr} {m : Hp} {ty : TypeId} {pos : String} {after : Array Edge} {dst : Option Nat} {gd : Option (Nat × Bool)}
/-- a load from a row, at its place -/
theorem v_loadW2 {x : Operand} {g t e size n k j : Nat} {xs : List Value} {v : Value} {u : TypeDesc} (i : Nat) (hm : m[i]? = some (Own (.slice (some ⟨g, 0, none⟩) n k) e size n xs)) (hj : xs[j]? = some v) (ht : C.P.underlying t = some u) (hu : (match u with | .struct _ | .array _ _ => true | _ => false) = false)
    (hx : rd l x = some (.pointer (some ⟨g, j, none⟩))) : OpV C l m ⟨dst, .load t x, ty, pos, after, gd⟩ v :=
  v_load1 ht hu hx fun w hw => by
    obtain ⟨h1, ⟨h2, h3⟩ | ⟨g', cap, cur, hv, _, h4, h5, _, h7, h8⟩⟩ := (show World.ownsRow _ 0 e size (.slice (some ⟨g, 0, none⟩) n k) n xs from hw.mem hm)
    · cases h2
    · injection hv with e1 e2 e3
      injection e1 with e1
      injection e1 with e1 _ _
      subst e1
      have hblk : (Chunk.blk g e cur.toList).holds w := by simpa [Chunk.holds] using h4
      rw [blk_cell hblk]
      rw [← h8] at hj
      have hlt : j < n * size := by
        rcases Nat.lt_or_ge j (n * size) with h | h
        · exact h
        · rw [List.getElem?_eq_none (by simp; omega)] at hj; cases hj
      rw [List.getElem?_take_of_lt hlt] at hj
      exact hj
end
end Go.SL
end
