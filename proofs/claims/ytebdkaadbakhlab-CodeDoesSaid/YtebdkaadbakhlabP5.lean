/- Ytebdkaadbakhlab: part P5 of this seat's own texts. -/
import Derived.Sort.OwnSortedInts
import Derived.Shelf.Sort.Plain
import Derived.Shelf.Slices.In.SortNone
import Derived.Test.YtebdkaadbakhlabP2
import Derived.Test.YtebdkaadbakhlabP1
import Derived.Test.YtebdkaadbakhlabP3
set_option linter.unusedVariables false
set_option linter.unusedSimpArgs false
section
namespace Go.SL
/-- a struct of two integers -/
def twoV (p : Int × Int) : Value := .agg #[.int .i64 p.1, .int .i64 p.2]
theorem run_equalTwo {P : Program} {t ti : TypeId} {f0 f1 : Field} (ht : P.underlying t = some (.struct #[f0, f1])) (hp : P.stoodInHeld t = false)
    (h0 : (f0.name != "_" && f1.name != "_" && Nat.beq f0.offset 0 && Nat.beq f1.offset 1) = true)
    (hf0 : f0.type = ti) (hf1 : f1.type = ti) (hi : P.underlying ti = some (.int .i64)) (o o' : Int × Int) (w : World) :
    (Op.equalIn 10000 t (twoV o) (twoV o')).run P w = .ok (decide (o = o')) w := by
  simp only [Bool.and_eq_true, bne_iff_ne, ne_eq] at h0
  obtain ⟨⟨⟨n0, n1⟩, o0⟩, o1⟩ := h0
  have o0 := Nat.eq_of_beq_eq_true o0
  have o1 := Nat.eq_of_beq_eq_true o1
  have hfs : P.fieldsOf t = #[f0, f1] := by simp [Program.fieldsOf, ht]
  have hpi : P.plainKey ti = true := by simp [Program.plainKey, hi]
  obtain ⟨k, a⟩ := o
  obtain ⟨k', a'⟩ := o'
  have part1 : ∀ {tt : TypeId} (_ : P.plainKey tt = true) (k a : Int) (j : Nat) (v : Value), (#[.int .i64 k, .int .i64 a] : Array Value)[j]? = some v → (part tt #[.int .i64 k, .int .i64 a] j).run P w = .ok v w := fun h k a j v hj => run_part_plain w h hj
  unfold twoV
  rw [run_equalIn_struct w 9999 t _ _ (by rw [hfs]; exact ht) hp, hfs]
  simp only [Op.eqFields, ne_eq, n0, n1, not_false_eq_true, if_true, o0, o1, hf0, hf1, Sem.run_bind, part1 hpi _ _ 0 _ rfl, part1 hpi _ _ 1 _ rfl, Result.andThen_ok, run_equalIn_int w 9998 ti .i64 .i64 _ _ hi]
  by_cases e1 : k = k' <;> by_cases e2 : a = a' <;>
    simp [e1, e2, part1 hpi _ _ 1 _ rfl, run_equalIn_int w 9998 ti .i64 .i64 _ _ hi]
section
variable {C : Cx} {l : Fr} {m : Hp} {ty t' : TypeId} {pos : String} {after : Array Edge} {dst : Option Nat} {gd : Option (Nat × Bool)} {x y : Operand}
theorem v_field {t : TypeId} {fs : Array Field} {f : Field} {i : Nat} {cs : Array Value} {v : Value} (ht : C.P.underlying t = some (.struct fs)) (hf : fs[i]? = some f) (hp : C.P.plainKey f.type = true) (hx : rd l x = some (.agg cs)) (hv : cs[f.offset]? = some v) : OpV C l m ⟨dst, .field t x i, ty, pos, after, gd⟩ v := fun a w ha _ => by
  simp [execOp, rd_eval ha.knows hx, Instr.field, run_underlying ht, hf, asAgg, run_part_plain w hp hv]
theorem v_neqTwo {t ti : TypeId} {f0 f1 : Field} (ht : C.P.underlying t = some (.struct #[f0, f1])) (hp : C.P.stoodInHeld t = false) (hm : C.P.eqGuardType C.P.depth t = false)
    (h0 : (f0.name != "_" && f1.name != "_" && Nat.beq f0.offset 0 && Nat.beq f1.offset 1) = true)
    (hf0 : f0.type = ti) (hf1 : f1.type = ti) (hi : C.P.underlying ti = some (.int .i64)) {o o' : Int × Int}
    (hx : rd l x = some (twoV o)) (hy : rd l y = some (twoV o')) : OpV C l m ⟨dst, .binOp .neq t x y t', ty, pos, after, gd⟩ (.bool (decide (¬ o = o'))) :=
  fun a w ha _ => by
    have h1 := run_equalTwo ht hp h0 hf0 hf1 hi o o' w
    simp only [twoV] at h1
    simp only [execOp, rd_eval ha.knows hx, rd_eval ha.knows hy, twoV, Sem.run_bind, run_eqGuard_agg _ _ _ _ _ _ _ hm, Result.andThen_ok, run_neq_struct, h1]
    simp
theorem v_eqlTwo {t ti : TypeId} {f0 f1 : Field} (ht : C.P.underlying t = some (.struct #[f0, f1])) (hp : C.P.stoodInHeld t = false) (hm : C.P.eqGuardType C.P.depth t = false)
    (h0 : (f0.name != "_" && f1.name != "_" && Nat.beq f0.offset 0 && Nat.beq f1.offset 1) = true)
    (hf0 : f0.type = ti) (hf1 : f1.type = ti) (hi : C.P.underlying ti = some (.int .i64)) {o o' : Int × Int}
    (hx : rd l x = some (twoV o)) (hy : rd l y = some (twoV o')) : OpV C l m ⟨dst, .binOp .eql t x y t', ty, pos, after, gd⟩ (.bool (decide (o = o'))) :=
  fun a w ha _ => by
    have h1 := run_equalTwo ht hp h0 hf0 hf1 hi o o' w
    simp only [twoV] at h1
    simp only [execOp, rd_eval ha.knows hx, rd_eval ha.knows hy, twoV, Sem.run_bind, run_eqGuard_agg _ _ _ _ _ _ _ hm, Result.andThen_ok, run_eql_struct, h1]
    simp
end
end Go.SL
end
section
namespace Go.SL
/-- the keys of a deed's stores, in a row, as they come -/
def storesOf (d : List OpL) : List Int := (d.filter fun o => decide (o.kind = 7)).map fun o => o.a
def onceL : List Int → List Int
  | [] => []
  | x :: t => x :: (onceL t).filter fun y => decide (y ≠ x)
theorem onceL_mem {x : Int} : ∀ {l : List Int}, x ∈ onceL l ↔ x ∈ l
  | [] => Iff.rfl
  | a :: t => by
    simp only [onceL, List.mem_cons, List.mem_filter, onceL_mem (l := t), decide_eq_true_eq]
    constructor
    · rintro (h | ⟨h, _⟩)
      · exact .inl h
      · exact .inr h
    · rintro (h | h)
      · exact .inl h
      · by_cases hx : x = a
        · exact .inl hx
        · exact .inr ⟨h, hx⟩
theorem onceL_nodup : ∀ {l : List Int}, (onceL l).Nodup
  | [] => List.nodup_nil
  | a :: t => by
    refine List.nodup_cons.2 ⟨?_, (onceL_nodup (l := t)).filter _⟩
    simp [List.mem_filter]
/-- the keys of a deed: each once, rising -/
def keysL (d : List OpL) : List Int := (onceL (storesOf d)).mergeSort fun x y => decide (x ≤ y)
theorem sort_mem {l : List Int} {x : Int} : x ∈ l.mergeSort (fun x y => decide (x ≤ y)) ↔ x ∈ l := (List.mergeSort_perm l _).mem_iff
theorem sort_ris {l : List Int} (h : l.Nodup) : (l.mergeSort fun x y => decide (x ≤ y)).Pairwise (· < ·) := by
  have h1 := List.pairwise_mergeSort (le := fun x y : Int => decide (x ≤ y)) (fun a b c h1 h2 => by simp at h1 h2 ⊢; omega) (fun a b => by simp; omega) l
  have h2 : (l.mergeSort fun x y => decide (x ≤ y)).Nodup := (List.mergeSort_perm l _).nodup_iff.2 h
  refine (h1.and h2).imp ?_
  rintro a b ⟨h3, h4⟩
  simp at h3
  have h4 : a ≠ b := h4
  omega
theorem keysL_ris (d : List OpL) : (keysL d).Pairwise (· < ·) := sort_ris onceL_nodup
theorem keysL_mem {d : List OpL} {x : Int} : x ∈ keysL d ↔ x ∈ storesOf d := sort_mem.trans onceL_mem
theorem ris_uniq {a b : List Int} (ha : a.Pairwise (· < ·)) (hb : b.Pairwise (· < ·)) (h : ∀ x, x ∈ a ↔ x ∈ b) : a = b := by
  have hp : a.Perm b := (List.perm_ext_iff_of_nodup (ha.imp fun h e => by omega) (hb.imp fun h e => by omega)).2 h
  exact hp.eq_of_pairwise (fun x y _ _ h1 h2 => by omega) ha hb
theorem keysL_is {d : List OpL} {a : List Int} (ha : a.Pairwise (· < ·)) (h : ∀ x, x ∈ a ↔ x ∈ storesOf d) : a = keysL d := ris_uniq ha (keysL_ris d) (fun x => (h x).trans keysL_mem.symm)
theorem keysL_sorted {d : List OpL} {a : List Int} (ha : a.Nodup) (h : ∀ x, x ∈ a ↔ x ∈ storesOf d) : (a.mergeSort fun x y => decide (x ≤ y)) = keysL d := keysL_is (sort_ris ha) (fun x => sort_mem.trans (h x))
theorem storesOf_mem {d : List OpL} {x : Int} : x ∈ storesOf d ↔ ∃ o ∈ d, o.kind = 7 ∧ o.a = x := by
  simp only [storesOf, List.mem_map, List.mem_filter, decide_eq_true_eq]
  constructor
  · rintro ⟨o, ⟨h1, h2⟩, h3⟩; exact ⟨o, h1, h2, h3⟩
  · rintro ⟨o, h1, h2, h3⟩; exact ⟨o, ⟨h1, h2⟩, h3⟩
theorem storesOf_succ {d : List OpL} {i : Nat} (h : i < d.length) : storesOf (d.take (i + 1)) = if d[i].kind = 7 then storesOf (d.take i) ++ [d[i].a] else storesOf (d.take i) := by
  rw [List.take_succ_eq_append_getElem h]
  unfold storesOf
  rw [List.filter_append, List.map_append]
  by_cases h7 : d[i].kind = 7
  · rw [if_pos h7]; simp [h7]
  · rw [if_neg h7]; simp [h7]
theorem ris_ins {a : List Int} {x : Int} {n : Nat} (h : a.Pairwise (· < ·)) (h1 : ∀ y ∈ a.take n, y < x) (h2 : ∀ y ∈ a.drop n, x < y) : (a.take n ++ x :: a.drop n).Pairwise (· < ·) := by
  have h3 := h
  rw [← List.take_append_drop n a] at h3
  obtain ⟨p1, p2, p3⟩ := List.pairwise_append.1 h3
  refine List.pairwise_append.2 ⟨p1, List.pairwise_cons.2 ⟨h2, p2⟩, ?_⟩
  intro y hy z hz
  rcases List.mem_cons.1 hz with rfl | hz
  · exact h1 y hy
  · exact p3 y hy z hz
theorem ins_mem {a : List Int} {x y : Int} {n : Nat} : y ∈ a.take n ++ x :: a.drop n ↔ y ∈ a ∨ y = x := by
  have : y ∈ a ↔ y ∈ a.take n ∨ y ∈ a.drop n := by
    conv => lhs; rw [← List.take_append_drop n a]
    exact List.mem_append
  rw [List.mem_append, List.mem_cons, this]
  constructor
  · rintro (h | h | h)
    · exact .inl (.inl h)
    · exact .inr h
    · exact .inl (.inr h)
  · rintro ((h | h) | h)
    · exact .inl h
    · exact .inr (.inr h)
    · exact .inr (.inl h)
/-- rising, and all ahead of n are below x, and the n-th is not: then all behind are above, or it is x -/
theorem ris_at {a : List Int} {x : Int} {n : Nat} (h : a.Pairwise (· < ·)) (hn : n ≤ a.length) (h2 : ∀ h : n < a.length, x < a[n]) : ∀ y ∈ a.drop n, x < y := by
  rcases Nat.lt_or_ge n a.length with hlt | hge
  · rw [List.drop_eq_getElem_cons hlt]
    intro y hy
    have h3 := h
    rw [← List.take_append_drop n a, List.drop_eq_getElem_cons hlt] at h3
    have p2 := (List.pairwise_append.1 h3).2.1
    rcases List.mem_cons.1 hy with rfl | hy
    · exact h2 hlt
    · have := (List.pairwise_cons.1 p2).1 y hy
      have := h2 hlt
      omega
  · rw [List.drop_eq_nil_of_le hge]
    intro y hy
    cases hy
/-- where it must be, if it is there -/
theorem ris_find {a : List Int} {x : Int} {n : Nat} (h : a.Pairwise (· < ·)) (h1 : ∀ y ∈ a.take n, y < x) (h2 : ∀ h : n < a.length, x ≤ a[n]) (hx : x ∈ a) : ∃ h : n < a.length, a[n] = x := by
  have h3 := h
  rw [← List.take_append_drop n a] at h3 hx
  rcases List.mem_append.1 hx with hx | hx
  · have := h1 x hx; omega
  · rcases Nat.lt_or_ge n a.length with hlt | hge
    · refine ⟨hlt, ?_⟩
      rw [List.drop_eq_getElem_cons hlt] at hx h3
      have p2 := (List.pairwise_append.1 h3).2.1
      rcases List.mem_cons.1 hx with hx | hx
      · exact hx.symm
      · have := (List.pairwise_cons.1 p2).1 x hx
        have := h2 hlt
        omega
    · rw [List.drop_eq_nil_of_le hge] at hx
      cases hx
end Go.SL
end
section
namespace Go.SL
open Go Go.Proofs Go.Sort
set_option maxRecDepth 100000
/-- what slices.Sort leaves of a slice of integers that the call owns -/
theorem sort_res {P : Program} {f : FuncId} {v : Value} {e n : Nat} {zs : List Int} {w : World} (h : (Own v e 1 n (zs.map (Value.int .i64))).holds w)
    (hC : ∀ (blk off cap : Nat) (w : World), Holds (Value.int .i64) w blk off zs.toArray → blk < w.heap.size → zs.length < 4611686018427387904 →
      Calls P f #[.slice (some ⟨blk, off, none⟩) zs.length cap] w fun e w' => e = .returned (.tuple #[]) ∧ ∃ n os, w' = grow (putRow (Value.int .i64) (Sort.ahead w n) blk off (zs.mergeSort fun x y => decide (x ≤ y)).toArray) os)
    (hN : ∀ (p : Option Addr) (cap : Nat) (w : World), Calls P f #[.slice p 0 cap] w fun e w' => e = .returned (.tuple #[]) ∧ w' = w) (hl : zs.length ≤ 140737488355328) :
    Calls P f #[v] w fun en w' => en = .returned (.tuple #[]) ∧ Res w [Own v e 1 n (zs.map (Value.int .i64))] [Own v e 1 n ((zs.mergeSort fun x y => decide (x ≤ y)).map (Value.int .i64))] w' := by
  have h0 : w.ownsRow 0 e 1 v n (zs.map (Value.int .i64)) := h
  have hs : (zs.mergeSort fun x y => decide (x ≤ y)).length = zs.length := List.length_mergeSort _
  rcases h0 with ⟨h1, ⟨rfl, rfl⟩ | ⟨g, cap, cur, rfl, h3, h4, h5, h6, h7, h8⟩⟩
  · have hz : zs = [] := by cases zs with
      | nil => rfl
      | cons a t => simp at h1
    subst hz
    refine (hN none 0 w).mono ?_
    rintro en w' ⟨rfl, rfl⟩
    refine ⟨rfl, Chg.refl _ _, ?_, by simp, fun c hc b hb => .inr ⟨c, ?_, hb⟩⟩
    · intro c hc
      simp only [List.mem_singleton] at hc
      subst hc
      simpa using h
    · simpa using hc
  · have hn : n = zs.length := by simpa using h1.symm
    subst hn
    have htake : cur.toList.take zs.length = zs.map (Value.int .i64) := by simpa using h8
    have hH : Holds (Value.int .i64) w g 0 zs.toArray := holds_of_blockI h4 htake
    have hg : g < w.heap.size := lt_of_heap h4
    refine (hC g 0 cap w hH hg (by omega)).mono ?_
    rintro en w' ⟨rfl, q, os, rfl⟩
    have hown := ownsRow_sortedI (w := w) (base := 0) (n := q) (os := os) (ss := zs) (ts := zs.mergeSort fun x y => decide (x ≤ y)) hs (Nat.zero_le _) h4 h5 h6 h7
    obtain ⟨g1, g2, g3, g4, g5⟩ := grownBy_sortedI (w := w) (g := g) (n := q) (os := os) (zs.mergeSort fun x y => decide (x ≤ y)).toArray
    refine ⟨rfl, ⟨g1, g2, g3, g4, fun b hb hf => g5 b hb (fun hx => ?_)⟩, ?_, by simp, fun c hc b hb => .inr ⟨_, List.mem_singleton.2 rfl, ?_⟩⟩
    · exact hf ⟨_, List.mem_singleton.2 rfl, by cases hx; rfl⟩
    · intro c hc
      simp only [List.mem_singleton] at hc
      subst hc
      exact hown
    · simp only [List.mem_singleton] at hc
      subst hc
      exact hb
end Go.SL
end
section
namespace Go.SL
open Go
set_option maxRecDepth 100000
abbrev intsC (l : List Int) : List Value := l.map (Value.int .i64)
theorem one_intsC (l : List Int) : ∀ u ∈ intsC l, u.oneCell' = true := by
  intro u hu
  simp only [intsC, List.mem_map] at hu
  obtain ⟨x, _, rfl⟩ := hu
  rfl
theorem intsC_len (l : List Int) : (intsC l).length = l.length := List.length_map _
theorem intsC_app (a b : List Int) : intsC (a ++ b) = intsC a ++ intsC b := List.map_append
/-- a value that reads as a slice of integers -/
def IsInts (c : View) (v : Value) (l : List Int) : Prop := Rds c v 1 l.length (intsC l)
theorem IsInts.mono {c c' : View} (hl : Le c c') {v : Value} {l : List Int} (h : IsInts c v l) : IsInts c' v l := Rds.mono hl h
theorem IsInts.form {c : View} {v : Value} {l : List Int} (h : IsInts c v l) : ∃ A k, v = .slice A l.length k ∧ l.length ≤ k ∧ ∀ i (hi : i < l.length), ∃ ad, A = some ad ∧ c (ad.add (((i : Int)).toNat * 1)) = some (.int .i64 l[i]) := by
  obtain ⟨A, k, h1, h2, _, h4⟩ := h
  refine ⟨A, k, h1, h2, fun i hi => ?_⟩
  obtain ⟨ad, h6, h7⟩ := h4 (by omega)
  refine ⟨ad, h6, ?_⟩
  have := h7 i (.int .i64 l[i]) (by simp [intsC, hi])
  simpa using this
theorem ints_get {l : List Int} {k : Nat} (h : k < l.length) : (intsC l)[((k : Int)).toNat * 1]? = some (.int .i64 l[k]) := by simp [intsC, h]
theorem IsInts.slice {c : View} {A : Option Addr} {cap lo hi : Nat} {b : List Int} (h : IsInts c (.slice A b.length cap) b) (h1 : lo ≤ hi) (h2 : hi ≤ b.length) : IsInts c (slV A lo hi cap 1) ((b.drop lo).take (hi - lo)) := by
  have h3 := slV_rds h h1 h2
  have hl : ((b.drop lo).take (hi - lo)).length = hi - lo := by simp; omega
  unfold IsInts
  rw [hl]
  simpa [intsC, List.map_take, List.map_drop] using h3
theorem IsInts.take {c : View} {A : Option Addr} {k j : Nat} {b : List Int} (h : IsInts c (.slice A b.length k) b) (hj : j ≤ b.length) : Rds c (.slice A j k) 1 j (intsC (b.take j)) := by
  have h3 := IsInts.slice (lo := 0) (hi := j) h (Nat.zero_le _) hj
  rw [slV_0', List.drop_zero, Nat.sub_zero] at h3
  have e : (b.take j).length = j := by simp; omega
  unfold IsInts at h3
  rw [e] at h3
  exact h3
theorem IsInts.drop {c : View} {A : Option Addr} {k j : Nat} {b : List Int} (h : IsInts c (.slice A b.length k) b) (hj : j ≤ b.length) : Rds c (slV A j b.length k 1) 1 (b.length - j) (intsC (b.drop j)) := by
  have h3 := IsInts.slice (lo := j) (hi := b.length) h hj (Nat.le_refl _)
  have e : (b.drop j).take (b.length - j) = b.drop j := List.take_of_length_le (by simp)
  rw [e] at h3
  have e : (b.drop j).length = b.length - j := by simp
  unfold IsInts at h3
  rw [e] at h3
  exact h3
section
variable {C : Cx} {l : Fr} {m : Hp} {ty : TypeId} {pos : String} {after : Array Edge} {dst : Option Nat} {gd : Option (Nat × Bool)}
theorem g_shape2 {Φ : Act → World → Prop} {v : Value} {e size n : Nat} {xs : List Value} (i : Nat) (hm : m[i]? = some (Own v e size n xs)) (h : ∀ A k, v = .slice A n k → n ≤ k → (0 < n → ∃ ad, A = some ad) → G C l m Φ) : G C l m Φ := fun a w ha hw => by
  obtain ⟨A, k, h1, h2, _, h3⟩ := own_rds (hw.mem hm)
  exact h A k h1 h2 (fun hn => let ⟨ad, e, _⟩ := h3 hn; ⟨ad, e⟩) a w ha hw
theorem v_loadW {x : Operand} {ad : Addr} {t e size n k j : Nat} {xs : List Value} {v : Value} {u : TypeDesc} (i : Nat) (hm : m[i]? = some (Own (.slice (some ad) n k) e size n xs)) (hn : 0 < n) (hj : xs[j]? = some v) (ht : C.P.underlying t = some u) (hu : (match u with | .struct _ | .array _ _ => true | _ => false) = false)
    (hx : rd l x = some (.pointer (some (ad.add j)))) : OpV C l m ⟨dst, .load t x, ty, pos, after, gd⟩ v :=
  v_load1 ht hu hx fun _ hw => by
    obtain ⟨A, k', h1, _, _, h3⟩ := own_rds (hw.mem hm)
    obtain ⟨ad', h4, h5⟩ := h3 hn
    injection h1 with e1 e2 e3
    subst e1
    injection h4 with h4
    subst h4
    exact h5 j v hj
end
end Go.SL
end
section
namespace Go.Proofs
open Go.Shelf
set_option maxRecDepth 100000
def Try.laysSort_ren : Go.Shelf.Ren := ⟨fun | 189 => 80 | 125 => 103 | 257 => 102 | 128 => 121 | 129 => 122 | 294 => 112 | 295 => 113 | 296 => 114 | 297 => 115 | 298 => 116 | 299 => 117 | 216 => 118 | 300 => 119 | 301 => 120 | 328 => 125 | 329 => 126 | 330 => 127 | 331 => 128 | 332 => 129 | 215 => 130 | 343 => 132 | n => n, fun | 28 => 53 | 3 => 3 | 46 => 50 | 0 => 0 | 51 => 177 | 53 => 153 | 4 => 4 | 183 => 171 | 182 => 170 | 131 => 145 | 5 => 5 | 9 => 9 | 218 => 182 | 222 => 186 | 228 => 189 | 229 => 107 | n => n, fun | n => n⟩
theorem Try.laysSort : Lays.n189 Try.prog Try.laysSort_ren where
  mixed := by kernel_rfl
  f125 := Try.func103.trans (congrArg some (by kernel_rfl))
  f128 := Try.func121.trans (congrArg some (by kernel_rfl))
  f129 := Try.func122.trans (congrArg some (by kernel_rfl))
  f189 := Try.func80.trans (congrArg some (by kernel_rfl))
  f215 := Try.func130.trans (congrArg some (by kernel_rfl))
  f216 := Try.func118.trans (congrArg some (by kernel_rfl))
  f257 := Try.func102.trans (congrArg some (by kernel_rfl))
  f294 := Try.func112.trans (congrArg some (by kernel_rfl))
  f295 := Try.func113.trans (congrArg some (by kernel_rfl))
  f296 := Try.func114.trans (congrArg some (by kernel_rfl))
  f297 := Try.func115.trans (congrArg some (by kernel_rfl))
  f298 := Try.func116.trans (congrArg some (by kernel_rfl))
  f299 := Try.func117.trans (congrArg some (by kernel_rfl))
  f300 := Try.func119.trans (congrArg some (by kernel_rfl))
  f301 := Try.func120.trans (congrArg some (by kernel_rfl))
  f328 := Try.func125.trans (congrArg some (by kernel_rfl))
  f329 := Try.func126.trans (congrArg some (by kernel_rfl))
  f330 := Try.func127.trans (congrArg some (by kernel_rfl))
  f331 := Try.func128.trans (congrArg some (by kernel_rfl))
  f332 := Try.func129.trans (congrArg some (by kernel_rfl))
  f343 := Try.func132.trans (congrArg some (by kernel_rfl))
  t0 := Try.underlying0
  a0 := Try.isAgg0
  z0 := Try.sizeOf0
  v0 := Try.zeroValue0
  t3 := Try.underlying3
  a3 := Try.isAgg3
  z3 := Try.sizeOf3
  v3 := Try.zeroValue3
  t4 := Try.underlying4
  a4 := Try.isAgg4
  z4 := Try.sizeOf4
  v4 := Try.zeroValue4
  t5 := Try.underlying5
  a5 := Try.isAgg5
  z5 := Try.sizeOf5
  v5 := Try.zeroValue5
  t9 := Try.underlying9
  a9 := Try.isAgg9
  z9 := Try.sizeOf9
  v9 := Try.zeroValue9
  t28 := Try.underlying53
  a28 := Try.isAgg53
  z28 := Try.sizeOf53
  v28 := Try.zeroValue53
  t46 := Try.underlying50
  a46 := Try.isAgg50
  z46 := Try.sizeOf50
  v46 := Try.zeroValue50
  t51 := Try.underlying177
  a51 := Try.isAgg177
  z51 := Try.sizeOf177
  v51 := Try.zeroValue177
  t53 := Try.underlying153
  a53 := Try.isAgg153
  z53 := Try.sizeOf153
  v53 := Try.zeroValue153
  t131 := Try.underlying145
  a131 := Try.isAgg145
  z131 := Try.sizeOf145
  v131 := Try.zeroValue145
  t182 := Try.underlying170
  a182 := Try.isAgg170
  z182 := Try.sizeOf170
  v182 := Try.zeroValue170
  t183 := Try.underlying171
  a183 := Try.isAgg171
  z183 := Try.sizeOf171
  v183 := Try.zeroValue171
  t218 := Try.underlying182
  a218 := Try.isAgg182
  z218 := Try.sizeOf182
  v218 := Try.zeroValue182
  t222 := Try.underlying186
  a222 := Try.isAgg186
  z222 := Try.sizeOf186
  v222 := Try.zeroValue186
  t228 := Try.underlying189
  a228 := Try.isAgg189
  z228 := Try.sizeOf189
  v228 := Try.zeroValue189
  t229 := Try.underlying107
  a229 := Try.isAgg107
  z229 := Try.sizeOf107
  v229 := Try.zeroValue107
end Go.Proofs
end
