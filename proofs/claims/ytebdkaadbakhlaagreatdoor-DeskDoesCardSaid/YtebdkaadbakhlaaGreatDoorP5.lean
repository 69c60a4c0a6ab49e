/- YtebdkaadbakhlaaGreatDoor: part P5 of this seat's own texts. -/
import Derived.Sort.OwnSortedInts
import Derived.Shelf.Sort.Plain
import Derived.Shelf.Slices.In.SortNone
import Derived.Test.YtebdkaadbakhlaaGreatDoorP1
import Derived.Test.YtebdkaadbakhlaaGreatDoorP3
import Derived.Test.YtebdkaadbakhlaaGreatDoorP2
set_option linter.unusedVariables false
set_option linter.unusedSimpArgs false
section
namespace Go.SL
def storesOf (d : List OpL) : List Int := (d.filter fun o => decide (o.kind = 7)).map fun o => o.a
def onceL : List Int → List Int
 | [] => []
 | x :: t => x :: (onceL t).filter fun y => decide (y ≠ x)
theorem onceL_mem {x : Int} : ∀ {l : List Int}, x ∈ onceL l ↔ x ∈ l
 | [] => Iff.rfl
 | a :: t => by
  simp only [onceL, List.mem_cons, List.mem_filter, onceL_mem (l := t), decide_eq_true_eq]
  constructor
  ·rintro (h | ⟨h, _⟩)
   ·exact .inl h
   ·exact .inr h
  ·rintro (h | h)
   ·exact .inl h
   ·by_cases hx : x = a
    ·exact .inl hx
    ·exact .inr ⟨h, hx⟩
theorem onceL_nodup : ∀ {l : List Int}, (onceL l).Nodup
 | [] => List.nodup_nil
 | a :: t => by
  refine List.nodup_cons.2 ⟨?_, (onceL_nodup (l := t)).filter _⟩
  simp [List.mem_filter]
def keysL (d : List OpL) : List Int := (onceL (storesOf d)).mergeSort fun x y => decide (x ≤ y)
theorem sort_mem {l : List Int} {x : Int} : x ∈ l.mergeSort (fun x y => decide (x ≤ y)) ↔ x ∈ l := (List.mergeSort_perm l _).mem_iff
theorem sort_ris {l : List Int} (h : l.Nodup) : (l.mergeSort fun x y => decide (x ≤ y)).Pairwise (· < ·) := by
 have h1 := List.pairwise_mergeSort (le := fun x y : Int => decide (x ≤ y)) (fun a b c h1 h2 => by simp at h1 h2 ⊢; omega) (fun a b => by simp; omega) l
 have h2 : (l.mergeSort fun x y => decide (x ≤ y)).Nodup := (List.mergeSort_perm l _).nodup_iff.2 h
 refine (h1.and h2).imp ?_
 rintro a b ⟨h3, h4⟩
 simp at h3
 have h4 : a ≠ b := h4
 omega
theorem keysL_ris (d : List OpL) : (keysL d).Pairwise (· < ·) := sort_ris onceL_nodup
theorem keysL_mem {d : List OpL} {x : Int} : x ∈ keysL d ↔ x ∈ storesOf d := sort_mem.trans onceL_mem
theorem ris_uniq {a b : List Int} (ha : a.Pairwise (· < ·)) (hb : b.Pairwise (· < ·)) (h : ∀ x, x ∈ a ↔ x ∈ b) : a = b := by
 have hp : a.Perm b := (List.perm_ext_iff_of_nodup (ha.imp fun h e => by omega) (hb.imp fun h e => by omega)).2 h
 exact hp.eq_of_pairwise (fun x y _ _ h1 h2 => by omega) ha hb
theorem keysL_is {d : List OpL} {a : List Int} (ha : a.Pairwise (· < ·)) (h : ∀ x, x ∈ a ↔ x ∈ storesOf d) : a = keysL d := ris_uniq ha (keysL_ris d) (fun x => (h x).trans keysL_mem.symm)
theorem keysL_sorted {d : List OpL} {a : List Int} (ha : a.Nodup) (h : ∀ x, x ∈ a ↔ x ∈ storesOf d) : (a.mergeSort fun x y => decide (x ≤ y)) = keysL d := keysL_is (sort_ris ha) (fun x => sort_mem.trans (h x))
theorem storesOf_mem {d : List OpL} {x : Int} : x ∈ storesOf d ↔ ∃ o ∈ d, o.kind = 7 ∧ o.a = x := by
 simp only [storesOf, List.mem_map, List.mem_filter, decide_eq_true_eq]
 constructor
 ·rintro ⟨o, ⟨h1, h2⟩, h3⟩; exact ⟨o, h1, h2, h3⟩
 ·rintro ⟨o, h1, h2, h3⟩; exact ⟨o, ⟨h1, h2⟩, h3⟩
theorem storesOf_succ {d : List OpL} {i : Nat} (h : i < d.length) : storesOf (d.take (i + 1)) = if d[i].kind = 7 then storesOf (d.take i) ++ [d[i].a] else storesOf (d.take i) := by
 rw [List.take_succ_eq_append_getElem h]
 unfold storesOf
 rw [List.filter_append, List.map_append]
 by_cases h7 : d[i].kind = 7
 ·rw [if_pos h7]; simp [h7]
 ·rw [if_neg h7]; simp [h7]
end Go.SL
end
section
namespace Go.SL
open Go Go.Proofs Go.Sort
set_option maxRecDepth 100000
theorem sort_res {P : Program} {f : FuncId} {v : Value} {e n : Nat} {zs : List Int} {w : World} (h : (Own v e 1 n (zs.map (Value.int .i64))).holds w)
  (hC : ∀ (blk off cap : Nat) (w : World), Holds (Value.int .i64) w blk off zs.toArray → blk < w.heap.size → zs.length < 4611686018427387904 →
   Calls P f #[.slice (some ⟨blk, off, none⟩) zs.length cap] w fun e w' => e = .returned (.tuple #[]) ∧ ∃ n os, w' = grow (putRow (Value.int .i64) (Sort.ahead w n) blk off (zs.mergeSort fun x y => decide (x ≤ y)).toArray) os)
  (hN : ∀ (p : Option Addr) (cap : Nat) (w : World), Calls P f #[.slice p 0 cap] w fun e w' => e = .returned (.tuple #[]) ∧ w' = w) (hl : zs.length ≤ 140737488355328) :
  Calls P f #[v] w fun en w' => en = .returned (.tuple #[]) ∧ Res w [Own v e 1 n (zs.map (Value.int .i64))] [Own v e 1 n ((zs.mergeSort fun x y => decide (x ≤ y)).map (Value.int .i64))] w' := by
 have h0 : w.ownsRow 0 e 1 v n (zs.map (Value.int .i64)) := h
 have hs : (zs.mergeSort fun x y => decide (x ≤ y)).length = zs.length := List.length_mergeSort _
 rcases h0 with ⟨h1, ⟨rfl, rfl⟩ | ⟨g, cap, cur, rfl, h3, h4, h5, h6, h7, h8⟩⟩
 ·have hz : zs = [] := by cases zs with
   | nil => rfl
   | cons a t => simp at h1
  subst hz
  refine (hN none 0 w).mono ?_
  rintro en w' ⟨rfl, rfl⟩
  refine ⟨rfl, Chg.refl _ _, ?_, by simp, fun c hc b hb => .inr ⟨c, ?_, hb⟩⟩
  ·intro c hc
   simp only [List.mem_singleton] at hc
   subst hc
   simpa using h
  ·simpa using hc
 ·have hn : n = zs.length := by simpa using h1.symm
  subst hn
  have htake : cur.toList.take zs.length = zs.map (Value.int .i64) := by simpa using h8
  have hH : Holds (Value.int .i64) w g 0 zs.toArray := holds_of_blockI h4 htake
  have hg : g < w.heap.size := lt_of_heap h4
  refine (hC g 0 cap w hH hg (by omega)).mono ?_
  rintro en w' ⟨rfl, q, os, rfl⟩
  have hown := ownsRow_sortedI (w := w) (base := 0) (n := q) (os := os) (ss := zs) (ts := zs.mergeSort fun x y => decide (x ≤ y)) hs (Nat.zero_le _) h4 h5 h6 h7
  obtain ⟨g1, g2, g3, g4, g5⟩ := grownBy_sortedI (w := w) (g := g) (n := q) (os := os) (zs.mergeSort fun x y => decide (x ≤ y)).toArray
  refine ⟨rfl, ⟨g1, g2, g3, g4, fun b hb hf => g5 b hb (fun hx => ?_)⟩, ?_, by simp, fun c hc b hb => .inr ⟨_, List.mem_singleton.2 rfl, ?_⟩⟩
  ·exact hf ⟨_, List.mem_singleton.2 rfl, by cases hx; rfl⟩
  ·intro c hc
   simp only [List.mem_singleton] at hc
   subst hc
   exact hown
  ·simp only [List.mem_singleton] at hc
   subst hc
   exact hb
end Go.SL
end
section
namespace Go.SL
open Go
set_option maxRecDepth 100000
abbrev intsC (l : List Int) : List Value := l.map (Value.int .i64)
theorem one_intsC (l : List Int) : ∀ u ∈ intsC l, u.oneCell' = true := by
 intro u hu
 simp only [intsC, List.mem_map] at hu
 obtain ⟨x, _, rfl⟩ := hu
 rfl
theorem intsC_app (a b : List Int) : intsC (a ++ b) = intsC a ++ intsC b := List.map_append
def IsInts (c : View) (v : Value) (l : List Int) : Prop := Rds c v 1 l.length (intsC l)
theorem IsInts.mono {c c' : View} (hl : Le c c') {v : Value} {l : List Int} (h : IsInts c v l) : IsInts c' v l := Rds.mono hl h
theorem IsInts.form {c : View} {v : Value} {l : List Int} (h : IsInts c v l) : ∃ A k, v = .slice A l.length k ∧ l.length ≤ k ∧ ∀ i (hi : i < l.length), ∃ ad, A = some ad ∧ c (ad.add (((i : Int)).toNat * 1)) = some (.int .i64 l[i]) := by
 obtain ⟨A, k, h1, h2, _, h4⟩ := h
 refine ⟨A, k, h1, h2, fun i hi => ?_⟩
 obtain ⟨ad, h6, h7⟩ := h4 (by omega)
 refine ⟨ad, h6, ?_⟩
 have := h7 i (.int .i64 l[i]) (by simp [intsC, hi])
 simpa using this
theorem ints_get {l : List Int} {k : Nat} (h : k < l.length) : (intsC l)[((k : Int)).toNat * 1]? = some (.int .i64 l[k]) := by simp [intsC, h]
theorem IsInts.slice {c : View} {A : Option Addr} {cap lo hi : Nat} {b : List Int} (h : IsInts c (.slice A b.length cap) b) (h1 : lo ≤ hi) (h2 : hi ≤ b.length) : IsInts c (slV A lo hi cap 1) ((b.drop lo).take (hi - lo)) := by
 have h3 := slV_rds h h1 h2
 have hl : ((b.drop lo).take (hi - lo)).length = hi - lo := by simp; omega
 unfold IsInts
 rw [hl]
 simpa [intsC, List.map_take, List.map_drop] using h3
theorem IsInts.take {c : View} {A : Option Addr} {k j : Nat} {b : List Int} (h : IsInts c (.slice A b.length k) b) (hj : j ≤ b.length) : Rds c (.slice A j k) 1 j (intsC (b.take j)) := by
 have h3 := IsInts.slice (lo := 0) (hi := j) h (Nat.zero_le _) hj
 rw [slV_0', List.drop_zero, Nat.sub_zero] at h3
 have e : (b.take j).length = j := by simp; omega
 unfold IsInts at h3
 rw [e] at h3
 exact h3
theorem IsInts.drop {c : View} {A : Option Addr} {k j : Nat} {b : List Int} (h : IsInts c (.slice A b.length k) b) (hj : j ≤ b.length) : Rds c (slV A j b.length k 1) 1 (b.length - j) (intsC (b.drop j)) := by
 have h3 := IsInts.slice (lo := j) (hi := b.length) h hj (Nat.le_refl _)
 have e : (b.drop j).take (b.length - j) = b.drop j := List.take_of_length_le (by simp)
 rw [e] at h3
 have e : (b.drop j).length = b.length - j := by simp
 unfold IsInts at h3
 rw [e] at h3
 exact h3
section
variable {C : Cx} {l : Fr} {m : Hp} {ty : TypeId} {pos : String} {after : Array Edge} {dst : Option Nat} {gd : Option (Nat × Bool)}
theorem g_shape2 {Φ : Act → World → Prop} {v : Value} {e size n : Nat} {xs : List Value} (i : Nat) (hm : m[i]? = some (Own v e size n xs)) (h : ∀ A k, v = .slice A n k → n ≤ k → (0 < n → ∃ ad, A = some ad) → G C l m Φ) : G C l m Φ := fun a w ha hw => by
 obtain ⟨A, k, h1, h2, _, h3⟩ := own_rds (hw.mem hm)
 exact h A k h1 h2 (fun hn => let ⟨ad, e, _⟩ := h3 hn; ⟨ad, e⟩) a w ha hw
theorem v_loadW {x : Operand} {ad : Addr} {t e size n k j : Nat} {xs : List Value} {v : Value} {u : TypeDesc} (i : Nat) (hm : m[i]? = some (Own (.slice (some ad) n k) e size n xs)) (hn : 0 < n) (hj : xs[j]? = some v) (ht : C.P.underlying t = some u) (hu : (match u with | .struct _ | .array _ _ => true | _ => false) = false)
  (hx : rd l x = some (.pointer (some (ad.add j)))) : OpV C l m ⟨dst, .load t x, ty, pos, after, gd⟩ v :=
 v_load1 ht hu hx fun _ hw => by
  obtain ⟨A, k', h1, _, _, h3⟩ := own_rds (hw.mem hm)
  obtain ⟨ad', h4, h5⟩ := h3 hn
  injection h1 with e1 e2 e3
  subst e1
  injection h4 with h4
  subst h4
  exact h5 j v hj
end
end Go.SL
end
section
namespace Go.Proofs
open Go.Shelf
set_option maxRecDepth 100000
def Tryz.laysSort_ren : Go.Shelf.Ren := ⟨fun | 189 => 182 | 125 => 189 | 257 => 188 | 128 => 201 | 129 => 157 | 294 => 192 | 295 => 193 | 296 => 194 | 297 => 195 | 298 => 196 | 299 => 197 | 216 => 198 | 300 => 199 | 301 => 200 | 328 => 204 | 329 => 205 | 330 => 206 | 331 => 207 | 332 => 208 | 215 => 209 | 343 => 210 | n => n, fun | 28 => 70 | 3 => 3 | 46 => 122 | 0 => 0 | 51 => 147 | 53 => 165 | 4 => 4 | 183 => 263 | 182 => 262 | 131 => 245 | 5 => 5 | 9 => 9 | 218 => 270 | 222 => 274 | 228 => 276 | 229 => 115 | n => n, fun | n => n⟩
theorem Tryz.laysSort : Lays.n189 Tryz.prog Tryz.laysSort_ren where
 mixed := by kernel_rfl
 f125 := Tryz.func189.trans (congrArg some (by kernel_rfl))
 f128 := Tryz.func201.trans (congrArg some (by kernel_rfl))
 f129 := Tryz.func157.trans (congrArg some (by kernel_rfl))
 f189 := Tryz.func182.trans (congrArg some (by kernel_rfl))
 f215 := Tryz.func209.trans (congrArg some (by kernel_rfl))
 f216 := Tryz.func198.trans (congrArg some (by kernel_rfl))
 f257 := Tryz.func188.trans (congrArg some (by kernel_rfl))
 f294 := Tryz.func192.trans (congrArg some (by kernel_rfl))
 f295 := Tryz.func193.trans (congrArg some (by kernel_rfl))
 f296 := Tryz.func194.trans (congrArg some (by kernel_rfl))
 f297 := Tryz.func195.trans (congrArg some (by kernel_rfl))
 f298 := Tryz.func196.trans (congrArg some (by kernel_rfl))
 f299 := Tryz.func197.trans (congrArg some (by kernel_rfl))
 f300 := Tryz.func199.trans (congrArg some (by kernel_rfl))
 f301 := Tryz.func200.trans (congrArg some (by kernel_rfl))
 f328 := Tryz.func204.trans (congrArg some (by kernel_rfl))
 f329 := Tryz.func205.trans (congrArg some (by kernel_rfl))
 f330 := Tryz.func206.trans (congrArg some (by kernel_rfl))
 f331 := Tryz.func207.trans (congrArg some (by kernel_rfl))
 f332 := Tryz.func208.trans (congrArg some (by kernel_rfl))
 f343 := Tryz.func210.trans (congrArg some (by kernel_rfl))
 t0 := Tryz.underlying0
 a0 := Tryz.isAgg0
 z0 := Tryz.sizeOf0
 v0 := Tryz.zeroValue0
 t3 := Tryz.underlying3
 a3 := Tryz.isAgg3
 z3 := Tryz.sizeOf3
 v3 := Tryz.zeroValue3
 t4 := Tryz.underlying4
 a4 := Tryz.isAgg4
 z4 := Tryz.sizeOf4
 v4 := Tryz.zeroValue4
 t5 := Tryz.underlying5
 a5 := Tryz.isAgg5
 z5 := Tryz.sizeOf5
 v5 := Tryz.zeroValue5
 t9 := Tryz.underlying9
 a9 := Tryz.isAgg9
 z9 := Tryz.sizeOf9
 v9 := Tryz.zeroValue9
 t28 := Tryz.underlying70
 a28 := Tryz.isAgg70
 z28 := Tryz.sizeOf70
 v28 := Tryz.zeroValue70
 t46 := Tryz.underlying122
 a46 := Tryz.isAgg122
 z46 := Tryz.sizeOf122
 v46 := Tryz.zeroValue122
 t51 := Tryz.underlying147
 a51 := Tryz.isAgg147
 z51 := Tryz.sizeOf147
 v51 := Tryz.zeroValue147
 t53 := Tryz.underlying165
 a53 := Tryz.isAgg165
 z53 := Tryz.sizeOf165
 v53 := Tryz.zeroValue165
 t131 := Tryz.underlying245
 a131 := Tryz.isAgg245
 z131 := Tryz.sizeOf245
 v131 := Tryz.zeroValue245
 t182 := Tryz.underlying262
 a182 := Tryz.isAgg262
 z182 := Tryz.sizeOf262
 v182 := Tryz.zeroValue262
 t183 := Tryz.underlying263
 a183 := Tryz.isAgg263
 z183 := Tryz.sizeOf263
 v183 := Tryz.zeroValue263
 t218 := Tryz.underlying270
 a218 := Tryz.isAgg270
 z218 := Tryz.sizeOf270
 v218 := Tryz.zeroValue270
 t222 := Tryz.underlying274
 a222 := Tryz.isAgg274
 z222 := Tryz.sizeOf274
 v222 := Tryz.zeroValue274
 t228 := Tryz.underlying276
 a228 := Tryz.isAgg276
 z228 := Tryz.sizeOf276
 v228 := Tryz.zeroValue276
 t229 := Tryz.underlying115
 a229 := Tryz.isAgg115
 z229 := Tryz.sizeOf115
 v229 := Tryz.zeroValue115
end Go.Proofs
end
section
namespace Go.SL
open Go
set_option maxRecDepth 100000
def tab {α : Type} (N : Nat) (g : Nat → α) : List α := (List.range N).map g
def upd {α : Type} (g : Nat → α) (k : Nat) (x : α) : Nat → α := fun j => if j = k then x else g j
theorem tab_len {α : Type} {N : Nat} {g : Nat → α} : (tab N g).length = N := by simp [tab]
theorem tab_get {α : Type} {N k : Nat} {g : Nat → α} (h : k < N) : (tab N g)[k]? = some (g k) := by simp [tab, h]
theorem tab_mem {α : Type} {N : Nat} {g : Nat → α} {x : α} : x ∈ tab N g ↔ ∃ k, k < N ∧ g k = x := by simp [tab]
theorem upd_same {α : Type} {g : Nat → α} {k : Nat} {x : α} : upd g k x k = x := by simp [upd]
theorem upd_other {α : Type} {g : Nat → α} {k j : Nat} {x : α} (h : j ≠ k) : upd g k x j = g j := by simp [upd, h]
theorem upd_self {α : Type} {g : Nat → α} {k : Nat} : upd g k (g k) = g := by
 funext j
 unfold upd
 split
 ·rename_i h; rw [h]
 ·rfl
theorem tab_set {α : Type} {N k : Nat} {g : Nat → α} {x : α} : (tab N g).set k x = tab N (upd g k x) := by
 apply List.ext_getElem?
 intro j
 by_cases hj : j < N
 ·rw [tab_get hj, List.getElem?_set]
  by_cases h : k = j
  ·subst h
   simp [tab_len, hj, upd]
  ·rw [if_neg h, tab_get hj, upd_other (fun e => h e.symm)]
 ·rw [List.getElem?_eq_none (by simp [tab_len]; omega), List.getElem?_eq_none (by simp [tab_len]; omega)]
theorem tab_congr {α : Type} {N : Nat} {g h : Nat → α} (e : ∀ k, k < N → g k = h k) : tab N g = tab N h := by
 apply List.ext_getElem?
 intro j
 by_cases hj : j < N
 ·rw [tab_get hj, tab_get hj, e j hj]
 ·rw [List.getElem?_eq_none (by simp [tab_len]; omega), List.getElem?_eq_none (by simp [tab_len]; omega)]
def empG : Gen where
 foot := fun _ => False
 holds := fun _ => True
 lt := fun _ h => h.elim
 stable := fun _ _ => trivial
abbrev Emp : Chunk := .gen empG
def lstG (cs : List Chunk) : Gen where
 foot := feet cs
 holds := fun w => (∀ c ∈ cs, c.holds w) ∧ cs.Pairwise Disj
 lt := fun h ⟨c, hc, hb⟩ => Chunk.lt (h.1 c hc) hb
 stable := fun hs h => ⟨fun c hc => Chunk.stable (fun b hb => hs b ⟨c, hc, hb⟩) (h.1 c hc), h.2⟩
abbrev Lst (cs : List Chunk) : Chunk := .gen (lstG cs)
theorem feet_set {cs : List Chunk} {k b : Nat} {c : Chunk} (h : feet (cs.set k c) b) : c.foot b ∨ feet cs b := by
 obtain ⟨d, hd, hb⟩ := h
 rcases List.mem_or_eq_of_mem_set hd with hd | rfl
 ·exact .inr ⟨d, hd, hb⟩
 ·exact .inl hb
theorem pairwise_set {cs : List Chunk} {k : Nat} {c : Chunk} (h : cs.Pairwise Disj) (hc : ∀ j d, j ≠ k → cs[j]? = some d → Disj c d) : (cs.set k c).Pairwise Disj := by
 rw [List.pairwise_iff_getElem] at h ⊢
 intro i j hi hj hij
 simp only [List.length_set] at hi hj
 rw [List.getElem_set, List.getElem_set]
 by_cases h1 : k = i
 ·rw [if_pos h1, if_neg (by omega)]
  exact hc j _ (by omega) (List.getElem?_eq_getElem hj)
 ·rw [if_neg h1]
  by_cases h2 : k = j
  ·rw [if_pos h2]
   exact (hc i _ (by omega) (List.getElem?_eq_getElem hi)).symm
  ·rw [if_neg h2]
   exact h i j hi hj hij
theorem lst_disj {cs : List Chunk} {k j : Nat} {c d : Chunk} (h : cs.Pairwise Disj) (hk : cs[k]? = some c) (hj : cs[j]? = some d) (hne : j ≠ k) : Disj c d := by
 obtain ⟨h1, rfl⟩ := List.getElem?_eq_some_iff.1 hk
 obtain ⟨h2, rfl⟩ := List.getElem?_eq_some_iff.1 hj
 rw [List.pairwise_iff_getElem] at h
 rcases Nat.lt_or_ge j k with hlt | hge
 ·exact (h j k h2 h1 hlt).symm
 ·exact h k j h1 h2 (by omega)
theorem St.lstTake {w0 w : World} {F : Nat → Prop} {m : Hp} {cs : List Chunk} {k : Nat} {c : Chunk} (h : St w0 F (Lst cs :: m) w) (hk : cs[k]? = some c) : St w0 F (c :: Lst (cs.set k Emp) :: m) w := by
 obtain ⟨h1, h2⟩ := h.hold (Lst cs) List.mem_cons_self
 have hc := List.mem_of_getElem? hk
 obtain ⟨h3, h4⟩ := List.pairwise_cons.1 h.sep
 have hsub : ∀ b, (Lst (cs.set k Emp)).foot b → (Lst cs).foot b := fun b hb => (feet_set hb).elim (fun h => h.elim) id
 have hown := fun b hb => h.own (Lst cs) List.mem_cons_self b hb
 refine ⟨h.chg, ?_, List.pairwise_cons.2 ⟨?_, List.pairwise_cons.2 ⟨fun d hd b hb hdb => h3 d hd b (hsub b hb) hdb, h4⟩⟩, ?_⟩
 ·intro d hd
  rcases List.mem_cons.1 hd with rfl | hd
  ·exact h1 _ hc
  ·rcases List.mem_cons.1 hd with rfl | hd
   ·refine ⟨fun e he => ?_, pairwise_set h2 (fun j e _ _ b hb => hb.elim)⟩
    rcases List.mem_or_eq_of_mem_set he with he | rfl
    ·exact h1 e he
    ·trivial
   ·exact h.hold d (List.mem_cons_of_mem _ hd)
 ·intro d hd
  rcases List.mem_cons.1 hd with rfl | hd
  ·intro b hb hb2
   obtain ⟨e, he, heb⟩ := (show feet (cs.set k Emp) b from hb2)
   obtain ⟨j, hj⟩ := List.getElem?_of_mem he
   rw [List.getElem?_set] at hj
   by_cases hjk : k = j
   ·rw [if_pos hjk] at hj
    split at hj
    ·injection hj with hj
     rw [← hj] at heb
     exact heb.elim
    ·cases hj
   ·rw [if_neg hjk] at hj
    exact lst_disj h2 hk hj (fun e => hjk e.symm) b hb heb
  ·exact fun b hb hdb => h3 d hd b ⟨c, hc, hb⟩ hdb
 ·intro d hd b hb
  rcases List.mem_cons.1 hd with rfl | hd
  ·exact hown b ⟨_, hc, hb⟩
  ·rcases List.mem_cons.1 hd with rfl | hd
   ·exact hown b (hsub b hb)
   ·exact h.own d (List.mem_cons_of_mem _ hd) b hb
theorem St.lstPut {w0 w : World} {F : Nat → Prop} {m : Hp} {cs : List Chunk} {k : Nat} {c : Chunk} (h : St w0 F (c :: Lst cs :: m) w) : St w0 F (Lst (cs.set k c) :: m) w := by
 obtain ⟨h1, h2⟩ := h.hold (Lst cs) (List.mem_cons_of_mem _ List.mem_cons_self)
 have hch := h.hold c List.mem_cons_self
 obtain ⟨h3, h4⟩ := List.pairwise_cons.1 h.sep
 obtain ⟨h5, h6⟩ := List.pairwise_cons.1 h4
 have hcl := h3 (Lst cs) List.mem_cons_self
 refine ⟨h.chg, ?_, List.pairwise_cons.2 ⟨?_, h6⟩, ?_⟩
 ·intro d hd
  rcases List.mem_cons.1 hd with rfl | hd
  ·refine ⟨fun e he => ?_, pairwise_set h2 (fun j e _ he b hb heb => hcl b hb ⟨e, List.mem_of_getElem? he, heb⟩)⟩
   rcases List.mem_or_eq_of_mem_set he with he | rfl
   ·exact h1 e he
   ·exact hch
  ·exact h.hold d (List.mem_cons_of_mem _ (List.mem_cons_of_mem _ hd))
 ·intro d hd b hb hdb
  rcases feet_set hb with hb | hb
  ·exact h3 d (List.mem_cons_of_mem _ hd) b hb hdb
  ·exact h5 d hd b hb hdb
 ·intro d hd b hb
  rcases List.mem_cons.1 hd with rfl | hd
  ·rcases feet_set hb with hb | hb
   ·exact h.own c List.mem_cons_self b hb
   ·exact h.own (Lst cs) (List.mem_cons_of_mem _ List.mem_cons_self) b hb
  ·exact h.own d (List.mem_cons_of_mem _ (List.mem_cons_of_mem _ hd)) b hb
section
variable {C : Cx} {l : Fr} {m : Hp}
end
abbrev Rows (e size : Nat) (N : Nat) (hs : Nat → Value) (T : Nat → Nat × List Value) : Chunk := Lst (tab N fun k => Own (hs k) e size (T k).1 (T k).2)
theorem St.rowTake {w0 w : World} {F : Nat → Prop} {m : Hp} {e size N : Nat} {hs : Nat → Value} {T : Nat → Nat × List Value} {k : Nat} (hk : k < N) (h : St w0 F (Rows e size N hs T :: m) w) : St w0 F (Own (hs k) e size (T k).1 (T k).2 :: Lst ((tab N fun k => Own (hs k) e size (T k).1 (T k).2).set k Emp) :: m) w :=
 h.lstTake (tab_get hk)
theorem St.rowPut {w0 w : World} {F : Nat → Prop} {m : Hp} {e size N n k : Nat} {hs : Nat → Value} {T : Nat → Nat × List Value} {v : Value} {xs : List Value} (h : St w0 F (Own v e size n xs :: Lst ((tab N fun k => Own (hs k) e size (T k).1 (T k).2).set k Emp) :: m) w) :
  St w0 F (Rows e size N (upd hs k v) (upd T k (n, xs)) :: m) w := by
 have h1 := h.lstPut (k := k)
 rw [List.set_set, tab_set] at h1
 have e1 : (tab N (upd (fun k => Own (hs k) e size (T k).1 (T k).2) k (Own v e size n xs))) = tab N fun j => Own (upd hs k v j) e size (upd T k (n, xs) j).1 (upd T k (n, xs) j).2 := tab_congr fun j _ => by
  by_cases hj : j = k
  ·subst hj; simp only [upd_same]
  ·simp only [upd_other hj]
 rw [e1] at h1
 exact h1
end Go.SL
end
section
namespace Go.SL
def pickL (m : Hp) (is : List Nat) : Hp := is.filterMap fun i => m[i]?
theorem St.pick {w0 w : World} {F : Nat → Prop} {m : Hp} (h : St w0 F m w) (is : List Nat) (hn : is.Nodup) : St w0 F (pickL m is) w := by
 have hmem : ∀ c ∈ pickL m is, c ∈ m := fun c hc => by
  obtain ⟨i, _, hi⟩ := List.mem_filterMap.1 hc
  exact List.mem_of_getElem? hi
 refine ⟨h.chg, fun c hc => h.hold c (hmem c hc), ?_, fun c hc => h.own c (hmem c hc)⟩
 unfold pickL
 rw [List.pairwise_filterMap]
 exact List.Pairwise.imp (fun {i j} hne c hc d hd => lst_disj h.sep hc hd (Ne.symm hne)) hn
end Go.SL
end
section
namespace Go.SL
open Go
set_option maxRecDepth 100000
structure SlotL where
 by_ : Int
 opn : Bool
 vd : Bool
 n : Int
 deriving DecidableEq
def slotC (s : SlotL) : List Value := [.int .i64 s.by_, .bool s.opn, .bool s.vd, .int .i64 s.n]
def slotV (s : SlotL) : Value := .agg #[.int .i64 s.by_, .bool s.opn, .bool s.vd, .int .i64 s.n]
def slotCells (l : List SlotL) : List Value := l.flatMap slotC
theorem slotCells_len (l : List SlotL) : (slotCells l).length = l.length * 4 := by
 induction l with
 | nil => rfl
 | cons o d ih => simp only [slotCells, List.flatMap_cons, List.length_append, List.length_cons] at ih ⊢; rw [ih]; simp [slotC]; omega
theorem slotCells_app (a b : List SlotL) : slotCells (a ++ b) = slotCells a ++ slotCells b := by simp [slotCells]
theorem slotCells_at : ∀ (d : List SlotL) (k : Nat) (o : SlotL), d[k]? = some o → ∀ j v, (slotC o)[j]? = some v → (slotCells d)[k * 4 + j]? = some v
 | [], k, o, h, _, _, _ => by simp at h
 | x :: d, 0, o, h, j, v, hj => by
  simp at h
  subst h
  have hlt : j < (slotC x).length := (List.getElem?_eq_some_iff.1 hj).1
  simp only [slotCells, List.flatMap_cons, Nat.zero_mul, Nat.zero_add]
  rw [List.getElem?_append_left hlt]
  exact hj
 | x :: d, k + 1, o, h, j, v, hj => by
  simp only [List.getElem?_cons_succ] at h
  have := slotCells_at d k o h j v hj
  simp only [slotCells, List.flatMap_cons] at this ⊢
  rw [List.getElem?_append_right (by simp [slotC]; omega)]
  have e : (k + 1) * 4 + j - (slotC x).length = k * 4 + j := by simp [slotC]; omega
  rw [e]
  exact this
theorem one_slotCells (l : List SlotL) : ∀ u ∈ slotCells l, u.oneCell' = true := by
 intro u hu
 simp only [slotCells, List.mem_flatMap] at hu
 obtain ⟨o, _, hu⟩ := hu
 simp only [slotC, List.mem_cons, List.not_mem_nil, or_false] at hu
 rcases hu with rfl | rfl | rfl | rfl <;> rfl
theorem one_slotC (s : SlotL) : ∀ u ∈ (slotC s).toArray.toList, u.oneCell' = true := by
 intro u hu
 simp only [slotC, List.mem_cons, List.not_mem_nil, or_false] at hu
 rcases hu with rfl | rfl | rfl | rfl <;> rfl
theorem slotCells_set : ∀ (l : List SlotL) (k j : Nat) (s s' : SlotL) (v : Value), l[k]? = some s → j < 4 → (slotC s).set j v = slotC s' → (slotCells l).set (k * 4 + j) v = slotCells (l.set k s')
 | [], k, j, s, s', v, h, _, _ => by simp at h
 | x :: d, 0, j, s, s', v, h, hj, hs => by
  simp at h
  subst h
  simp only [slotCells, List.flatMap_cons, List.set_cons_zero, Nat.zero_mul, Nat.zero_add]
  rw [List.set_append_left _ _ (by simp [slotC]; omega), hs]
 | x :: d, k + 1, j, s, s', v, h, hj, hs => by
  simp only [List.getElem?_cons_succ] at h
  have := slotCells_set d k j s s' v h hj hs
  simp only [slotCells, List.flatMap_cons, List.set_cons_succ] at this ⊢
  rw [List.set_append_right _ _ (by simp [slotC]; omega), ← this]
  congr 2
  simp [slotC]
  omega
def IsSlots (c : View) (v : Value) (l : List SlotL) : Prop := Rds c v 4 l.length (slotCells l)
theorem IsSlots.mono {c c' : View} (hl : Le c c') {v : Value} {l : List SlotL} (h : IsSlots c v l) : IsSlots c' v l := Rds.mono hl h
theorem IsSlots.form {c : View} {v : Value} {l : List SlotL} (h : IsSlots c v l) : ∃ A k, v = .slice A l.length k ∧ l.length ≤ k ∧ ∀ i (hi : i < l.length), ∃ ad, A = some ad ∧ Cells c (ad.add (i * 4)) (slotC l[i]) := by
 obtain ⟨A, k, h1, h2, _, h4⟩ := h
 refine ⟨A, k, h1, h2, fun i hi => ?_⟩
 obtain ⟨ad, h6, h7⟩ := h4 (by omega)
 refine ⟨ad, h6, fun j v hj => ?_⟩
 rw [add_add]
 exact h7 _ _ (slotCells_at l i _ (List.getElem?_eq_getElem hi) j v hj)
abbrev TabL := Nat → List SlotL
def isO (by_ : Int) (s : SlotL) : Bool := decide (s.by_ = by_) && s.opn
def befStep (by_ : Int) (acc : Int × Int) (s : SlotL) : Int × Int := if s.by_ < by_ ∧ s.vd = false then (if s.opn = true then (0, s.by_) else (s.n, -1)) else acc
def befL (l : List SlotL) (by_ : Int) : Int × Int := l.foldl (befStep by_) (0, -1)
def befT (T : TabL) (k by_ : Int) : Int × Int := if 0 ≤ k ∧ k < 10 then befL (T k.toNat) by_ else (0, -1)
def chgL (l : List SlotL) (by_ : Int) (x : SlotL) : List SlotL := l.set (l.findIdx (isO by_)) x
def chgT (T : TabL) (k by_ : Int) (x : SlotL) : TabL := if 0 ≤ k ∧ k < 10 then upd T k.toNat (chgL (T k.toNat) by_ x) else T
def hasT (T : TabL) (k by_ : Int) : Bool := decide (0 ≤ k ∧ k < 10) && (T k.toNat).any (isO by_)
def overT (T : TabL) : Bool := (List.range 10).all fun k => (T k).all fun s => !s.opn
def valStep (a : Int) (s : SlotL) : Int := if s.opn = false ∧ s.vd = false then s.n else a
def valL (l : List SlotL) : Int := l.foldl valStep 0
def stateT (T : TabL) : List Int := tab 10 fun k => valL (T k)
def rowsAt (r : RoundL) (k : Nat) : Nat → List SlotL
 | 0 => []
 | m + 1 => rowsAt r k m ++ (if (k : Int) ∈ storesOf (r.getD m []) then [⟨m, true, false, 0⟩] else [])
def newT (s : List Int) (r : RoundL) : TabL := fun k => ⟨-1, false, false, s.getD k 0⟩ :: rowsAt r k r.length
theorem befL_snoc (l : List SlotL) (x : SlotL) (by_ : Int) : befL (l ++ [x]) by_ = befStep by_ (befL l by_) x := by simp [befL, List.foldl_append]
theorem valL_snoc (l : List SlotL) (x : SlotL) : valL (l ++ [x]) = valStep (valL l) x := by simp [valL, List.foldl_append]
theorem any_none {p : SlotL → Bool} {l : List SlotL} (h : l.any p = false) : l.findIdx p = l.length := by
 rw [List.findIdx_eq_length]
 intro x hx
 rw [List.any_eq_false] at h
 simpa using h x hx
theorem chgL_none {l : List SlotL} {by_ : Int} {x : SlotL} (h : l.any (isO by_) = false) : chgL l by_ x = l := by
 unfold chgL
 rw [any_none h]
 exact List.set_eq_of_length_le (Nat.le_refl _)
theorem chgT_none {T : TabL} {k by_ : Int} {x : SlotL} (h : hasT T k by_ = false) : chgT T k by_ x = T := by
 unfold chgT
 split
 ·rename_i hk
  unfold hasT at h
  rw [decide_eq_true hk, Bool.true_and] at h
  rw [chgL_none h, upd_self]
 ·rfl
theorem find_is {p : SlotL → Bool} {l : List SlotL} {i : Nat} (hi : i < l.length) (h : p l[i] = true) (hb : ∀ x ∈ l.take i, p x = false) : l.findIdx p = i := by
 rw [List.findIdx_eq hi]
 refine ⟨h, fun j hj => ?_⟩
 have : l[j] ∈ l.take i := by
  rw [List.mem_take_iff_getElem]
  exact ⟨j, by omega, rfl⟩
 exact hb _ this
theorem any_at {p : SlotL → Bool} {l : List SlotL} {i : Nat} (hi : i < l.length) (h : p l[i] = true) : l.any p = true := List.any_eq_true.2 ⟨_, List.getElem_mem hi, h⟩
theorem any_not {p : SlotL → Bool} {l : List SlotL} (h : ∀ x ∈ l, p x = false) : l.any p = false := by
 rw [List.any_eq_false]
 intro x hx
 simp [h x hx]
end Go.SL
end
section
namespace Go.SL
def twoV (p : Int × Int) : Value := .agg #[.int .i64 p.1, .int .i64 p.2]
theorem run_equalTwo {P : Program} {t ti : TypeId} {f0 f1 : Field} (ht : P.underlying t = some (.struct #[f0, f1])) (hp : P.stoodInHeld t = false)
  (h0 : (f0.name != "_" && f1.name != "_" && Nat.beq f0.offset 0 && Nat.beq f1.offset 1) = true)
  (hf0 : f0.type = ti) (hf1 : f1.type = ti) (hi : P.underlying ti = some (.int .i64)) (o o' : Int × Int) (w : World) :
  (Op.equalIn 10000 t (twoV o) (twoV o')).run P w = .ok (decide (o = o')) w := by
 simp only [Bool.and_eq_true, bne_iff_ne, ne_eq] at h0
 obtain ⟨⟨⟨n0, n1⟩, o0⟩, o1⟩ := h0
 have o0 := Nat.eq_of_beq_eq_true o0
 have o1 := Nat.eq_of_beq_eq_true o1
 have hfs : P.fieldsOf t = #[f0, f1] := by simp [Program.fieldsOf, ht]
 have hpi : P.plainKey ti = true := by simp [Program.plainKey, hi]
 obtain ⟨k, a⟩ := o
 obtain ⟨k', a'⟩ := o'
 have part1 : ∀ {tt : TypeId} (_ : P.plainKey tt = true) (k a : Int) (j : Nat) (v : Value), (#[.int .i64 k, .int .i64 a] : Array Value)[j]? = some v → (part tt #[.int .i64 k, .int .i64 a] j).run P w = .ok v w := fun h k a j v hj => run_part_plain w h hj
 unfold twoV
 rw [run_equalIn_struct w 9999 t _ _ (by rw [hfs]; exact ht) hp, hfs]
 simp only [Op.eqFields, ne_eq, n0, n1, not_false_eq_true, if_true, o0, o1, hf0, hf1, Sem.run_bind, part1 hpi _ _ 0 _ rfl, part1 hpi _ _ 1 _ rfl, Result.andThen_ok, run_equalIn_int w 9998 ti .i64 .i64 _ _ hi]
 by_cases e1 : k = k' <;> by_cases e2 : a = a' <;>
  simp [e1, e2, part1 hpi _ _ 1 _ rfl, run_equalIn_int w 9998 ti .i64 .i64 _ _ hi]
section
variable {C : Cx} {l : Fr} {m : Hp} {ty t' : TypeId} {pos : String} {after : Array Edge} {dst : Option Nat} {gd : Option (Nat × Bool)} {x y : Operand}
theorem v_field {t : TypeId} {fs : Array Field} {f : Field} {i : Nat} {cs : Array Value} {v : Value} (ht : C.P.underlying t = some (.struct fs)) (hf : fs[i]? = some f) (hp : C.P.plainKey f.type = true) (hx : rd l x = some (.agg cs)) (hv : cs[f.offset]? = some v) : OpV C l m ⟨dst, .field t x i, ty, pos, after, gd⟩ v := fun a w ha _ => by
 simp [execOp, rd_eval ha.knows hx, Instr.field, run_underlying ht, hf, asAgg, run_part_plain w hp hv]
theorem v_neqTwo {t ti : TypeId} {f0 f1 : Field} (ht : C.P.underlying t = some (.struct #[f0, f1])) (hp : C.P.stoodInHeld t = false) (hm : C.P.eqGuardType C.P.depth t = false)
  (h0 : (f0.name != "_" && f1.name != "_" && Nat.beq f0.offset 0 && Nat.beq f1.offset 1) = true)
  (hf0 : f0.type = ti) (hf1 : f1.type = ti) (hi : C.P.underlying ti = some (.int .i64)) {o o' : Int × Int}
  (hx : rd l x = some (twoV o)) (hy : rd l y = some (twoV o')) : OpV C l m ⟨dst, .binOp .neq t x y t', ty, pos, after, gd⟩ (.bool (decide (¬ o = o'))) :=
 fun a w ha _ => by
  have h1 := run_equalTwo ht hp h0 hf0 hf1 hi o o' w
  simp only [twoV] at h1
  simp only [execOp, rd_eval ha.knows hx, rd_eval ha.knows hy, twoV, Sem.run_bind, run_eqGuard_agg _ _ _ _ _ _ _ hm, Result.andThen_ok, run_neq_struct, h1]
  simp
end
end Go.SL
end
section
namespace Go.SL
open Go
set_option maxRecDepth 100000
theorem run_store_own {P : Program} {w : World} {t : TypeId} {g n cap e size o : Nat} {xs : List Value} {v : Value} (h : (Own (.slice (some ⟨g, 0, none⟩) n cap) e size n xs).holds w) (hi : P.info? t ≠ none) (hn : P.cellsOf t = v.cells.size) (ho : o + v.cells.size ≤ xs.length) (h1 : ∀ u ∈ v.cells.toList, u.oneCell' = true) :
  ∃ w', (Instr.storeAt t (.pointer (some ⟨g, o, none⟩)) v).run P w = .ok () w' ∧ Res w [Own (.slice (some ⟨g, 0, none⟩) n cap) e size n xs] [Own (.slice (some ⟨g, 0, none⟩) n cap) e size n (xs.take o ++ v.cells.toList ++ xs.drop (o + v.cells.size))] w' := by
 obtain ⟨hl, ⟨h2, _⟩ | ⟨g', cap', cur, hv, h3, h4, h5, h6, h7, h8⟩⟩ := (show w.ownsRow 0 e size (.slice (some ⟨g, 0, none⟩) n cap) n xs from h)
 ·cases h2
 ·injection hv with e1 e2 e3
  injection e1 with e1
  injection e1 with e1 _ _
  subst e1
  subst e3
  have hblk : (Chunk.blk g e cur.toList).holds w := by simpa [Chunk.holds] using h4
  have hle : n * size ≤ cap * size := Nat.mul_le_mul_right _ h5
  have hcl : cur.toList.length = cap * size := by simpa using h7
  obtain ⟨w', hrun, hres⟩ := run_store_blk (P := P) (o := o) (v := v) hblk hi hn (by omega) h1
  have hnew := hres.hold _ (List.mem_singleton.2 rfl)
  refine ⟨w', hrun, ⟨hres.chg.os, hres.chg.tape, hres.chg.output, hres.chg.size, fun b hb hf => hres.chg.block b hb (fun ⟨c, hc, hcb⟩ => ?_)⟩, ?_, by simp, ?_⟩
  ·simp only [List.mem_singleton] at hc
   subst hc
   refine hf ⟨_, List.mem_singleton.2 rfl, ?_⟩
   show some g = some b
   have hcb : b = g := hcb
   rw [hcb]
  ·intro c hc
   simp only [List.mem_singleton] at hc
   subst hc
   refine ⟨?_, .inr ⟨g, cap, _, rfl, h3, hnew, h5, h6, ?_, ?_⟩⟩
   ·simp; omega
   ·simp; simp at hcl; omega
   ·rw [← h8]
    simp only [List.toList_toArray]
    have e1 : (cur.toList.take o).length = o := by simp; simp at hcl; omega
    rw [List.append_assoc, List.append_assoc, List.take_append, List.take_append, e1]
    rw [List.take_take, List.take_take, show min (n * size) o = o from by omega, show min o (n * size) = o from by omega]
    rw [List.take_of_length_le (l := v.cells.toList) (by simp; omega)]
    rw [List.drop_take]
    simp only [Array.length_toList]
    rw [show n * size - o - v.cells.size = n * size - (o + v.cells.size) from by omega]
  ·intro c hc b hb
   simp only [List.mem_singleton] at hc
   subst hc
   exact .inr ⟨_, List.mem_singleton.2 rfl, hb⟩
section
variable {C : Cx} {l : Fr} {m : Hp} {ty : TypeId} {pos : String} {after : Array Edge}
theorem x_storeW {Φ : Act → World → Prop} {Q : Exit → Act → World → Prop} {x y : Operand} {v : Value} {t : TypeId} {g n cap e size o : Nat} {xs : List Value} (i : Nat) (hm : m[i]? = some (Own (.slice (some ⟨g, 0, none⟩) n cap) e size n xs)) (hx : rd l x = some (.pointer (some ⟨g, o, none⟩))) (hy : rd l y = some v)
  (hi : C.P.info? t ≠ none) (hn : C.P.cellsOf t = v.cells.size) (ho : o + v.cells.size ≤ xs.length) (h1 : ∀ u ∈ v.cells.toList, u.oneCell' = true) (xs' : List Value) (hxs : xs.take o ++ v.cells.toList ++ xs.drop (o + v.cells.size) = xs')
  (h : G C l (m.set i (Own (.slice (some ⟨g, 0, none⟩) n cap) e size n xs')) Φ) : G C l m (fun a w => Oper.wp C.P ⟨none, .store t x y, ty, pos, after, none⟩ a w Φ Q) := by
 intro a w ha hw
 obtain ⟨w', hrun, hres⟩ := run_store_own (P := C.P) (hw.mem hm) hi hn ho h1
 rw [hxs] at hres
 have : (execOp a.eval (⟨none, .store t x y, ty, pos, after, none⟩ : Oper)).run C.P w = .ok .skip w' := by
  simp [execOp, rd_eval ha.knows hx, rd_eval ha.knows hy, hrun]
 unfold Oper.wp
 rw [this]
 exact h _ _ ha (hw.at_ hm hres)
theorem g_shapeW {Φ : Act → World → Prop} {v : Value} {e size n : Nat} {xs : List Value} (i : Nat) (hm : m[i]? = some (Own v e size n xs)) (hn : 0 < n) (h : ∀ g k, v = .slice (some ⟨g, 0, none⟩) n k → n ≤ k → G C l m Φ) : G C l m Φ := fun a w ha hw => by
 obtain ⟨h1, ⟨h2, h3⟩ | ⟨g, cap, cur, hv, _, _, h5, _⟩⟩ := (show w.ownsRow 0 e size v n xs from hw.mem hm)
 ·omega
 ·exact h g cap hv h5 a w ha hw
end
section
variable {C : Cx} {l : Fr} {m : Hp} {ty : TypeId} {pos : String} {after : Array Edge} {dst : Option Nat} {gd : Option (Nat × Bool)}
theorem v_loadW2 {x : Operand} {g t e size n k j : Nat} {xs : List Value} {v : Value} {u : TypeDesc} (i : Nat) (hm : m[i]? = some (Own (.slice (some ⟨g, 0, none⟩) n k) e size n xs)) (hj : xs[j]? = some v) (ht : C.P.underlying t = some u) (hu : (match u with | .struct _ | .array _ _ => true | _ => false) = false)
  (hx : rd l x = some (.pointer (some ⟨g, j, none⟩))) : OpV C l m ⟨dst, .load t x, ty, pos, after, gd⟩ v :=
 v_load1 ht hu hx fun w hw => by
  obtain ⟨h1, ⟨h2, h3⟩ | ⟨g', cap, cur, hv, _, h4, h5, _, h7, h8⟩⟩ := (show World.ownsRow _ 0 e size (.slice (some ⟨g, 0, none⟩) n k) n xs from hw.mem hm)
  ·cases h2
  ·injection hv with e1 e2 e3
   injection e1 with e1
   injection e1 with e1 _ _
   subst e1
   have hblk : (Chunk.blk g e cur.toList).holds w := by simpa [Chunk.holds] using h4
   rw [blk_cell hblk]
   rw [← h8] at hj
   have hlt : j < n * size := by
    rcases Nat.lt_or_ge j (n * size) with h | h
    ·exact h
    ·rw [List.getElem?_eq_none (by simp; omega)] at hj; cases hj
   rw [List.getElem?_take_of_lt hlt] at hj
   exact hj
end
theorem slot_put {l : List SlotL} {i j : Nat} {s s' : SlotL} {v : Value} (hi : l[i]? = some s) (hv : v.cells = #[v]) (hj : j < 4) (hs : (slotC s).set j v = slotC s') :
  (slotCells l).take (0 + i * 4 + j) ++ v.cells.toList ++ (slotCells l).drop (0 + i * 4 + j + v.cells.size) = slotCells (l.set i s') := by
 rw [← slotCells_set l i j s s' v hi hj hs, hv]
 have hlt := (List.getElem?_eq_some_iff.1 hi).1
 have : i * 4 + j < (slotCells l).length := by rw [slotCells_len]; omega
 rw [Nat.zero_add, List.set_eq_take_append_cons_drop, if_pos this]
 simp
theorem rows_upd {T : TabL} {k n : Nat} {l' : List SlotL} (hn : l'.length = n) : upd (fun k => ((T k).length, slotCells (T k))) k (n, slotCells l') = fun k' => ((upd T k l' k').length, slotCells (upd T k l' k')) := by
 funext j
 unfold upd
 split
 ·rw [hn]
 ·rfl
theorem St.tbTake {w0 w : World} {F : Nat → Prop} {mr : Hp} {e size N k : Nat} {hs : Nat → Value} {T : Nat → Nat × List Value} {c : Chunk} (hk : k < N) (h : St w0 F (c :: Rows e size N hs T :: mr) w) :
  St w0 F (Own (hs k) e size (T k).1 (T k).2 :: Lst ((tab N fun k => Own (hs k) e size (T k).1 (T k).2).set k Emp) :: c :: mr) w :=
 St.rowTake hk (h.perm (.swap _ _ _))
theorem St.tbPut {w0 w : World} {F : Nat → Prop} {mr : Hp} {e size N n k : Nat} {hs : Nat → Value} {T : Nat → Nat × List Value} {v : Value} {xs : List Value} {c : Chunk} (h : St w0 F (Own v e size n xs :: Lst ((tab N fun k => Own (hs k) e size (T k).1 (T k).2).set k Emp) :: c :: mr) w) :
  St w0 F (c :: Rows e size N (upd hs k v) (upd T k (n, xs)) :: mr) w := h.rowPut.perm (.swap _ _ _)
theorem at0 (g n : Nat) : (⟨g, 0, none⟩ : Addr).add n = ⟨g, 0 + n, none⟩ := by
 unfold Addr.add
 by_cases h : n = 0 <;> simp [h]
end Go.SL
end
section
namespace Go.SL
open Go
set_option maxRecDepth 100000
theorem St.rows0 {w0 w : World} {F : Nat → Prop} {m : Hp} (e size N : Nat) (h : St w0 F m w) : St w0 F (Rows e size N (fun _ => .slice none 0 0) (fun _ => (0, [])) :: m) w := by
 have hf : ∀ b, ¬ (Rows e size N (fun _ => .slice none 0 0) (fun _ => (0, []))).foot b := by
  rintro b ⟨c, hc, hb⟩
  obtain ⟨k, _, rfl⟩ := tab_mem.1 hc
  cases hb
 refine ⟨h.chg, fun c hc => ?_, List.pairwise_cons.2 ⟨fun d _ b hb => (hf b hb).elim, h.sep⟩, fun c hc b hb => ?_⟩
 ·rcases List.mem_cons.1 hc with rfl | hc
  ·refine ⟨fun d hd => ?_, ?_⟩
   ·obtain ⟨k, _, rfl⟩ := tab_mem.1 hd
    exact own_nil w e size
   ·refine List.pairwise_of_forall_mem_list (fun d hd d' _ b hb => ?_)
    exact absurd ⟨d, hd, hb⟩ (hf b)
  ·exact h.hold c hc
 ·rcases List.mem_cons.1 hc with rfl | hc
  ·exact (hf b hb).elim
  ·exact h.own c hc b hb
theorem St.rowSwap {w0 w : World} {F : Nat → Prop} {m : Hp} {e size N n k : Nat} {hs : Nat → Value} {T : Nat → Nat × List Value} {v : Value} {xs : List Value} (hk : k < N) (h : St w0 F (Own v e size n xs :: Rows e size N hs T :: m) w) :
  St w0 F (Rows e size N (upd hs k v) (upd T k (n, xs)) :: m) w :=
 St.rowPut ((((h.perm (.swap _ _ _)).rowTake hk).sub (List.sublist_cons_self _ _)).perm (.swap _ _ _))
theorem St.rowApp {w0 w : World} {F : Nat → Prop} {mr : Hp} {p et e size N n k : Nat} {hs : Nat → Value} {T : Nat → Nat × List Value} {v : Value} {xs : List Value} (h : St w0 F (Own v e size n xs :: Lst ((tab N fun k => Own (hs k) e size (T k).1 (T k).2).set k Emp) :: .blk p et ((tab N hs).set k v) :: mr) w) :
  St w0 F (.blk p et (tab N (upd hs k v)) :: Rows e size N (upd hs k v) (upd T k (n, xs)) :: mr) w := by
 have e := tab_set (N := N) (k := k) (g := hs) (x := v)
 rw [e] at h
 exact h.tbPut
end Go.SL
end
section
namespace Go.SL
open Go
set_option maxRecDepth 100000
section
variable {C : Cx} {l : Fr} {m : Hp} {ty : TypeId} {pos : String} {after : Array Edge} {dst : Option Nat}
theorem x_callM {Φ : Act → World → Prop} {Q : Exit → Act → World → Prop} {f : FuncId} {fx : Operand} {xs : Array Operand} {ats : Array TypeId} {cap args : Array Value} {vs : List Value} (mc mr : Hp) {σ : Type} (J : σ → Prop) (val : σ → Value) (mc' : σ → Hp)
  (hm : m.Perm (mc ++ mr)) (hf : rd l fx = some (.func (.func f) #[] cap)) (hx : rdAll l xs.toList = some vs) (hargs : (vs ++ cap.toList).toArray = args)
  (hcall : ∀ args w, (callFunc f args).run C.P w = .ok (.enter f args) w)
  (hc : ∀ w, St C.w0 C.F (mc ++ mr) w → Calls C.P f args w (fun e w' => ∃ s, J s ∧ e = .returned (val s) ∧ Res w mc (mc' s) w'))
  (hd : (match dst with | some d => Nat.blt d C.N | none => true) = true)
  (h : ∀ s, J s → G C (match dst with | some d => (d, val s) :: l | none => l) (mc' s ++ mr) Φ) :
  G C l m (fun a w => Oper.wp C.P ⟨dst, .call ⟨.value fx, xs, ats⟩, ty, pos, after, none⟩ a w Φ Q) := fun a w ha hw =>
 x_call (mc := mc) (mr := mr) J val mc' hf hx hargs hcall hc hd h a w ha (hw.perm hm)
end
theorem res_part {w0 w : World} {F : Nat → Prop} {a b : Hp} (h : St w0 F (a ++ b) w) : (∀ c ∈ a, c.holds w) ∧ a.Pairwise Disj := ⟨fun c hc => h.hold c (List.mem_append_left _ hc), (List.pairwise_append.1 h.sep).1⟩
end Go.SL
end
section
namespace Go.SL
open Go
set_option maxRecDepth 100000
structure OkRow (l : List SlotL) : Prop where
 ris : (l.map fun s => s.by_).Pairwise (· < ·)
 opn : ∀ s ∈ l, s.opn = true → 0 ≤ s.by_ ∧ s.vd = false ∧ s.n = 0
def OkT (T : TabL) : Prop := ∀ k, OkRow (T k)
theorem find_split {l : List SlotL} {by_ : Int} (h : l.any (isO by_) = true) : ∃ a s b, l = a ++ s :: b ∧ s.by_ = by_ ∧ s.opn = true ∧ l.findIdx (isO by_) = a.length := by
 have hlt := List.findIdx_lt_length.2 (List.any_eq_true.1 h)
 have hp := List.findIdx_getElem (w := hlt)
 unfold isO at hp
 obtain ⟨h3, h4⟩ := Bool.and_eq_true_iff.1 hp
 refine ⟨l.take (l.findIdx (isO by_)), l[l.findIdx (isO by_)], l.drop (l.findIdx (isO by_) + 1), ?_, of_decide_eq_true h3, h4, by simp; omega⟩
 rw [← List.drop_eq_getElem_cons hlt, List.take_append_drop]
theorem chgL_split {l a b : List SlotL} {s x : SlotL} {by_ : Int} (h : l = a ++ s :: b) (hi : l.findIdx (isO by_) = a.length) : chgL l by_ x = a ++ x :: b := by
 unfold chgL
 rw [hi, h, List.set_append_right _ _ (Nat.le_refl _), Nat.sub_self, List.set_cons_zero]
def act (by_ : Int) (s : SlotL) : Prop := s.by_ < by_ ∧ s.vd = false
theorem fold_id {by_ : Int} : ∀ {b : List SlotL} {acc : Int × Int}, (∀ t ∈ b, ¬ act by_ t) → b.foldl (befStep by_) acc = acc
 | [], _, _ => rfl
 | t :: b, acc, h => by
  rw [List.foldl_cons]
  have : befStep by_ acc t = acc := by unfold befStep; exact if_neg (h t List.mem_cons_self)
  rw [this]
  exact fold_id (fun t ht => h t (List.mem_cons_of_mem _ ht))
end Go.SL
end
