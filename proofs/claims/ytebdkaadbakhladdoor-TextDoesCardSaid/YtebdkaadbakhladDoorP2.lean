/- YtebdkaadbakhladDoor: part P2 of this seat's own texts. -/
import Derived.ChangeKeysEq
import Derived.Laws.StructEq
import Derived.Laws.IdiomStrings
import Derived.Laws.Strings
import Derived.Laws.Build
import Derived.Recover
import Derived.Test.YtebdkaadbakhladDoorP1
set_option linter.unusedVariables false
set_option linter.unusedSimpArgs false
section
namespace Go.SL
/-! ## '==' of arrays of integers, and of results -/
section
variable {C : Cx} {l : Fr} {m : Hp} {ty t' : TypeId} {pos : String} {after : Array Edge} {dst : Option Nat} {gd : Option (Nat × Bool)} {x y : Operand}
theorem v_is {o : Oper} {v v' : Value} (h : OpV C l m o v) (e : v = v') : OpV C l m o v' := e ▸ h
end
end Go.SL
end
section
namespace Go.SL
open Go.RowKit
set_option linter.unusedSectionVars false
/-! ## slices of slices -/
def slV (A : Option Addr) (lo hi cap s : Nat) : Value := .slice (if cap = lo then A else A.map (·.add (lo * s))) (hi - lo) (cap - lo)
theorem slV_0 (A : Option Addr) (hi cap s : Nat) : slV A 0 hi cap s = .slice (if cap = 0 then A else A.map (·.add 0)) hi cap := by simp [slV]
theorem add_zero (a : Addr) : a.add 0 = a := by unfold Addr.add; simp
theorem slV_0' (A : Option Addr) (hi cap s : Nat) : slV A 0 hi cap s = .slice A hi cap := by
  rw [slV_0]
  cases A <;> simp [add_zero]
theorem slV_rds {c : View} {A : Option Addr} {n cap size lo hi : Nat} {xs : List Value} (h : Rds c (.slice A n cap) size n xs) (h1 : lo ≤ hi) (h2 : hi ≤ n) : Rds c (slV A lo hi cap size) size (hi - lo) ((xs.drop (lo * size)).take ((hi - lo) * size)) := by
  obtain ⟨A', k, he, hk, hl, hc⟩ := h
  injection he with e1 e2 e3
  subst e1; subst e3
  have hmul : lo * size + (hi - lo) * size = hi * size := by rw [← Nat.add_mul]; congr 1; omega
  have hmul2 : hi * size ≤ n * size := Nat.mul_le_mul_right _ h2
  refine ⟨_, _, rfl, by omega, by rw [List.length_take, List.length_drop, hl]; omega, fun hp => ?_⟩
  obtain ⟨ad, rfl, hcl⟩ := hc (by omega)
  rw [if_neg (by omega)]
  refine ⟨_, rfl, fun j v hj => ?_⟩
  rw [add_add]
  refine hcl _ _ ?_
  rw [List.getElem?_take] at hj
  split at hj
  · rw [List.getElem?_drop] at hj; exact hj
  · cases hj
section
variable {C : Cx} {l : Fr} {m : Hp} {ty : TypeId} {pos : String} {after : Array Edge} {dst : Option Nat} {g : Option (Nat × Bool)}
theorem elem_of {P : Program} {t e : TypeId} (ht : P.underlying t = some (.slice e)) : P.elem t = e := by simp [Program.elem, ht]
theorem run_sizeOf' {P : Program} {e : TypeId} {z : Nat} (hz : P.info? e ≠ none) (hc : P.cellsOf e = z) (w : World) : (sizeOf e).run P w = .ok z w := by
  unfold Program.cellsOf at hc
  cases hi' : P.info? e with
  | none => exact absurd hi' hz
  | some i => simp [hi'] at hc; simp [sizeOf, typeInfo, hi', hc]
theorem v_sliceL {x y : Operand} {A : Option Addr} {n cap s : Nat} {t e : TypeId} {k : IntKind} {i : Int} (ht : C.P.underlying t = some (.slice e)) (hz : C.P.info? e ≠ none) (hc : C.P.cellsOf e = s) (hx : rd l x = some (.slice A n cap)) (hy : rd l y = some (.int k i))
    (h : 0 ≤ i ∧ i ≤ n) : OpV C l m ⟨dst, .slice t x (some y) none none, ty, pos, after, g⟩ (slV A i.toNat n cap s) := fun a w ha hw => by
  have ht' := elem_of ht
  have h1 := run_sliceAt_slice (P := C.P) (w := w) t (.slice A n cap) (some (.int k i)) none none (by rw [ht']; exact ht)
  have h2 := run_slice_l (P := C.P) (w := w) t A n cap (by rw [ht']; exact ht) k i h.1 h.2
  simp [execOp, rd_eval ha.knows hx, rd_eval ha.knows hy, h1, h2, ht', run_sizeOf' hz hc, sliced, slV]
end
theorem IsRound.take {c : View} {A : Option Addr} {cap : Nat} {r : RoundL} (h : IsRound c (.slice A r.length cap) r) {k : Nat} (hk : k ≤ r.length) : IsRound c (slV A 0 k cap 1) (r.take k) := by
  obtain ⟨vs, h1, h2⟩ := h
  have h3 := slV_rds (lo := 0) (hi := k) h1 (by omega) hk
  simp only [Nat.sub_zero, Nat.zero_mul, List.drop_zero, Nat.mul_one] at h3
  have hl : (r.take k).length = k := by simp; omega
  refine ⟨vs.take k, by rw [hl]; exact h3, fun i hi => ?_⟩
  rw [hl] at hi
  obtain ⟨u, h4, h5⟩ := h2 i (by omega)
  refine ⟨u, by rw [List.getElem?_take, if_pos hi]; exact h4, by rw [List.getElem_take]; exact h5⟩
theorem IsRound.drop {c : View} {A : Option Addr} {cap : Nat} {r : RoundL} (h : IsRound c (.slice A r.length cap) r) {k : Nat} (hk : k ≤ r.length) : IsRound c (slV A k r.length cap 1) (r.drop k) := by
  obtain ⟨vs, h1, h2⟩ := h
  have h3 := slV_rds (lo := k) (hi := r.length) h1 hk (Nat.le_refl _)
  have hvl : vs.length = r.length := by obtain ⟨_, _, _, _, h, _⟩ := h1; simpa using h
  simp only [Nat.mul_one] at h3
  have hl : (r.drop k).length = r.length - k := by simp
  have h5 : (vs.drop k).take (r.length - k) = vs.drop k := List.take_of_length_le (by simp; omega)
  rw [h5] at h3
  refine ⟨vs.drop k, by rw [hl]; exact h3, fun i hi => ?_⟩
  rw [hl] at hi
  obtain ⟨u, h4, h6⟩ := h2 (k + i) (by omega)
  exact ⟨u, by rw [List.getElem?_drop]; exact h4, by rw [List.getElem_drop]; exact h6⟩

/-! ## memory of some blocks alone -/
noncomputable def cutTo (w : World) (F : Nat → Prop) : World := { w with heap := w.heap.mapIdx fun i o => open Classical in if F i then o else .cells #[] 0 (0, 0) }
theorem cutTo_in {w : World} {F : Nat → Prop} {b : Nat} (h : F b) : (cutTo w F).heap[b]? = w.heap[b]? := by
  simp only [cutTo, Array.getElem?_mapIdx, h, if_true]
  cases w.heap[b]? <;> rfl
theorem cutTo_le (w : World) (F : Nat → Prop) : Le (cutTo w F).cell? w.cell? := by
  intro p v h
  by_cases hF : F p.block
  · rw [← h]; exact (World.cell?_of_block (cutTo_in hF)).symm
  · simp only [World.cell?, cutTo, Array.getElem?_mapIdx, hF, if_false] at h
    cases hb : w.heap[p.block]? <;> simp [hb] at h
theorem cutTo_same {w w' : World} {F : Nat → Prop} (h : ∀ b, F b → w'.heap[b]? = w.heap[b]?) : (cutTo w' F).cell? = (cutTo w F).cell? := by
  funext p
  by_cases h1 : F p.block
  · exact World.cell?_of_block ((cutTo_in h1).trans ((h _ h1).trans (cutTo_in h1).symm))
  · simp only [World.cell?, cutTo, Array.getElem?_mapIdx, h1, if_false]
    cases w.heap[p.block]? <;> cases w'.heap[p.block]? <;> simp
theorem Chunk.cutTo {c : Chunk} {w : World} {F : Nat → Prop} (h : c.holds w) (hF : ∀ b, c.foot b → F b) : c.holds (SL.cutTo w F) := Chunk.stable (fun b hb => cutTo_in (hF b hb)) h
def keepG (F : Nat → Prop) (p : View → Prop) : Gen where
  foot := F
  holds w := (∀ b, F b → b < w.heap.size) ∧ p (cutTo w F).cell?
  lt h hf := h.1 _ hf
  stable {w w'} hs h := by
    refine ⟨fun b hb => ?_, by rw [cutTo_same hs]; exact h.2⟩
    rcases Nat.lt_or_ge b w'.heap.size with hl | hg
    · exact hl
    · have h1 := hs b hb
      rw [Array.getElem?_eq_none hg] at h1
      have h2 := h.1 b hb
      rw [Array.getElem?_eq_getElem h2] at h1
      cases h1
/-- what can be read of the blocks in F alone -/
abbrev Keep (F : Nat → Prop) (p : View → Prop) : Chunk := .gen (keepG F p)
def Up (p : View → Prop) : Prop := ∀ c c', Le c c' → p c → p c'
/-- chunks that stand ahead become one -/
theorem St.keep {w0 w : World} {F : Nat → Prop} {mc m : Hp} (p : View → Prop) (h : St w0 F (mc ++ m) w) (hp : (∀ c ∈ mc, c.holds w) → p (cutTo w (feet mc)).cell?) : St w0 F (Keep (feet mc) p :: m) w := by
  have hsep := List.pairwise_append.1 h.sep
  have hmc : ∀ c ∈ mc, c.holds w := fun c hc => h.hold c (by simp [hc])
  refine ⟨h.chg, ?_, ?_, ?_⟩
  · intro c hc
    rcases List.mem_cons.1 hc with rfl | hc
    · exact ⟨fun b ⟨c, hc, hb⟩ => Chunk.lt (hmc c hc) hb, hp hmc⟩
    · exact h.hold c (by simp [hc])
  · refine List.pairwise_cons.2 ⟨fun d hd b ⟨c, hc, hb⟩ hdb => hsep.2.2 c hc d hd b hb hdb, hsep.2.1⟩
  · intro c hc b hb
    rcases List.mem_cons.1 hc with rfl | hc
    · obtain ⟨c, hc, hb⟩ := hb
      exact h.own c (by simp [hc]) b hb
    · exact h.own c (by simp [hc]) b hb
theorem St.imp {w0 w : World} {F : Nat → Prop} {m : Hp} {c c' : Chunk} (h : St w0 F (c :: m) w) (hf : ∀ b, c'.foot b → c.foot b) (hh : c.holds w → c'.holds w) : St w0 F (c' :: m) w := by
  have hsep := List.pairwise_cons.1 h.sep
  refine ⟨h.chg, ?_, List.pairwise_cons.2 ⟨fun d hd b hb hdb => hsep.1 d hd b (hf b hb) hdb, hsep.2⟩, ?_⟩
  · intro d hd
    rcases List.mem_cons.1 hd with rfl | hd
    · exact hh (h.hold c (by simp))
    · exact h.hold d (by simp [hd])
  · intro d hd b hb
    rcases List.mem_cons.1 hd with rfl | hd
    · exact h.own c (by simp) b (hf b hb)
    · exact h.own d (by simp [hd]) b hb
/-! ## panics -/
section
variable {C : Cx} {l : Fr} {m : Hp} {ty : TypeId} {pos : String} {after : Array Edge} {dst : Option Nat}
end
/-! ## bytes -/
def byteCells (l : List UInt8) : List Value := l.map fun b => .int .u8 (b.toNat : Int)
def IsBytes (c : View) (v : Value) (b : List UInt8) : Prop := Rds c v 1 b.length (byteCells b)
theorem IsBytes.mono {c c' : View} (hl : Le c c') {v : Value} {b : List UInt8} (h : IsBytes c v b) : IsBytes c' v b := Rds.mono hl h
def ub (n : Int) : UInt8 := UInt8.ofNat (n % 256).toNat
theorem IsBytes.slice {c : View} {A : Option Addr} {cap lo hi : Nat} {b : List UInt8} (h : IsBytes c (.slice A b.length cap) b) (h1 : lo ≤ hi) (h2 : hi ≤ b.length) : IsBytes c (slV A lo hi cap 1) ((b.drop lo).take (hi - lo)) := by
  have h3 := slV_rds h h1 h2
  have hl : ((b.drop lo).take (hi - lo)).length = hi - lo := by simp; omega
  unfold IsBytes
  rw [hl]
  simpa [byteCells, List.map_take, List.map_drop] using h3
section
variable {C : Cx} {l : Fr} {m : Hp} {ty : TypeId} {pos : String} {after : Array Edge} {dst : Option Nat} {g : Option (Nat × Bool)}
end
end Go.SL
end
section
namespace Go.SL
/-! ## codec, as plain Lean -/
def long8 (n : Int) : List UInt8 := [ub n, ub (n / 256), ub (n / 65536), ub (n / 16777216), ub (n / 4294967296), ub (n / 1099511627776), ub (n / 281474976710656), ub (n / 72057594037927936)]
def encOp (o : OpL) : List UInt8 := ub o.kind :: (if o.kind = 1 then ub o.a :: long8 o.n else [ub (o.a + 16 * o.b), ub o.c])
def encOps (d : DeedL) : List UInt8 := d.flatMap encOp
def encDeed (d : DeedL) : List UInt8 := ub d.length :: encOps d
def encDeeds (r : RoundL) : List UInt8 := r.flatMap encDeed
def encBody (r : RoundL) : List UInt8 := ub r.length :: encDeeds r
def encL (r : RoundL) : List UInt8 := ub (encBody r).length :: ub (((encBody r).length : Int) / 256) :: encBody r
section
variable (fault : RoundL → Int)
end
end Go.SL
end
section
namespace Go.SL
open Go.RowKit
set_option linter.unusedSectionVars false
theorem blk_own {w : World} {b e size n : Nat} {cs : List Value} (hb : (Chunk.blk b e cs).holds w) (hn : cs.length = n * size) (hm : n ≤ maxLen) : (Own (.slice (some ⟨b, 0, none⟩) n n) e size n cs).holds w :=
  ⟨hn, .inr ⟨b, n, cs.toArray, rfl, Nat.zero_le _, hb, Nat.le_refl _, hm, by simpa using hn, by simp [List.take_of_length_le, hn]⟩⟩
theorem St.impAt {w0 w : World} {F : Nat → Prop} {m : Hp} {c c' : Chunk} (i : Nat) (hi : m[i]? = some c) (h : St w0 F m w) (hf : ∀ b, c'.foot b → c.foot b) (hh : c.holds w → c'.holds w) : St w0 F (m.set i c') w := by
  have h1 := (h.front hi).imp hf hh
  refine h1.perm ?_
  have hlt := (List.getElem?_eq_some_iff.1 hi).1
  have h3 := perm_erase (m.set i c') i c' (by simp [hlt])
  rw [List.eraseIdx_set_eq] at h3
  exact h3.symm
theorem St.part {w0 w : World} {F : Nat → Prop} {mc mr : Hp} (h : St w0 F (mc ++ mr) w) : (∀ c ∈ mc, c.holds w) ∧ mc.Pairwise Disj := ⟨fun c hc => h.hold c (by simp [hc]), (List.pairwise_append.1 h.sep).1⟩
section
variable {C : Cx} {ks : List Kt} {l : Fr} {m : Hp} {ty : TypeId} {pos : String} {after : Array Edge} {dst : Option Nat} {g : Option (Nat × Bool)} {ops : Array Oper}
theorem g_heap {m' : Hp} {Φ : Act → World → Prop} (hs : ∀ w, St C.w0 C.F m w → St C.w0 C.F m' w) (h : G C l m' Φ) : G C l m Φ := fun a w ha hw => h a w ha (hs w hw)
end
section
variable {C : Cx} {l : Fr} {m : Hp} {ty : TypeId} {pos : String} {after : Array Edge} {d : Nat}
end
section
variable {C : Cx} {l : Fr} {m : Hp} {ty : TypeId} {pos : String} {after : Array Edge} {dst : Option Nat} {g : Option (Nat × Bool)}
end
theorem IsBytes.tail {c : View} {A : Option Addr} {cap : Nat} {x : UInt8} {b : List UInt8} (h : IsBytes c (.slice A (x :: b).length cap) (x :: b)) : IsBytes c (slV A 1 (x :: b).length cap 1) b := by
  have := h.slice (lo := 1) (hi := (x :: b).length) (by simp) (Nat.le_refl _)
  rwa [List.drop_succ_cons, List.drop_zero, List.length_cons, Nat.add_sub_cancel, List.take_length] at this
end Go.SL
end
section
namespace Go.SL
open Go.RowKit
/-- the deeds of a round, by their headers -/
def Deeds (vs : List Value) (r : RoundL) (c : View) : Prop := vs.length = r.length ∧ ∀ i (h : i < r.length), ∃ u, vs[i]? = some u ∧ IsDeed c u r[i]
theorem Deeds.up (vs : List Value) (r : RoundL) : Up (Deeds vs r) := fun _ _ hl h => ⟨h.1, fun i hi => let ⟨u, h1, h2⟩ := h.2 i hi; ⟨u, h1, h2.mono hl⟩⟩
theorem Deeds.nil (c : View) : Deeds [] [] c := ⟨rfl, fun i hi => by simp at hi⟩
theorem Deeds.round {vs : List Value} {r : RoundL} {c : View} {v : Value} (h : Deeds vs r c) (hv : Rds c v 1 r.length vs) : IsRound c v r := ⟨vs, hv, h.2⟩
theorem IsRound.up (v : Value) (r : RoundL) : Up (fun c => IsRound c v r) := fun _ _ hl h => h.mono hl
theorem deedCells_snoc (d : DeedL) (o : OpL) : deedCells (d ++ [o]) = deedCells d ++ opCells o := by simp [deedCells]
/-! the parts of the reader's loops -/
end Go.SL
end
section
namespace Go.SL
open Go.RowKit
set_option linter.unusedSectionVars false
/-! ## a function that defers one closure -/
section
variable {C : Cx} {ks : List Kt} {l : Fr} {m : Hp} {ty : TypeId} {pos : String} {after : Array Edge} {dst : Option Nat} {g : Option (Nat × Bool)} {ops : Array Oper} {rest : List Oper}
end
section
variable {P : Program} {N : Nat} {w0 : World} {F : Nat → Prop} {fn : Func} {R : Ending → World → Prop} {l : Fr} {m m' : Hp} {ks : List Kt} {f : FuncId} {cap : Array Value}
end
section
variable {C : Cx} {l : Fr} {m : Hp}
end
end Go.SL
end
section
namespace Go.SL
theorem run_equalOp {P : Program} {t ti tn : TypeId} {f0 f1 f2 f3 f4 : Field} (ht : P.underlying t = some (.struct #[f0, f1, f2, f3, f4])) (hp : P.stoodInHeld t = false)
    (h0 : (f0.name != "_" && f1.name != "_" && f2.name != "_" && f3.name != "_" && f4.name != "_" && Nat.beq f0.offset 0 && Nat.beq f1.offset 1 && Nat.beq f2.offset 2 && Nat.beq f3.offset 3 && Nat.beq f4.offset 4) = true)
    (hf0 : f0.type = ti) (hf1 : f1.type = ti) (hf2 : f2.type = ti) (hf3 : f3.type = ti) (hf4 : f4.type = tn) (hi : P.underlying ti = some (.int .i64)) (hn : P.underlying tn = some (.int .i64)) (o o' : OpL) (w : World) :
    (Op.equalIn 10000 t (opV o) (opV o')).run P w = .ok (decide (o = o')) w := by
  simp only [Bool.and_eq_true, bne_iff_ne, ne_eq] at h0
  obtain ⟨⟨⟨⟨⟨⟨⟨⟨⟨n0, n1⟩, n2⟩, n3⟩, n4⟩, o0⟩, o1⟩, o2⟩, o3⟩, o4⟩ := h0
  have o0 := Nat.eq_of_beq_eq_true o0
  have o1 := Nat.eq_of_beq_eq_true o1
  have o2 := Nat.eq_of_beq_eq_true o2
  have o3 := Nat.eq_of_beq_eq_true o3
  have o4 := Nat.eq_of_beq_eq_true o4
  have hfs : P.fieldsOf t = #[f0, f1, f2, f3, f4] := by simp [Program.fieldsOf, ht]
  have hpi : P.plainKey ti = true := by simp [Program.plainKey, hi]
  have hpn : P.plainKey tn = true := by simp [Program.plainKey, hn]
  obtain ⟨k, a, b, c, n⟩ := o
  obtain ⟨k', a', b', c', n'⟩ := o'
  have part1 : ∀ {tt : TypeId} (_ : P.plainKey tt = true) (k a b c n : Int) (j : Nat) (v : Value), (#[.int .i64 k, .int .i64 a, .int .i64 b, .int .i64 c, .int .i64 n] : Array Value)[j]? = some v → (part tt #[.int .i64 k, .int .i64 a, .int .i64 b, .int .i64 c, .int .i64 n] j).run P w = .ok v w := fun h k a b c n j v hj => run_part_plain w h hj
  unfold opV
  rw [run_equalIn_struct w 9999 t _ _ (by rw [hfs]; exact ht) hp, hfs]
  simp only [Op.eqFields, ne_eq, n0, n1, n2, n3, n4, not_false_eq_true, if_true, o0, o1, o2, o3, o4, hf0, hf1, hf2, hf3, hf4, Sem.run_bind, part1 hpi _ _ _ _ _ 0 _ rfl, part1 hpi _ _ _ _ _ 1 _ rfl, part1 hpi _ _ _ _ _ 2 _ rfl, part1 hpi _ _ _ _ _ 3 _ rfl, part1 hpn _ _ _ _ _ 4 _ rfl, Result.andThen_ok, run_equalIn_int w 9998 ti .i64 .i64 _ _ hi, run_equalIn_int w 9998 tn .i64 .i64 _ _ hn, OpL.mk.injEq]
  by_cases e1 : k = k' <;> by_cases e2 : a = a' <;> by_cases e3 : b = b' <;> by_cases e4 : c = c' <;> by_cases e5 : n = n' <;>
    simp [e1, e2, e3, e4, e5, part1 hpi _ _ _ _ _ 1 _ rfl, part1 hpi _ _ _ _ _ 2 _ rfl, part1 hpi _ _ _ _ _ 3 _ rfl, part1 hpn _ _ _ _ _ 4 _ rfl, run_equalIn_int w 9998 ti .i64 .i64 _ _ hi, run_equalIn_int w 9998 tn .i64 .i64 _ _ hn]
section
variable {C : Cx} {l : Fr} {m : Hp} {ty t' : TypeId} {pos : String} {after : Array Edge} {dst : Option Nat} {gd : Option (Nat × Bool)} {x y : Operand}
theorem v_neqOp {t ti tn : TypeId} {f0 f1 f2 f3 f4 : Field} (ht : C.P.underlying t = some (.struct #[f0, f1, f2, f3, f4])) (hp : C.P.stoodInHeld t = false) (hm : C.P.eqGuardType C.P.depth t = false)
    (h0 : (f0.name != "_" && f1.name != "_" && f2.name != "_" && f3.name != "_" && f4.name != "_" && Nat.beq f0.offset 0 && Nat.beq f1.offset 1 && Nat.beq f2.offset 2 && Nat.beq f3.offset 3 && Nat.beq f4.offset 4) = true)
    (hf0 : f0.type = ti) (hf1 : f1.type = ti) (hf2 : f2.type = ti) (hf3 : f3.type = ti) (hf4 : f4.type = tn) (hi : C.P.underlying ti = some (.int .i64)) (hn : C.P.underlying tn = some (.int .i64)) {o o' : OpL}
    (hx : rd l x = some (opV o)) (hy : rd l y = some (opV o')) : OpV C l m ⟨dst, .binOp .neq t x y t', ty, pos, after, gd⟩ (.bool (decide (¬ o = o'))) :=
  fun a w ha _ => by
    have h1 := run_equalOp ht hp h0 hf0 hf1 hf2 hf3 hf4 hi hn o o' w
    simp only [opV] at h1
    simp only [execOp, rd_eval ha.knows hx, rd_eval ha.knows hy, opV, Sem.run_bind, run_eqGuard_agg _ _ _ _ _ _ _ hm, Result.andThen_ok, run_neq_struct, h1]
    simp
end
end Go.SL
end
section
namespace Go.SL
open Go.RowKit
set_option linter.unusedSectionVars false
section
variable {C : Cx} {l : Fr} {m : Hp} {ty : TypeId} {pos : String} {after : Array Edge} {dst : Option Nat} {g : Option (Nat × Bool)}
end
/-- a round, by its headers -/
def RoundV (v : Value) (vs : List Value) (r : RoundL) (c : View) : Prop := Rds c v 1 r.length vs ∧ Deeds vs r c
theorem RoundV.up (v : Value) (vs : List Value) (r : RoundL) : Up (RoundV v vs r) := fun _ _ hl h => ⟨h.1.mono hl, Deeds.up _ _ _ _ hl h.2⟩
theorem RoundV.round {v : Value} {vs : List Value} {r : RoundL} {c : View} (h : RoundV v vs r c) : IsRound c v r := h.2.round h.1
theorem RoundV.cell {A : Option Addr} {k : Nat} {vs : List Value} {r : RoundL} {c : View} (h : RoundV (.slice A r.length k) vs r c) {j : Nat} {u : Value} (hj : vs[j]? = some u) : ∃ ad, A = some ad ∧ c (ad.add j) = some u := by
  obtain ⟨⟨A', k', he, hk, hl, hc⟩, _⟩ := h
  injection he with e1 e2 e3
  subst e1
  have : j < vs.length := (List.getElem?_eq_some_iff.1 hj).1
  obtain ⟨ad, rfl, hcl⟩ := hc (by omega)
  exact ⟨ad, rfl, hcl j u hj⟩
section
variable {C : Cx} {l : Fr} {m : Hp}
end
end Go.SL
end
