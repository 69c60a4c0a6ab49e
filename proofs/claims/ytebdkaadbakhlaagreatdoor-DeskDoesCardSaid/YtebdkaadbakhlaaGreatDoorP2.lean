/- YtebdkaadbakhlaaGreatDoor: part P2 of this seat's own texts. -/
import Derived.ChangeKeysEq
import Derived.Laws.StructEq
import Derived.Laws.IdiomStrings
import Derived.Laws.Strings
import Derived.Laws.Build
import Derived.Recover
import Derived.Test.YtebdkaadbakhlaaGreatDoorP1
set_option linter.unusedVariables false
set_option linter.unusedSimpArgs false
section
namespace Go.SL
section
variable {C : Cx} {l : Fr} {m : Hp} {ty t' : TypeId} {pos : String} {after : Array Edge} {dst : Option Nat} {gd : Option (Nat × Bool)} {x y : Operand}
theorem v_is {o : Oper} {v v' : Value} (h : OpV C l m o v) (e : v = v') : OpV C l m o v' := e ▸ h
end
end Go.SL
end
section
namespace Go.SL
open Go.RowKit
set_option linter.unusedSectionVars false
def slV (A : Option Addr) (lo hi cap s : Nat) : Value := .slice (if cap = lo then A else A.map (·.add (lo * s))) (hi - lo) (cap - lo)
theorem slV_0 (A : Option Addr) (hi cap s : Nat) : slV A 0 hi cap s = .slice (if cap = 0 then A else A.map (·.add 0)) hi cap := by simp [slV]
theorem add_zero (a : Addr) : a.add 0 = a := by unfold Addr.add; simp
theorem slV_0' (A : Option Addr) (hi cap s : Nat) : slV A 0 hi cap s = .slice A hi cap := by
 rw [slV_0]
 cases A <;> simp [add_zero]
theorem slV_rds {c : View} {A : Option Addr} {n cap size lo hi : Nat} {xs : List Value} (h : Rds c (.slice A n cap) size n xs) (h1 : lo ≤ hi) (h2 : hi ≤ n) : Rds c (slV A lo hi cap size) size (hi - lo) ((xs.drop (lo * size)).take ((hi - lo) * size)) := by
 obtain ⟨A', k, he, hk, hl, hc⟩ := h
 injection he with e1 e2 e3
 subst e1; subst e3
 have hmul : lo * size + (hi - lo) * size = hi * size := by rw [← Nat.add_mul]; congr 1; omega
 have hmul2 : hi * size ≤ n * size := Nat.mul_le_mul_right _ h2
 refine ⟨_, _, rfl, by omega, by rw [List.length_take, List.length_drop, hl]; omega, fun hp => ?_⟩
 obtain ⟨ad, rfl, hcl⟩ := hc (by omega)
 rw [if_neg (by omega)]
 refine ⟨_, rfl, fun j v hj => ?_⟩
 rw [add_add]
 refine hcl _ _ ?_
 rw [List.getElem?_take] at hj
 split at hj
 ·rw [List.getElem?_drop] at hj; exact hj
 ·cases hj
section
variable {C : Cx} {l : Fr} {m : Hp} {ty : TypeId} {pos : String} {after : Array Edge} {dst : Option Nat} {g : Option (Nat × Bool)}
theorem elem_of {P : Program} {t e : TypeId} (ht : P.underlying t = some (.slice e)) : P.elem t = e := by simp [Program.elem, ht]
theorem run_sizeOf' {P : Program} {e : TypeId} {z : Nat} (hz : P.info? e ≠ none) (hc : P.cellsOf e = z) (w : World) : (sizeOf e).run P w = .ok z w := by
 unfold Program.cellsOf at hc
 cases hi' : P.info? e with
 | none => exact absurd hi' hz
 | some i => simp [hi'] at hc; simp [sizeOf, typeInfo, hi', hc]
theorem v_sliceL {x y : Operand} {A : Option Addr} {n cap s : Nat} {t e : TypeId} {k : IntKind} {i : Int} (ht : C.P.underlying t = some (.slice e)) (hz : C.P.info? e ≠ none) (hc : C.P.cellsOf e = s) (hx : rd l x = some (.slice A n cap)) (hy : rd l y = some (.int k i))
  (h : 0 ≤ i ∧ i ≤ n) : OpV C l m ⟨dst, .slice t x (some y) none none, ty, pos, after, g⟩ (slV A i.toNat n cap s) := fun a w ha hw => by
 have ht' := elem_of ht
 have h1 := run_sliceAt_slice (P := C.P) (w := w) t (.slice A n cap) (some (.int k i)) none none (by rw [ht']; exact ht)
 have h2 := run_slice_l (P := C.P) (w := w) t A n cap (by rw [ht']; exact ht) k i h.1 h.2
 simp [execOp, rd_eval ha.knows hx, rd_eval ha.knows hy, h1, h2, ht', run_sizeOf' hz hc, sliced, slV]
theorem v_sliceLH {x y z : Operand} {A : Option Addr} {n cap s : Nat} {t e : TypeId} {k k' : IntKind} {i j : Int} (ht : C.P.underlying t = some (.slice e)) (hz : C.P.info? e ≠ none) (hc : C.P.cellsOf e = s) (hx : rd l x = some (.slice A n cap)) (hy : rd l y = some (.int k i)) (hzz : rd l z = some (.int k' j))
  (h : 0 ≤ i ∧ i ≤ j ∧ j ≤ cap) : OpV C l m ⟨dst, .slice t x (some y) (some z) none, ty, pos, after, g⟩ (slV A i.toNat j.toNat cap s) := fun a w ha hw => by
 have ht' := elem_of ht
 have h1 := run_sliceAt_slice (P := C.P) (w := w) t (.slice A n cap) (some (.int k i)) (some (.int k' j)) none (by rw [ht']; exact ht)
 have h2 := run_slice_lh (P := C.P) (w := w) t A n cap (by rw [ht']; exact ht) k k' i j h.1 h.2.1 h.2.2
 simp [execOp, rd_eval ha.knows hx, rd_eval ha.knows hy, rd_eval ha.knows hzz, h1, h2, ht', run_sizeOf' hz hc, sliced, slV]
theorem v_sliceHM {x y z : Operand} {A : Option Addr} {n cap s : Nat} {t e : TypeId} {k k' : IntKind} {i j : Int} (ht : C.P.underlying t = some (.slice e)) (hz : C.P.info? e ≠ none) (hc : C.P.cellsOf e = s) (hx : rd l x = some (.slice A n cap)) (hy : rd l y = some (.int k i)) (hzz : rd l z = some (.int k' j))
  (h : 0 ≤ i ∧ i ≤ j ∧ j ≤ cap) : OpV C l m ⟨dst, .slice t x none (some y) (some z), ty, pos, after, g⟩ (slV A 0 i.toNat j.toNat s) := fun a w ha hw => by
 have ht' := elem_of ht
 have h1 := run_sliceAt_slice (P := C.P) (w := w) t (.slice A n cap) none (some (.int k i)) (some (.int k' j)) (by rw [ht']; exact ht)
 have h2 := run_slice_hm (P := C.P) (w := w) t A n cap (by rw [ht']; exact ht) k k' i j h.1 h.2.1 h.2.2
 simp [execOp, rd_eval ha.knows hx, rd_eval ha.knows hy, rd_eval ha.knows hzz, h1, h2, ht', run_sizeOf' hz hc, sliced, slV]
end
theorem IsRound.take {c : View} {A : Option Addr} {cap : Nat} {r : RoundL} (h : IsRound c (.slice A r.length cap) r) {k : Nat} (hk : k ≤ r.length) : IsRound c (slV A 0 k cap 1) (r.take k) := by
 obtain ⟨vs, h1, h2⟩ := h
 have h3 := slV_rds (lo := 0) (hi := k) h1 (by omega) hk
 simp only [Nat.sub_zero, Nat.zero_mul, List.drop_zero, Nat.mul_one] at h3
 have hl : (r.take k).length = k := by simp; omega
 refine ⟨vs.take k, by rw [hl]; exact h3, fun i hi => ?_⟩
 rw [hl] at hi
 obtain ⟨u, h4, h5⟩ := h2 i (by omega)
 refine ⟨u, by rw [List.getElem?_take, if_pos hi]; exact h4, by rw [List.getElem_take]; exact h5⟩
theorem IsRound.drop {c : View} {A : Option Addr} {cap : Nat} {r : RoundL} (h : IsRound c (.slice A r.length cap) r) {k : Nat} (hk : k ≤ r.length) : IsRound c (slV A k r.length cap 1) (r.drop k) := by
 obtain ⟨vs, h1, h2⟩ := h
 have h3 := slV_rds (lo := k) (hi := r.length) h1 hk (Nat.le_refl _)
 have hvl : vs.length = r.length := by obtain ⟨_, _, _, _, h, _⟩ := h1; simpa using h
 simp only [Nat.mul_one] at h3
 have hl : (r.drop k).length = r.length - k := by simp
 have h5 : (vs.drop k).take (r.length - k) = vs.drop k := List.take_of_length_le (by simp; omega)
 rw [h5] at h3
 refine ⟨vs.drop k, by rw [hl]; exact h3, fun i hi => ?_⟩
 rw [hl] at hi
 obtain ⟨u, h4, h6⟩ := h2 (k + i) (by omega)
 exact ⟨u, by rw [List.getElem?_drop]; exact h4, by rw [List.getElem_drop]; exact h6⟩
noncomputable def cutTo (w : World) (F : Nat → Prop) : World := { w with heap := w.heap.mapIdx fun i o => open Classical in if F i then o else .cells #[] 0 (0, 0) }
theorem cutTo_in {w : World} {F : Nat → Prop} {b : Nat} (h : F b) : (cutTo w F).heap[b]? = w.heap[b]? := by
 simp only [cutTo, Array.getElem?_mapIdx, h, if_true]
 cases w.heap[b]? <;> rfl
theorem cutTo_le (w : World) (F : Nat → Prop) : Le (cutTo w F).cell? w.cell? := by
 intro p v h
 by_cases hF : F p.block
 ·rw [← h]; exact (World.cell?_of_block (cutTo_in hF)).symm
 ·simp only [World.cell?, cutTo, Array.getElem?_mapIdx, hF, if_false] at h
  cases hb : w.heap[p.block]? <;> simp [hb] at h
theorem cutTo_mono {w : World} {F F' : Nat → Prop} (hF : ∀ b, F b → F' b) : Le (cutTo w F).cell? (cutTo w F').cell? := by
 intro p v h
 by_cases h1 : F p.block
 ·rw [← h]
  exact World.cell?_of_block ((cutTo_in (hF _ h1)).trans (cutTo_in h1).symm)
 ·simp only [World.cell?, cutTo, Array.getElem?_mapIdx, h1, if_false] at h
  cases hb : w.heap[p.block]? <;> simp [hb] at h
theorem cutTo_same {w w' : World} {F : Nat → Prop} (h : ∀ b, F b → w'.heap[b]? = w.heap[b]?) : (cutTo w' F).cell? = (cutTo w F).cell? := by
 funext p
 by_cases h1 : F p.block
 ·exact World.cell?_of_block ((cutTo_in h1).trans ((h _ h1).trans (cutTo_in h1).symm))
 ·simp only [World.cell?, cutTo, Array.getElem?_mapIdx, h1, if_false]
  cases w.heap[p.block]? <;> cases w'.heap[p.block]? <;> simp
theorem Chunk.cutTo {c : Chunk} {w : World} {F : Nat → Prop} (h : c.holds w) (hF : ∀ b, c.foot b → F b) : c.holds (SL.cutTo w F) := Chunk.stable (fun b hb => cutTo_in (hF b hb)) h
def keepG (F : Nat → Prop) (p : View → Prop) : Gen where
 foot := F
 holds w := (∀ b, F b → b < w.heap.size) ∧ p (cutTo w F).cell?
 lt h hf := h.1 _ hf
 stable {w w'} hs h := by
  refine ⟨fun b hb => ?_, by rw [cutTo_same hs]; exact h.2⟩
  rcases Nat.lt_or_ge b w'.heap.size with hl | hg
  ·exact hl
  ·have h1 := hs b hb
   rw [Array.getElem?_eq_none hg] at h1
   have h2 := h.1 b hb
   rw [Array.getElem?_eq_getElem h2] at h1
   cases h1
abbrev Keep (F : Nat → Prop) (p : View → Prop) : Chunk := .gen (keepG F p)
def Up (p : View → Prop) : Prop := ∀ c c', Le c c' → p c → p c'
theorem keep_all {F : Nat → Prop} {p : View → Prop} (hp : Up p) {w : World} (h : (Keep F p).holds w) : p w.cell? := hp _ _ (cutTo_le _ _) h.2
theorem St.keep {w0 w : World} {F : Nat → Prop} {mc m : Hp} (p : View → Prop) (h : St w0 F (mc ++ m) w) (hp : (∀ c ∈ mc, c.holds w) → p (cutTo w (feet mc)).cell?) : St w0 F (Keep (feet mc) p :: m) w := by
 have hsep := List.pairwise_append.1 h.sep
 have hmc : ∀ c ∈ mc, c.holds w := fun c hc => h.hold c (by simp [hc])
 refine ⟨h.chg, ?_, ?_, ?_⟩
 ·intro c hc
  rcases List.mem_cons.1 hc with rfl | hc
  ·exact ⟨fun b ⟨c, hc, hb⟩ => Chunk.lt (hmc c hc) hb, hp hmc⟩
  ·exact h.hold c (by simp [hc])
 ·refine List.pairwise_cons.2 ⟨fun d hd b ⟨c, hc, hb⟩ hdb => hsep.2.2 c hc d hd b hb hdb, hsep.2.1⟩
 ·intro c hc b hb
  rcases List.mem_cons.1 hc with rfl | hc
  ·obtain ⟨c, hc, hb⟩ := hb
   exact h.own c (by simp [hc]) b hb
  ·exact h.own c (by simp [hc]) b hb
theorem St.imp {w0 w : World} {F : Nat → Prop} {m : Hp} {c c' : Chunk} (h : St w0 F (c :: m) w) (hf : ∀ b, c'.foot b → c.foot b) (hh : c.holds w → c'.holds w) : St w0 F (c' :: m) w := by
 have hsep := List.pairwise_cons.1 h.sep
 refine ⟨h.chg, ?_, List.pairwise_cons.2 ⟨fun d hd b hb hdb => hsep.1 d hd b (hf b hb) hdb, hsep.2⟩, ?_⟩
 ·intro d hd
  rcases List.mem_cons.1 hd with rfl | hd
  ·exact hh (h.hold c (by simp))
  ·exact h.hold d (by simp [hd])
 ·intro d hd b hb
  rcases List.mem_cons.1 hd with rfl | hd
  ·exact h.own c (by simp) b (hf b hb)
  ·exact h.own d (by simp [hd]) b hb
section
variable {C : Cx} {l : Fr} {m : Hp} {ty : TypeId} {pos : String} {after : Array Edge} {dst : Option Nat}
theorem x_callP {Φ : Act → World → Prop} {Q : Exit → Act → World → Prop} {f : FuncId} {fx : Operand} {xs : Array Operand} {ats : Array TypeId} {cap args : Array Value} {vs : List Value} {mc mr : Hp} {σ τ : Type} (J : σ → Prop) (val : σ → Value) (mc' : σ → Hp) (K : τ → Prop) (pv : τ → Value) (mp : τ → Hp)
  (hf : rd l fx = some (.func (.func f) #[] cap)) (hx : rdAll l xs.toList = some vs) (hargs : (vs ++ cap.toList).toArray = args)
  (hcall : ∀ args w, (callFunc f args).run C.P w = .ok (.enter f args) w)
  (hc : ∀ w, St C.w0 C.F (mc ++ mr) w → Calls C.P f args w (fun e w' => (∃ s, J s ∧ e = .returned (val s) ∧ Res w mc (mc' s) w') ∨ (∃ t, K t ∧ e = .panicked [{ v := pv t, recovered := false }] ∧ Res w mc (mp t) w')))
  (hd : (match dst with | some d => Nat.blt d C.N | none => true) = true)
  (hq : ∀ t, K t → G C l (mp t ++ mr) (Q (.panic [{ v := pv t, recovered := false }])))
  (h : ∀ s, J s → G C (match dst with | some d => (d, val s) :: l | none => l) (mc' s ++ mr) Φ) :
  G C l (mc ++ mr) (fun a w => Oper.wp C.P ⟨dst, .call ⟨.value fx, xs, ats⟩, ty, pos, after, none⟩ a w Φ Q) := by
 intro a w ha hw
 have h1 : xs.map a.eval = vs.toArray := by
  have := rdAll_eval ha.knows hx
  rw [← this]
  apply Array.ext'
  simp
 have hargs : vs.toArray ++ cap = args := by rw [← hargs]; simp
 have : (execOp a.eval (⟨dst, .call ⟨.value fx, xs, ats⟩, ty, pos, after, none⟩ : Oper)).run C.P w = .ok (.enter f args) w := by
  simp only [execOp, resolve, h1, rd_eval ha.knows hf, Deferred.ofValue, Sem.run_bind, Sem.run_pure, Result.andThen_ok, invoke, Array.empty_append, hargs, hcall]
 unfold Oper.wp
 rw [this]
 refine (hc w hw).mono ?_
 rintro e w' (⟨s, hJ, rfl, hr⟩ | ⟨t, hK, rfl, hr⟩)
 ·cases dst with
  | some d => exact h s hJ _ _ (ha.put (Nat.le_of_ble_eq_true hd)) (hw.call hr)
  | none => exact h s hJ _ _ ha (hw.call hr)
 ·exact hq t hK _ _ ha (hw.call hr)
theorem g_panic {ks : List Kt} {ch : List PanicEntry} (h : G C l m (C.Q (.panic ch))) : G C l m (Kp C ks (.panic ch)) := fun a w ha hw => panic_kp (h a w ha hw)
theorem x_panic {Φ : Act → World → Prop} {Q : Exit → Act → World → Prop} {x : Operand} {t : TypeId} {v : Value} (hx : rd l x = some (.iface t v)) (h : G C l m (Q (.panic [{ v := .iface t v, recovered := false }]))) :
  G C l m (fun a w => Oper.wp C.P ⟨dst, .panic x, ty, pos, after, none⟩ a w Φ Q) := by
 intro a w ha hw
 unfold Oper.wp
 have : (execOp a.eval (⟨dst, .panic x, ty, pos, after, none⟩ : Oper)).run C.P w = .halt (.panic (.iface t v)) w := by
  simp [execOp, rd_eval ha.knows hx, Instr.panic, goPanic]
 rw [this]
 exact h a w ha hw
end
theorem q_panic {P : Program} {N : Nat} {w0 : World} {F : Nat → Prop} {fn : Func} {R : Ending → World → Prop} {l : Fr} {m : Hp} {ch : List PanicEntry} (h : ∀ w, St w0 F m w → R (.panicked ch) w) : G ⟨P, N, w0, F, bodyPost P fn R, []⟩ l m (bodyPost P fn R (.panic ch)) :=
 fun _ w ha hw => ⟨ha.defers, h w hw⟩
def byteCells (l : List UInt8) : List Value := l.map fun b => .int .u8 (b.toNat : Int)
theorem byteCells_app (a b : List UInt8) : byteCells (a ++ b) = byteCells a ++ byteCells b := by simp [byteCells]
def IsBytes (c : View) (v : Value) (b : List UInt8) : Prop := Rds c v 1 b.length (byteCells b)
theorem IsBytes.mono {c c' : View} (hl : Le c c') {v : Value} {b : List UInt8} (h : IsBytes c v b) : IsBytes c' v b := Rds.mono hl h
theorem one_byteCells (b : List UInt8) : ∀ u ∈ byteCells b, u.oneCell' = true := by
 intro u hu
 simp only [byteCells, List.mem_map] at hu
 obtain ⟨x, _, rfl⟩ := hu
 rfl
def ub (n : Int) : UInt8 := UInt8.ofNat (n % 256).toNat
theorem ub_toNat (n : Int) : ((ub n).toNat : Int) = n % 256 := by
 simp only [ub, UInt8.toNat_ofNat']
 omega
theorem wrap_u8 (n : Int) : IntKind.u8.wrap n = n % 256 := by
 simp [IntKind.wrap, IntKind.bits, IntKind.signed]
theorem IsBytes.slice {c : View} {A : Option Addr} {cap lo hi : Nat} {b : List UInt8} (h : IsBytes c (.slice A b.length cap) b) (h1 : lo ≤ hi) (h2 : hi ≤ b.length) : IsBytes c (slV A lo hi cap 1) ((b.drop lo).take (hi - lo)) := by
 have h3 := slV_rds h h1 h2
 have hl : ((b.drop lo).take (hi - lo)).length = hi - lo := by simp; omega
 unfold IsBytes
 rw [hl]
 simpa [byteCells, List.map_take, List.map_drop] using h3
section
variable {C : Cx} {l : Fr} {m : Hp} {ty : TypeId} {pos : String} {after : Array Edge} {dst : Option Nat} {g : Option (Nat × Bool)}
end
end Go.SL
end
section
namespace Go.SL
def long8 (n : Int) : List UInt8 := [ub n, ub (n / 256), ub (n / 65536), ub (n / 16777216), ub (n / 4294967296), ub (n / 1099511627776), ub (n / 281474976710656), ub (n / 72057594037927936)]
def encOp (o : OpL) : List UInt8 := ub o.kind :: (if o.kind = 1 then ub o.a :: long8 o.n else [ub (o.a + 16 * o.b), ub o.c])
def encOps (d : DeedL) : List UInt8 := d.flatMap encOp
def encDeed (d : DeedL) : List UInt8 := ub d.length :: encOps d
def encDeeds (r : RoundL) : List UInt8 := r.flatMap encDeed
def encBody (r : RoundL) : List UInt8 := ub r.length :: encDeeds r
def encL (r : RoundL) : List UInt8 := ub (encBody r).length :: ub (((encBody r).length : Int) / 256) :: encBody r
def num8 (a b c d e f g h : UInt8) : Int := IntKind.i64.wrap ((a.toNat : Int) + 256 * b.toNat + 65536 * c.toNat + 16777216 * d.toNat + 4294967296 * e.toNat + 1099511627776 * f.toNat + 281474976710656 * g.toNat + 72057594037927936 * h.toNat)
def getOp : List UInt8 → Option (OpL × List UInt8)
  | k :: b => if k = 1 then (match b with
      | a :: b0 :: b1 :: b2 :: b3 :: b4 :: b5 :: b6 :: b7 :: b => some (⟨1, a.toNat, 0, 0, num8 b0 b1 b2 b3 b4 b5 b6 b7⟩, b)
      | _ => none)
    else (match b with
      | x :: c :: b => some (⟨k.toNat, (x.toNat : Int) % 16, (x.toNat : Int) / 16, c.toNat, 0⟩, b)
      | _ => none)
  | [] => none
def getOps : Nat → List UInt8 → Option (DeedL × List UInt8)
 | 0, b => some ([], b)
 | n + 1, b => match getOp b with
  | none => none
  | some (o, b) => match getOps n b with
   | none => none
   | some (d, b) => some (o :: d, b)
def getDeed : List UInt8 → Option (DeedL × List UInt8)
 | [] => none
 | n :: b => getOps n.toNat b
def getDeeds : Nat → List UInt8 → Option (RoundL × List UInt8)
 | 0, b => some ([], b)
 | n + 1, b => match getDeed b with
  | none => none
  | some (d, b) => match getDeeds n b with
   | none => none
   | some (r, b) => some (d :: r, b)
def getRound : List UInt8 → Option (RoundL × List UInt8)
 | [] => none
 | n :: b => getDeeds n.toNat b
theorem toNat_lt' (x : UInt8) : (x.toNat : Int) < 256 := by have := x.toNat_lt; omega
theorem ub_of (x : UInt8) : ub (x.toNat : Int) = x := by
 have := x.toNat_lt
 rw [← UInt8.toNat_inj]
 have h := ub_toNat (x.toNat : Int)
 omega
theorem ub_eq {n : Int} {x : UInt8} (h : n % 256 = x.toNat) : ub n = x := by
 rw [← UInt8.toNat_inj]
 have h := ub_toNat n
 omega
theorem w64_of {n m : Int} (h1 : -9223372036854775808 ≤ n) (h2 : n ≤ 9223372036854775807) (h : (m - n) % 18446744073709551616 = 0) : IntKind.i64.wrap m = n := by
 simp [IntKind.wrap, IntKind.bits, IntKind.signed]
 omega
theorem w64_range (m : Int) : -9223372036854775808 ≤ IntKind.i64.wrap m ∧ IntKind.i64.wrap m ≤ 9223372036854775807 ∧ (m - IntKind.i64.wrap m) % 18446744073709551616 = 0 := by
 simp [IntKind.wrap, IntKind.bits, IntKind.signed]
 omega
theorem num8_long8 {n : Int} (h1 : -9223372036854775808 ≤ n) (h2 : n ≤ 9223372036854775807) : num8 (ub n) (ub (n / 256)) (ub (n / 65536)) (ub (n / 16777216)) (ub (n / 4294967296)) (ub (n / 1099511627776)) (ub (n / 281474976710656)) (ub (n / 72057594037927936)) = n := by
 unfold num8
 refine w64_of h1 h2 ?_
 simp only [ub_toNat]
 omega
theorem long8_num8 (a b c d e f g h : UInt8) : long8 (num8 a b c d e f g h) = [a, b, c, d, e, f, g, h] := by
 have ha := toNat_lt' a; have hb := toNat_lt' b; have hc := toNat_lt' c; have hd := toNat_lt' d
 have he := toNat_lt' e; have hf := toNat_lt' f; have hg := toNat_lt' g; have hh := toNat_lt' h
 unfold long8 num8
 generalize hm : ((a.toNat : Int) + 256 * b.toNat + 65536 * c.toNat + 16777216 * d.toNat + 4294967296 * e.toNat + 1099511627776 * f.toNat + 281474976710656 * g.toNat + 72057594037927936 * h.toNat) = m
 obtain ⟨h1, h2, h3⟩ := w64_range m
 generalize IntKind.i64.wrap m = n at *
 simp only [List.cons.injEq, and_true]
 refine ⟨ub_eq ?_, ub_eq ?_, ub_eq ?_, ub_eq ?_, ub_eq ?_, ub_eq ?_, ub_eq ?_, ub_eq ?_⟩ <;> omega
def OkOp (o : OpL) : Prop := (o.kind = 1 ∧ 0 ≤ o.a ∧ o.a < 256 ∧ o.b = 0 ∧ o.c = 0 ∧ -9223372036854775808 ≤ o.n ∧ o.n ≤ 9223372036854775807) ∨ (2 ≤ o.kind ∧ o.kind < 256 ∧ 0 ≤ o.a ∧ o.a < 16 ∧ 0 ≤ o.b ∧ o.b < 16 ∧ 0 ≤ o.c ∧ o.c < 256 ∧ o.n = 0)
theorem ub_nat {n : Int} (h0 : 0 ≤ n) (h1 : n < 256) : ((ub n).toNat : Int) = n := by rw [ub_toNat]; omega
theorem ub_one : ub 1 = 1 := rfl
theorem ub_ne1 {n : Int} (h0 : 2 ≤ n) (h1 : n < 256) : ub n ≠ 1 := fun h => by
 have := ub_nat (by omega) h1
 rw [h] at this
 have h2 : (1 : UInt8).toNat = 1 := rfl
 omega
theorem getOp_enc {o : OpL} (h : OkOp o) (b : List UInt8) : getOp (encOp o ++ b) = some (o, b) := by
 obtain ⟨k, a, x, c, n⟩ := o
 rcases h with ⟨rfl, h1, h2, rfl, rfl, h3, h4⟩ | ⟨h1, h2, h3, h4, h5, h6, h7, h8, rfl⟩
 ·dsimp only at *
  simp only [encOp, if_true, long8, List.cons_append, List.nil_append, getOp, ub_one, num8_long8 h3 h4, ub_nat h1 h2]
 ·dsimp only at *
  have hk : ¬ k = 1 := by omega
  simp only [encOp, hk, if_false, List.cons_append, List.nil_append, getOp, ub_ne1 h1 h2, ub_nat h7 h8, ub_nat (show 0 ≤ k by omega) h2]
  have e := ub_nat (n := a + 16 * x) (by omega) (by omega)
  simp only [e, Option.some.injEq, Prod.mk.injEq, OpL.mk.injEq, and_true, true_and]
  omega
theorem getOps_enc : ∀ {d : DeedL}, (∀ o ∈ d, OkOp o) → ∀ b, getOps d.length (encOps d ++ b) = some (d, b)
 | [], _, b => rfl
 | o :: d, h, b => by
  have h1 := getOps_enc (d := d) (fun o ho => h o (by simp [ho])) b
  simp only [List.length_cons, getOps, encOps, List.flatMap_cons, List.append_assoc, getOp_enc (h o (by simp))]
  simp only [encOps] at h1
  rw [h1]
theorem getDeed_enc {d : DeedL} (h : ∀ o ∈ d, OkOp o) (hl : d.length < 256) (b : List UInt8) : getDeed (encDeed d ++ b) = some (d, b) := by
 simp only [encDeed, List.cons_append, getDeed]
 have : (ub d.length).toNat = d.length := by have := ub_nat (n := d.length) (by omega) (by omega); omega
 rw [this]
 exact getOps_enc h b
def OkRound (r : RoundL) : Prop := r.length ≤ 8 ∧ ∀ d ∈ r, d.length ≤ 14 ∧ ∀ o ∈ d, OkOp o
theorem getDeeds_enc : ∀ {r : RoundL}, (∀ d ∈ r, d.length ≤ 14 ∧ ∀ o ∈ d, OkOp o) → ∀ b, getDeeds r.length (encDeeds r ++ b) = some (r, b)
 | [], _, b => rfl
 | d :: r, h, b => by
  have h1 := getDeeds_enc (r := r) (fun d hd => h d (by simp [hd])) b
  have h2 := h d (by simp)
  simp only [List.length_cons, getDeeds, encDeeds, List.flatMap_cons, List.append_assoc, getDeed_enc h2.2 (show d.length < 256 by omega)]
  simp only [encDeeds] at h1
  rw [h1]
theorem getRound_enc {r : RoundL} (h : OkRound r) (b : List UInt8) : getRound (encBody r ++ b) = some (r, b) := by
 simp only [encBody, List.cons_append, getRound]
 have : (ub r.length).toNat = r.length := by have := ub_nat (n := r.length) (by omega) (by have := h.1; omega); omega
 rw [this]
 exact getDeeds_enc h.2 b
theorem enc_getOp : ∀ {b b' : List UInt8} {o : OpL}, getOp b = some (o, b') → b = encOp o ++ b'
 | [], _, _, h => by simp [getOp] at h
 | k :: b, b', o, h => by
  simp only [getOp] at h
  by_cases hk : k = 1
  ·subst hk
   simp only [if_true] at h
   split at h
   ·simp only [Option.some.injEq, Prod.mk.injEq] at h
    obtain ⟨rfl, rfl⟩ := h
    simp [encOp, ub_one, ub_of, long8_num8]
   ·cases h
  ·rw [if_neg hk] at h
   split at h
   ·rename_i x c rest
    simp only [Option.some.injEq, Prod.mk.injEq] at h
    obtain ⟨rfl, rfl⟩ := h
    have hk' : ¬ (k.toNat : Int) = 1 := fun h => hk (by rw [← UInt8.toNat_inj]; have : (1 : UInt8).toNat = 1 := rfl; omega)
    simp only [encOp, hk', if_false, ub_of, List.cons_append, List.nil_append, List.cons.injEq, true_and, and_true]
    exact (ub_eq (by have := toNat_lt' x; omega)).symm
   ·cases h
theorem enc_getOps : ∀ {n : Nat} {b b' : List UInt8} {d : DeedL}, getOps n b = some (d, b') → d.length = n ∧ b = encOps d ++ b'
 | 0, b, b', d, h => by
  simp only [getOps, Option.some.injEq, Prod.mk.injEq] at h
  obtain ⟨rfl, rfl⟩ := h
  exact ⟨rfl, rfl⟩
 | n + 1, b, b', d, h => by
  simp only [getOps] at h
  cases h1 : getOp b with
  | none => rw [h1] at h; cases h
  | some p =>
   obtain ⟨o, b1⟩ := p
   rw [h1] at h
   dsimp only at h
   cases h2 : getOps n b1 with
   | none => rw [h2] at h; cases h
   | some p =>
    obtain ⟨d', b2⟩ := p
    rw [h2] at h
    simp only [Option.some.injEq, Prod.mk.injEq] at h
    obtain ⟨rfl, rfl⟩ := h
    obtain ⟨h3, h4⟩ := enc_getOps h2
    have h5 := enc_getOp h1
    exact ⟨by simp [h3], by rw [h5, h4]; simp [encOps]⟩
theorem enc_getDeed {b b' : List UInt8} {d : DeedL} (h : getDeed b = some (d, b')) : b = encDeed d ++ b' := by
 cases b with
 | nil => cases h
 | cons n b =>
  obtain ⟨h1, h2⟩ := enc_getOps h
  rw [h2]
  simp only [encDeed, h1, ub_of, List.cons_append]
theorem enc_getDeeds : ∀ {n : Nat} {b b' : List UInt8} {r : RoundL}, getDeeds n b = some (r, b') → r.length = n ∧ b = encDeeds r ++ b'
 | 0, b, b', d, h => by
  simp only [getDeeds, Option.some.injEq, Prod.mk.injEq] at h
  obtain ⟨rfl, rfl⟩ := h
  exact ⟨rfl, rfl⟩
 | n + 1, b, b', d, h => by
  simp only [getDeeds] at h
  cases h1 : getDeed b with
  | none => rw [h1] at h; cases h
  | some p =>
   obtain ⟨o, b1⟩ := p
   rw [h1] at h
   dsimp only at h
   cases h2 : getDeeds n b1 with
   | none => rw [h2] at h; cases h
   | some p =>
    obtain ⟨d', b2⟩ := p
    rw [h2] at h
    simp only [Option.some.injEq, Prod.mk.injEq] at h
    obtain ⟨rfl, rfl⟩ := h
    obtain ⟨h3, h4⟩ := enc_getDeeds h2
    have h5 := enc_getDeed h1
    exact ⟨by simp [h3], by rw [h5, h4]; simp [encDeeds]⟩
theorem enc_getRound {b b' : List UInt8} {r : RoundL} (h : getRound b = some (r, b')) : b = encBody r ++ b' := by
 cases b with
 | nil => cases h
 | cons n b =>
  obtain ⟨h1, h2⟩ := enc_getDeeds h
  rw [h2]
  simp only [encBody, h1, ub_of, List.cons_append]
section
variable (fault : RoundL → Int)
def bodyL (b : List UInt8) : RoundL × Int :=
 match getRound b with
 | none => ([], 3)
 | some (r, rest) => if rest ≠ [] then ([], 3) else if fault r ≠ 0 then ([], fault r) else (r, 0)
def headN : List UInt8 → Nat
 | a :: b :: _ => 2 + a.toNat + 256 * b.toNat
 | _ => 2
def decL (b : List UInt8) : RoundL × Int × Int :=
 if b.length < 2 then ([], 0, 6) else if b.length < headN b then ([], 0, 6)
 else if (bodyL fault ((b.take (headN b)).drop 2)).2 ≠ 0 then ([], 0, (bodyL fault ((b.take (headN b)).drop 2)).2)
 else ((bodyL fault ((b.take (headN b)).drop 2)).1, headN b, 0)
theorem encOps_len {d : DeedL} : (encOps d).length ≤ 10 * d.length := by
 induction d with
 | nil => simp [encOps]
 | cons o d ih =>
  simp only [encOps, List.flatMap_cons, List.length_append, List.length_cons] at ih ⊢
  have : (encOp o).length ≤ 10 := by
   unfold encOp
   split <;> simp [long8]
  omega
theorem encDeeds_len {r : RoundL} (h : ∀ d ∈ r, d.length ≤ 14) : (encDeeds r).length ≤ 141 * r.length := by
 induction r with
 | nil => simp [encDeeds]
 | cons d r ih =>
  have h1 := ih (fun d hd => h d (by simp [hd]))
  have h2 := h d (by simp)
  have h3 := encOps_len (d := d)
  simp only [encDeeds, List.flatMap_cons, List.length_append, List.length_cons] at h1 ⊢
  have : (encDeed d).length ≤ 141 := by simp only [encDeed, List.length_cons]; omega
  omega
theorem encBody_len {r : RoundL} (h : OkRound r) : (encBody r).length ≤ 1129 := by
 have h1 := encDeeds_len (fun d hd => (h.2 d hd).1)
 have h2 := h.1
 simp only [encBody, List.length_cons]
 omega
theorem encL_len (r : RoundL) : (encL r).length = (encBody r).length + 2 := by simp [encL]
theorem headN_enc {r : RoundL} (h : OkRound r) (b : List UInt8) : headN (encL r ++ b) = (encL r).length := by
 have h1 := encBody_len h
 rw [encL_len]
 simp only [encL, List.cons_append, headN]
 have h2 := ub_toNat ((encBody r).length : Int)
 have h3 := ub_toNat (((encBody r).length : Int) / 256)
 omega
theorem bodyL_enc {r : RoundL} (h : OkRound r) (hf : fault r = 0) : bodyL fault (encBody r) = (r, 0) := by
 have := getRound_enc h []
 rw [List.append_nil] at this
 simp [bodyL, this, hf]
theorem dec_enc {r : RoundL} (h : OkRound r) (hf : fault r = 0) (b : List UInt8) : decL fault (encL r ++ b) = (r, ((encL r).length : Int), 0) := by
 have h1 := headN_enc h b
 have h2 := encL_len r
 unfold decL
 rw [h1, if_neg (by simp; omega), if_neg (by simp)]
 have h3 : ((encL r ++ b).take (encL r).length).drop 2 = encBody r := by
  rw [List.take_left']
  ·rfl
  ·rfl
 rw [h3, bodyL_enc fault h hf]
 simp
theorem bodyL_ok {b : List UInt8} {r : RoundL} (h : bodyL fault b = (r, 0)) : fault r = 0 ∧ b = encBody r := by
 unfold bodyL at h
 cases h1 : getRound b with
 | none => rw [h1] at h; simp at h
 | some p =>
  obtain ⟨r', rest⟩ := p
  rw [h1] at h
  dsimp only at h
  by_cases hr : rest ≠ []
  ·rw [if_pos hr] at h; simp at h
  ·rw [if_neg hr] at h
   by_cases hf : fault r' ≠ 0
   ·rw [if_pos hf] at h; simp only [Prod.mk.injEq] at h; exact absurd h.2 hf
   ·rw [if_neg hf] at h
    simp only [Prod.mk.injEq, and_true] at h
    subst h
    have := enc_getRound h1
    simp only [ne_eq, Decidable.not_not] at hr hf
    rw [hr, List.append_nil] at this
    exact ⟨hf, this⟩
theorem enc_dec {b : List UInt8} {z : RoundL} {n : Int} (h : decL fault b = (z, n, 0)) : fault z = 0 ∧ n = (encL z).length ∧ (encL z).length ≤ b.length ∧ encL z = b.take (encL z).length := by
 unfold decL at h
 by_cases h1 : b.length < 2
 ·rw [if_pos h1] at h; simp at h
 ·rw [if_neg h1] at h
  by_cases h2 : b.length < headN b
  ·rw [if_pos h2] at h; simp at h
  ·rw [if_neg h2] at h
   by_cases h3 : (bodyL fault ((b.take (headN b)).drop 2)).2 ≠ 0
   ·rw [if_pos h3] at h
    simp only [Prod.mk.injEq] at h
    exact absurd h.2.2 h3
   ·rw [if_neg h3] at h
    simp only [Prod.mk.injEq, and_true] at h
    simp only [ne_eq, Decidable.not_not] at h3
    obtain ⟨hf, hb⟩ := bodyL_ok fault (b := (b.take (headN b)).drop 2) (r := z) (by rw [← h.1, ← h3])
    match b, h1, h2, h, hb with
    | x :: y :: b, h1, h2, h, hb =>
     have hx := x.toNat_lt
     have hy := y.toNat_lt
     simp only [headN, List.length_cons] at h2 h hb ⊢
     have h5 : (2 + x.toNat + 256 * y.toNat) = (x.toNat + 256 * y.toNat) + 1 + 1 := by omega
     rw [h5] at hb
     simp only [List.take_succ_cons, List.drop_succ_cons, List.drop_zero] at hb
     have hlen : (encBody z).length = x.toNat + 256 * y.toNat := by rw [← hb, List.length_take]; omega
     have he : encL z = x :: y :: encBody z := by
      simp only [encL, hlen, List.cons.injEq, and_true]
      exact ⟨ub_eq (by omega), ub_eq (by omega)⟩
     rw [encL_len, hlen]
     refine ⟨hf, by omega, by omega, ?_⟩
     rw [he, ← hb, List.take_succ_cons, List.take_succ_cons]
    | [], h1, _, _, _ => simp at h1
    | [x], h1, _, _, _ => simp at h1
end
end Go.SL
end
section
namespace Go.SL
open Go.RowKit
set_option linter.unusedSectionVars false
theorem blk_own {w : World} {b e size n : Nat} {cs : List Value} (hb : (Chunk.blk b e cs).holds w) (hn : cs.length = n * size) (hm : n ≤ maxLen) : (Own (.slice (some ⟨b, 0, none⟩) n n) e size n cs).holds w :=
 ⟨hn, .inr ⟨b, n, cs.toArray, rfl, Nat.zero_le _, hb, Nat.le_refl _, hm, by simpa using hn, by simp [List.take_of_length_le, hn]⟩⟩
theorem St.impAt {w0 w : World} {F : Nat → Prop} {m : Hp} {c c' : Chunk} (i : Nat) (hi : m[i]? = some c) (h : St w0 F m w) (hf : ∀ b, c'.foot b → c.foot b) (hh : c.holds w → c'.holds w) : St w0 F (m.set i c') w := by
 have h1 := (h.front hi).imp hf hh
 refine h1.perm ?_
 have hlt := (List.getElem?_eq_some_iff.1 hi).1
 have h3 := perm_erase (m.set i c') i c' (by simp [hlt])
 rw [List.eraseIdx_set_eq] at h3
 exact h3.symm
theorem St.offm {w0 w : World} {F : Nat → Prop} {m mc : Hp} (h : St w0 F m w) (hs : ∀ c ∈ mc, c ∈ m) : Le (SL.off w0 F) (SL.off w (feet mc)) := by
 intro p v hp
 have h1 := h.off p v hp
 unfold SL.off at hp ⊢
 split at hp
 ·cases hp
 ·rename_i hF
  rw [if_neg]
  ·exact h1
  ·rintro ⟨c, hc, hb⟩
   rcases h.own c (hs c hc) _ hb with h2 | h2
   ·have := lt_of_cell hp; omega
   ·exact hF h2
theorem St.part {w0 w : World} {F : Nat → Prop} {mc mr : Hp} (h : St w0 F (mc ++ mr) w) : (∀ c ∈ mc, c.holds w) ∧ mc.Pairwise Disj := ⟨fun c hc => h.hold c (by simp [hc]), (List.pairwise_append.1 h.sep).1⟩
section
variable {C : Cx} {ks : List Kt} {l : Fr} {m : Hp} {ty : TypeId} {pos : String} {after : Array Edge} {dst : Option Nat} {g : Option (Nat × Bool)} {ops : Array Oper}
theorem g_heap {m' : Hp} {Φ : Act → World → Prop} (hs : ∀ w, St C.w0 C.F m w → St C.w0 C.F m' w) (h : G C l m' Φ) : G C l m Φ := fun a w ha hw => h a w ha (hs w hw)
theorem g_imp {Φ : Act → World → Prop} {c c' : Chunk} (i : Nat) (hi : m[i]? = some c) (hf : ∀ b, c'.foot b → c.foot b) (hh : ∀ w, c.holds w → c'.holds w) (h : G C l (m.set i c') Φ) : G C l m Φ := fun a w ha hw => h a w ha (hw.impAt i hi hf (hh w))
theorem g_own {Φ : Act → World → Prop} {b e size n : Nat} {cs : List Value} (i : Nat) (hi : m[i]? = some (.blk b e cs)) (hn : cs.length = n * size) (hm : n ≤ maxLen) (h : G C l (m.set i (Own (.slice (some ⟨b, 0, none⟩) n n) e size n cs)) Φ) : G C l m Φ :=
 g_imp i hi (fun b' hb' => by
  have h : (Value.slice (some ⟨b, 0, none⟩) n n).ownBlock = some b' := hb'
  simp only [Value.ownBlock, Option.some.injEq] at h
  exact h.symm) (fun w hw => blk_own hw hn hm) h
theorem v_shr {x y : Operand} {t t' : TypeId} {k k' : IntKind} {p q : Int} (hx : rd l x = some (.int k p)) (hy : rd l y = some (.int k' q)) (hq : 0 ≤ q) : OpV C l m ⟨dst, .binOp .shr t x y t', ty, pos, after, g⟩ (.int k (p / 2 ^ min q.toNat k.bits)) := fun a w ha hw => by
 have h1 : p.fdiv (2 ^ min q.toNat k.bits) = p / 2 ^ min q.toNat k.bits := Int.fdiv_eq_ediv_of_nonneg _ (Int.pow_nonneg (by decide))
 simp [execOp, rd_eval ha.knows hx, rd_eval ha.knows hy, eqGuard, binOp, Op.shift, Int.not_lt.2 hq, h1]
theorem v_shl {x y : Operand} {t t' : TypeId} {k k' : IntKind} {p q : Int} (hx : rd l x = some (.int k p)) (hy : rd l y = some (.int k' q)) (hq : 0 ≤ q) : OpV C l m ⟨dst, .binOp .shl t x y t', ty, pos, after, g⟩ (.int k (k.wrap (p * 2 ^ min q.toNat k.bits))) := fun a w ha hw => by
 simp [execOp, rd_eval ha.knows hx, rd_eval ha.knows hy, eqGuard, binOp, Op.shift, Int.not_lt.2 hq]
theorem v_and {x y : Operand} {t t' : TypeId} {k : IntKind} {p q : Int} (hx : rd l x = some (.int k p)) (hy : rd l y = some (.int k q)) : OpV C l m ⟨dst, .binOp .and t x y t', ty, pos, after, g⟩ (.int k (k.wrap (BitVec.ofInt k.bits p &&& BitVec.ofInt k.bits q).toNat)) := fun a w ha hw => by
 simp [execOp, rd_eval ha.knows hx, rd_eval ha.knows hy, eqGuard, binOp, Op.intBits]
theorem v_or {x y : Operand} {t t' : TypeId} {k : IntKind} {p q : Int} (hx : rd l x = some (.int k p)) (hy : rd l y = some (.int k q)) : OpV C l m ⟨dst, .binOp .or t x y t', ty, pos, after, g⟩ (.int k (k.wrap (BitVec.ofInt k.bits p ||| BitVec.ofInt k.bits q).toNat)) := fun a w ha hw => by
 simp [execOp, rd_eval ha.knows hx, rd_eval ha.knows hy, eqGuard, binOp, Op.intBits]
end
theorem bv_ofInt {n : Nat} {p : Int} (h0 : 0 ≤ p) (h1 : p < 2 ^ n) : (BitVec.ofInt n p).toNat = p.toNat := by
 have h2 : p % 2 ^ n = p := Int.emod_eq_of_lt h0 h1
 rw [BitVec.toNat_ofInt, show ((2 ^ n : Nat) : Int) = 2 ^ n from by simp, h2]
theorem wrap_nat {k : IntKind} (hk : k = .i64 ∨ k = .u64) {n : Int} (h0 : 0 ≤ n) (h : n ≤ 9223372036854775807) : k.wrap n = n := by
 rcases hk with rfl | rfl <;> simp [IntKind.wrap, IntKind.bits, IntKind.signed] <;> omega
theorem and_mask {k : IntKind} (hk : k = .i64 ∨ k = .u64) {p : Int} (h0 : 0 ≤ p) (h1 : p < 2 ^ k.bits) (j : Nat) (hj : j ≤ 62) : k.wrap (BitVec.ofInt k.bits p &&& BitVec.ofInt k.bits ((2 ^ j - 1 : Nat) : Int)).toNat = p % 2 ^ j := by
 have hb : k.bits = 64 := by rcases hk with rfl | rfl <;> rfl
 have h2j : 2 ^ j ≤ 2 ^ 62 := Nat.pow_le_pow_right (by decide) hj
 rw [BitVec.toNat_and, bv_ofInt h0 h1, bv_ofInt (by omega) (by rw [hb]; omega), Int.toNat_natCast, Nat.and_two_pow_sub_one_eq_mod]
 have h3 : ((p.toNat % 2 ^ j : Nat) : Int) = p % 2 ^ j := by
  rw [Int.natCast_emod, Int.toNat_of_nonneg h0]; simp
 have h4 : p.toNat % 2 ^ j < 2 ^ j := Nat.mod_lt _ (Nat.pow_pos (by decide))
 rw [wrap_nat hk (by omega) (by omega), h3]
theorem or_add {k : IntKind} (hk : k = .i64 ∨ k = .u64) {p q : Int} (j : Nat) (h0 : 0 ≤ p) (h1 : p < 2 ^ j) (hq0 : 0 ≤ q) (hq : q % 2 ^ j = 0) (hs : p + q < 2 ^ 63) : k.wrap (BitVec.ofInt k.bits p ||| BitVec.ofInt k.bits q).toNat = p + q := by
 have hb : k.bits = 64 := by rcases hk with rfl | rfl <;> rfl
 have e63 : (2 : Int) ^ 63 = 9223372036854775808 := by decide
 rw [BitVec.toNat_or, bv_ofInt h0 (by rw [hb]; omega), bv_ofInt hq0 (by rw [hb]; omega)]
 obtain ⟨c, hc⟩ := Int.dvd_of_emod_eq_zero hq
 have h2 : (0 : Int) < 2 ^ j := Int.pow_pos (by decide)
 have hc0 : 0 ≤ c := by
  by_cases h : 0 ≤ c
  ·exact h
  ·have : (2 : Int) ^ j * c < 0 := Int.mul_neg_of_pos_of_neg h2 (by omega)
   omega
 have hq2 : q.toNat = 2 ^ j * c.toNat := by
  have : ((2 ^ j * c.toNat : Nat) : Int) = q := by simp [Int.toNat_of_nonneg hc0, hc]
  omega
 have hp2 : p.toNat < 2 ^ j := by
  have : ((2 ^ j : Nat) : Int) = 2 ^ j := by simp
  omega
 have h3 : p.toNat ||| q.toNat = p.toNat + q.toNat := by
  rw [hq2, Nat.or_comm, ← Nat.two_pow_add_eq_or_of_lt hp2, Nat.add_comm]
 rw [h3, wrap_nat hk (by omega) (by omega)]
 omega
theorem wrap_u64 {n : Int} (h0 : 0 ≤ n) (h : n < 18446744073709551616) : IntKind.u64.wrap n = n := by
 simp [IntKind.wrap, IntKind.bits, IntKind.signed]
 omega
theorem or_addU {p q : Int} (j : Nat) (h0 : 0 ≤ p) (h1 : p < 2 ^ j) (hq0 : 0 ≤ q) (hq : q % 2 ^ j = 0) (hs : p + q < 18446744073709551616) : IntKind.u64.wrap (BitVec.ofInt IntKind.u64.bits p ||| BitVec.ofInt IntKind.u64.bits q).toNat = p + q := by
 have hb : IntKind.u64.bits = 64 := rfl
 rw [BitVec.toNat_or, bv_ofInt h0 (by rw [hb]; omega), bv_ofInt hq0 (by rw [hb]; omega)]
 obtain ⟨c, hc⟩ := Int.dvd_of_emod_eq_zero hq
 have h2 : (0 : Int) < 2 ^ j := Int.pow_pos (by decide)
 have hc0 : 0 ≤ c := by
  by_cases h : 0 ≤ c
  ·exact h
  ·have : (2 : Int) ^ j * c < 0 := Int.mul_neg_of_pos_of_neg h2 (by omega)
   omega
 have hq2 : q.toNat = 2 ^ j * c.toNat := by
  have : ((2 ^ j * c.toNat : Nat) : Int) = q := by simp [Int.toNat_of_nonneg hc0, hc]
  omega
 have hp2 : p.toNat < 2 ^ j := by
  have : ((2 ^ j : Nat) : Int) = 2 ^ j := by simp
  omega
 have h3 : p.toNat ||| q.toNat = p.toNat + q.toNat := by
  rw [hq2, Nat.or_comm, ← Nat.two_pow_add_eq_or_of_lt hp2, Nat.add_comm]
 rw [h3, wrap_u64 (by omega) (by omega)]
 omega
theorem append_ty2 {P : Program} {w : World} {t t2 e e2 ty : TypeId} {v x : Value} (ht : P.underlying t = some (.slice e)) (ht2 : P.underlying t2 = some (.slice e2)) : (Builtin.append_ #[t, t2] ty #[v, x]).run P w = (Builtin.append_ #[t, t] ty #[v, x]).run P w := by
 unfold Builtin.append_
 cases v with
 | slice A n k =>
  simp only [List.getElem?_toArray, List.getElem?_cons_zero, List.getElem?_cons_succ, Sem.run_bind, run_underlying ht, Result.andThen_ok]
  cases hs : (sizeOf e).run P w with
  | ok s w1 => simp only [Result.andThen_ok, Sem.run_bind, Sem.run_pure, run_underlying ht, run_underlying ht2]
  | halt s w1 => rfl
 | _ => simp [run_underlying ht]
section
variable {C : Cx} {l : Fr} {m : Hp} {ty : TypeId} {pos : String} {after : Array Edge} {d : Nat}
theorem x_appendJ {Φ : Act → World → Prop} {Q : Exit → Act → World → Prop} {s x : Operand} {t t2 e e2 : TypeId} {z v vx : Value} {size bytes n k : Nat} {xs news : List Value} (i : Nat) (hm : m[i]? = some (Own v e size n xs)) (hs : rd l s = some v) (hx : rd l x = some vx)
  (ht : C.P.underlying t = some (.slice e)) (ht2 : C.P.underlying t2 = some (.slice e2)) (hi : (C.P.info? e).map (fun i => (i.zero, i.size, i.bytes)) = some (some z, size, bytes)) (hzs : z.cells.size = size) (hsz : 0 < size)
  (hr : ∀ w, St C.w0 C.F m w → Rds w.cell? vx size k news) (h1 : ∀ u ∈ news, u.oneCell' = true) (hb : (n + k) * bytes ≤ 140737488355328) (h63 : n + k ≤ maxLen) (hd : Nat.blt d C.N = true)
  (h : ∀ v', G C ((d, v') :: l) (m.set i (Own v' e size (n + k) (xs ++ news))) Φ) :
  G C l m (fun a w => Oper.wp C.P ⟨some d, .call ⟨.builtin .append, #[s, x], #[t, t2]⟩, ty, pos, after, none⟩ a w Φ Q) := by
 cases hf : C.P.info? e with
 | none => rw [hf] at hi; cases hi
 | some inf =>
  rw [hf] at hi
  simp only [Option.map_some, Option.some.injEq, Prod.mk.injEq] at hi
  intro a w ha hw
  obtain ⟨v', w', hrun, hres⟩ := run_append_rds (P := C.P) t ty e inf z size bytes ht hf hi.1 hi.2.1 hi.2.2 hzs hsz (hw.mem hm) (hr w hw) h1 hb h63
  rw [← append_ty2 ht ht2] at hrun
  have : (execOp a.eval (⟨some d, .call ⟨.builtin .append, #[s, x], #[t, t2]⟩, ty, pos, after, none⟩ : Oper)).run C.P w = .ok (.value v') w' := by
   simp [execOp, resolve, invoke, builtin, rd_eval ha.knows hs, rd_eval ha.knows hx, hrun]
  unfold Oper.wp
  rw [this]
  exact h v' _ _ (ha.put (Nat.le_of_ble_eq_true hd)) (hw.at_ hm hres)
end
noncomputable abbrev ofb (w : World) (b : Nat) : View := SL.off w (fun k => k = b)
theorem feet_blk (b : Nat) (e : TypeId) (cs : List Value) : feet [Chunk.blk b e cs] = fun k => k = b := by
 funext k
 simp [feet, Chunk.foot]
theorem ofb_eq (w : World) (b : Nat) (e : TypeId) (cs : List Value) : ofb w b = SL.off w (feet [Chunk.blk b e cs]) := by rw [feet_blk]
theorem Res.ofb {w w' : World} {b e : Nat} {cs : List Value} {m : Hp} (h : Res w [.blk b e cs] m w') : Le (SL.ofb w b) (SL.ofb w' b) := by
 have := h.chg.off
 rwa [feet_blk] at this
theorem St.ofb {w0 w : World} {F : Nat → Prop} {m : Hp} {b e : Nat} {cs : List Value} (h : St w0 F m w) (i : Nat) (hi : m[i]? = some (.blk b e cs)) : Le (SL.off w0 F) (SL.ofb w b) := by
 have := h.offm (mc := [.blk b e cs]) (fun c hc => by simp only [List.mem_singleton] at hc; subst hc; exact List.mem_of_getElem? hi)
 rwa [feet_blk] at this
section
variable {C : Cx} {l : Fr} {m : Hp} {ty : TypeId} {pos : String} {after : Array Edge} {dst : Option Nat} {g : Option (Nat × Bool)}
theorem v_makeIface {x : Operand} {t : TypeId} {v : Value} (ht : C.P.concrete t = true) (hx : rd l x = some v) : OpV C l m ⟨dst, .makeInterface t x, ty, pos, after, g⟩ (.iface t v) := fun a w ha hw => by
 simp [execOp, rd_eval ha.knows hx, run_makeInterface, ht]
end
theorem IsBytes.tail {c : View} {A : Option Addr} {cap : Nat} {x : UInt8} {b : List UInt8} (h : IsBytes c (.slice A (x :: b).length cap) (x :: b)) : IsBytes c (slV A 1 (x :: b).length cap 1) b := by
 have := h.slice (lo := 1) (hi := (x :: b).length) (by simp) (Nat.le_refl _)
 rwa [List.drop_succ_cons, List.drop_zero, List.length_cons, Nat.add_sub_cancel, List.take_length] at this
end Go.SL
end
section
namespace Go.SL
open Go.RowKit
theorem keep_part {F G : Nat → Prop} {p : View → Prop} (hp : Up p) {w : World} (h : (Keep F p).holds w) (hF : ∀ b, F b → G b) : p (cutTo w G).cell? := hp _ _ (cutTo_mono hF) h.2
theorem own_part {v : Value} {e size n : Nat} {xs : List Value} {G : Nat → Prop} {w : World} (h : (Own v e size n xs).holds w) (hF : ∀ b, v.ownBlock = some b → G b) : Rds (cutTo w G).cell? v size n xs := own_rds (Chunk.cutTo h hF)
theorem feet_mem {m : Hp} {c : Chunk} (h : c ∈ m) : ∀ b, c.foot b → feet m b := fun _ hb => ⟨c, h, hb⟩
def Deeds (vs : List Value) (r : RoundL) (c : View) : Prop := vs.length = r.length ∧ ∀ i (h : i < r.length), ∃ u, vs[i]? = some u ∧ IsDeed c u r[i]
theorem Deeds.up (vs : List Value) (r : RoundL) : Up (Deeds vs r) := fun _ _ hl h => ⟨h.1, fun i hi => let ⟨u, h1, h2⟩ := h.2 i hi; ⟨u, h1, h2.mono hl⟩⟩
theorem Deeds.nil (c : View) : Deeds [] [] c := ⟨rfl, fun i hi => by simp at hi⟩
theorem Deeds.snoc {vs : List Value} {r : RoundL} {c : View} {u : Value} {d : DeedL} (h : Deeds vs r c) (hd : IsDeed c u d) : Deeds (vs ++ [u]) (r ++ [d]) c := by
 refine ⟨by simp [h.1], fun i hi => ?_⟩
 simp only [lnA] at hi
 by_cases hlt : i < r.length
 ·obtain ⟨u', h1, h2⟩ := h.2 i hlt
  have hv : i < vs.length := by rw [h.1]; exact hlt
  exact ⟨u', by rw [List.getElem?_append_left hv]; exact h1, by rw [List.getElem_append_left hlt]; exact h2⟩
 ·have e : i = r.length := by omega
  subst e
  refine ⟨u, ?_, ?_⟩
  ·rw [← h.1]; simp
  ·simpa using hd
theorem Deeds.round {vs : List Value} {r : RoundL} {c : View} {v : Value} (h : Deeds vs r c) (hv : Rds c v 1 r.length vs) : IsRound c v r := ⟨vs, hv, h.2⟩
theorem IsRound.up (v : Value) (r : RoundL) : Up (fun c => IsRound c v r) := fun _ _ hl h => h.mono hl
theorem deedCells_snoc (d : DeedL) (o : OpL) : deedCells (d ++ [o]) = deedCells d ++ opCells o := by simp [deedCells]
theorem St.deedIn {w0 w : World} {F G : Nat → Prop} {v : Value} {e n : Nat} {d : DeedL} {vs : List Value} {r : RoundL} {m : Hp} (hn : n = d.length) (h : St w0 F (Own v e 5 n (deedCells d) :: Keep G (Deeds vs r) :: m) w) :
  St w0 F (Keep (feet [Own v e 5 n (deedCells d), Keep G (Deeds vs r)]) (Deeds (vs ++ [v]) (r ++ [d])) :: m) w := by
 subst hn
 refine St.keep (mc := [Own v e 5 d.length (deedCells d), Keep G (Deeds vs r)]) (Deeds (vs ++ [v]) (r ++ [d])) h fun hh => ?_
 have h1 := hh _ (List.mem_cons_self ..)
 have h2 := hh _ (List.mem_cons_of_mem _ (List.mem_cons_self ..))
 exact (keep_part (Deeds.up _ _) h2 (fun b hb => ⟨_, List.mem_cons_of_mem _ (List.mem_cons_self ..), hb⟩)).snoc (own_part h1 (feet_mem (c := Own v e 5 d.length (deedCells d)) (by simp)))
theorem St.roundIn {w0 w : World} {F G : Nat → Prop} {v : Value} {e n : Nat} {vs : List Value} {r : RoundL} {m : Hp} (hn : n = r.length) (h : St w0 F (Own v e 1 n vs :: Keep G (Deeds vs r) :: m) w) :
  St w0 F (Keep (feet [Own v e 1 n vs, Keep G (Deeds vs r)]) (fun c => IsRound c v r) :: m) w := by
 subst hn
 refine St.keep (mc := [Own v e 1 r.length vs, Keep G (Deeds vs r)]) (fun c => IsRound c v r) h fun hh => ?_
 have h1 := hh _ (List.mem_cons_self ..)
 have h2 := hh _ (List.mem_cons_of_mem _ (List.mem_cons_self ..))
 exact (keep_part (Deeds.up _ _) h2 (fun b hb => ⟨_, List.mem_cons_of_mem _ (List.mem_cons_self ..), hb⟩)).round (own_part h1 (feet_mem (c := Own v e 1 r.length vs) (by simp)))
theorem St.keep0 {w0 w : World} {F : Nat → Prop} {m : Hp} (p : View → Prop) (hp : ∀ c, p c) (h : St w0 F m w) : St w0 F (Keep (feet []) p :: m) w := St.keep (mc := []) p h fun _ => hp _
theorem getOps_step {m j : Nat} (hj : j < m) {rest rest' : List UInt8} {o : OpL} (h : getOp rest = some (o, rest')) (d : DeedL) : (getOps (m - j) rest).map (fun p => (d ++ p.1, p.2)) = (getOps (m - (j + 1)) rest').map (fun p => (d ++ [o] ++ p.1, p.2)) := by
 have e : m - j = (m - (j + 1)) + 1 := by omega
 rw [e]
 simp only [getOps, h]
 cases getOps (m - (j + 1)) rest' with
 | none => rfl
 | some p => simp
theorem getOps_none {m j : Nat} (hj : j < m) {rest : List UInt8} (h : getOp rest = none) : getOps (m - j) rest = none := by
 have e : m - j = (m - (j + 1)) + 1 := by omega
 rw [e]
 simp only [getOps, h]
theorem getDeeds_step {m j : Nat} (hj : j < m) {rest rest' : List UInt8} {o : DeedL} (h : getDeed rest = some (o, rest')) (d : RoundL) : (getDeeds (m - j) rest).map (fun p => (d ++ p.1, p.2)) = (getDeeds (m - (j + 1)) rest').map (fun p => (d ++ [o] ++ p.1, p.2)) := by
 have e : m - j = (m - (j + 1)) + 1 := by omega
 rw [e]
 simp only [getDeeds, h]
 cases getDeeds (m - (j + 1)) rest' with
 | none => rfl
 | some p => simp
theorem getDeeds_none {m j : Nat} (hj : j < m) {rest : List UInt8} (h : getDeed rest = none) : getDeeds (m - j) rest = none := by
 have e : m - j = (m - (j + 1)) + 1 := by omega
 rw [e]
 simp only [getDeeds, h]
end Go.SL
end
section
namespace Go.SL
open Go.RowKit
set_option linter.unusedSectionVars false
theorem enterD0 {P : Program} {f : FuncId} {fn : Func} {c : Code} {vs : List Value} {w : World} {R : Ending → World → Prop} {N : Nat} (hf : P.funcs[f]? = some fn) (hb : fn.body = some c) (hN : fn.ntmps = N) (hlen : Nat.ble vs.length N = true)
  (h : E ⟨P, N, w, feet [], bodyPostD P fn R, []⟩ [.code c] (frOf 0 vs) []) : Calls P f vs.toArray w R := by
 have hl := Nat.le_of_ble_eq_true hlen
 refine calls_of_wp_defers hf hb ?_
 have h1 := h { tmps := vs.toArray ++ Array.replicate (fn.ntmps - vs.toArray.size) undef, defers := [] } w ⟨by simp [hN]; omega, rfl, ?_⟩ (St.start (by simp) (by simp))
 ·refine wp_mono h1 fun e a w hq => ?_
  cases e <;> exact hq
 ·intro t v ht
  have := look_frOf vs 0 t v ht
  simp only [Nat.sub_zero, Nat.zero_le, true_and] at this
  have hlt : t < vs.length := (List.getElem?_eq_some_iff.1 this).1
  simp only [Array.getElem?_append, List.size_toArray, hlt, if_true, List.getElem?_toArray, this]
theorem kp_D {C : Cx} (D : List Deferred) : ∀ (ks : List Kt), Kp { C with D := D } ks = Kp C ks
 | [] => rfl
 | .code c :: ks => by simp only [Kp, kp_D D ks]
 | .blk _ :: ks => by simp only [Kp, kp_D D ks]
 | .inv _ :: ks => by simp only [Kp, kp_D D ks]
section
variable {C : Cx} {ks : List Kt} {l : Fr} {m : Hp} {ty : TypeId} {pos : String} {after : Array Edge} {dst : Option Nat} {g : Option (Nat × Bool)} {ops : Array Oper} {rest : List Oper}
theorem v_makeFunc {f : FuncId} {cap : Array Operand} {vs : List Value} (hc : rdAll l cap.toList = some vs) : OpV C l m ⟨dst, .makeFunc (.func f) #[] cap, ty, pos, after, g⟩ (.func (.func f) #[] vs.toArray) := fun a w ha hw => by
 have h1 : cap.map a.eval = vs.toArray := by
  have := rdAll_eval ha.knows hc
  rw [← this]
  apply Array.ext'
  simp
 simp [execOp, h1, Instr.makeFunc]
theorem w_defer {P : Program} {N : Nat} {w0 : World} {F : Nat → Prop} {Q : Exit → Act → World → Prop} {D : List Deferred} {f : FuncId} {cap : Array Value} {fx : Operand} (hf : rd l fx = some (.func (.func f) #[] cap)) (h : W ⟨P, N, w0, F, Q, { target := .fn (.func f) cap, args := #[] } :: D⟩ ops rest ks l m) :
  W ⟨P, N, w0, F, Q, D⟩ ops (⟨none, .defer ⟨.value fx, #[], #[]⟩, ty, pos, after, none⟩ :: rest) ks l m := by
 refine w_op rfl ?_
 intro a w ha hw
 have : (execOp a.eval (⟨none, .defer ⟨.value fx, #[], #[]⟩, ty, pos, after, none⟩ : Oper)).run P w = .ok (.defer { target := .fn (.func f) cap, args := #[] }) w := by
  simp [execOp, resolve, rd_eval ha.knows hf, Deferred.ofValue]
 unfold Oper.wp
 rw [this, Oper.upon_defer]
 have h1 := h { a with defers := { target := .fn (.func f) cap, args := #[] } :: a.defers } w ⟨ha.size, by rw [ha.defers], ha.knows⟩ hw
 have h2 := kp_D (C := ⟨P, N, w0, F, Q, D⟩) ({ target := .fn (.func f) cap, args := #[] } :: D) ks
 simp only at h2
 rw [h2] at h1
 exact h1
end
section
variable {P : Program} {N : Nat} {w0 : World} {F : Nat → Prop} {fn : Func} {R : Ending → World → Prop} {l : Fr} {m m' : Hp} {ks : List Kt} {f : FuncId} {cap : Array Value}
theorem leaves_one {tmps : Array Value} {w : World} {u : FrameMode} (hu : u ≠ .run) (hi : ∀ args w, (callFunc f args).run P w = .ok (.enter f args) w)
  (h : CallsD P f cap u w fun e u' w' => e = .returned (.tuple #[]) ∧ settle u' = .returning ∧ ∃ v, (results fn tmps).run P w' = .ok v w' ∧ R (.returned v) w') : Leaves P fn tmps R [{ target := .fn (.func f) cap, args := #[] }] u w := by
 refine leaves_cons (f := f) (args := cap) hu (by simp [invoke, hi]) (h.mono ?_)
 rintro e u' w' ⟨rfl, h1, h2⟩
 simp only [h1]
 exact h2
theorem res2 {r r2 : ResultVar} {v v2 : Value} (hr : fn.results = #[r, r2]) (hv : ResV P l m r v) (hv2 : ResV P l m r2 v2) {C : Cx} {a : Act} (ha : Ok C l a) {w : World} (hm : ∀ c ∈ m, c.holds w) : (results fn a.tmps).run P w = .ok (.tuple #[v, v2]) w := by
 simp [results_eq, hr, hv.run ha.knows hm, hv2.run ha.knows hm]
theorem q_door2 {r r2 : ResultVar} {v v2 : Value} (hi : ∀ args w, (callFunc f args).run P w = .ok (.enter f args) w) (hcall : ∀ w, CallsD P f cap .returning w fun e u' w' => e = .returned (.tuple #[]) ∧ u' = .returning ∧ w' = w)
  (hr : fn.results = #[r, r2]) (hv : ResV P l m r v) (hv2 : ResV P l m r2 v2) (h : ∀ w, St w0 F m w → R (.returned (.tuple #[v, v2])) w) :
  ∀ a w, Ok ⟨P, N, w0, F, bodyPostD P fn R, [{ target := .fn (.func f) cap, args := #[] }]⟩ l a → St w0 F m w → bodyPostD P fn R .ret a w := by
 intro a w ha hw
 simp only [bodyPostD]
 rw [ha.defers]
 refine leaves_one (by simp) hi ((hcall w).mono ?_)
 rintro e u' w' ⟨rfl, rfl, rfl⟩
 exact ⟨rfl, rfl, _, res2 hr hv hv2 ha hw.hold, h w' hw⟩
theorem q_doorP2 {r r2 : ResultVar} {v v2 pv : Value} (hi : ∀ args w, (callFunc f args).run P w = .ok (.enter f args) w)
  (hcall : ∀ w, St w0 F m w → CallsD P f cap (.panicking [{ v := pv, recovered := false }]) w fun e u' w' => e = .returned (.tuple #[]) ∧ settle u' = .returning ∧ St w0 F m' w')
  (hr : fn.results = #[r, r2]) (hv : ResV P l m' r v) (hv2 : ResV P l m' r2 v2) (h : ∀ w, St w0 F m' w → R (.returned (.tuple #[v, v2])) w) :
  G ⟨P, N, w0, F, bodyPostD P fn R, [{ target := .fn (.func f) cap, args := #[] }]⟩ l m (bodyPostD P fn R (.panic [{ v := pv, recovered := false }])) := by
 intro a w ha hw
 simp only [bodyPostD]
 rw [ha.defers]
 refine leaves_one (by simp) hi ((hcall w hw).mono ?_)
 rintro e u' w' ⟨rfl, hs, hw'⟩
 exact ⟨rfl, hs, _, res2 hr hv hv2 ha hw'.hold, h w' hw'⟩
end
theorem blk_set {w : World} {b e i : Nat} {cs : List Value} {v : Value} {w0 : World} {F : Nat → Prop} {m : Hp} (k : Nat) (hk : m[k]? = some (.blk b e cs)) (h : St w0 F m w) : St w0 F (m.set k (.blk b e (cs.set i v))) (w.setCell ⟨b, i, none⟩ v) :=
 h.at_ hk (Res.setCell (h.mem hk) i v)
theorem blk_thawed {w : World} {b e i : Nat} {cs : List Value} (h : (Chunk.blk b e cs).holds w) : w.frozen? ⟨b, i, none⟩ = false := by
 have h : w.heap[b]? = some (.cells cs.toArray e (0, 0)) := h
 simp [World.frozen?, h]
section
variable {C : Cx} {l : Fr} {m : Hp}
theorem g_round {Φ : Act → World → Prop} {v : Value} {r : RoundL} {F : Nat → Prop} (i : Nat) (hm : m[i]? = some (Keep F (fun c => IsRound c v r))) (h : ∀ A k, v = .slice A r.length k → r.length ≤ k → G C l m Φ) : G C l m Φ := fun a w ha hw => by
 obtain ⟨vs, ⟨A, k, h1, h2, _⟩, _⟩ := (hw.mem hm).2
 exact h A k h1 h2 a w ha hw
end
end Go.SL
end
section
namespace Go.SL
section
variable {C : Cx} {l : Fr} {m : Hp} {ty t' : TypeId} {pos : String} {after : Array Edge} {dst : Option Nat} {gd : Option (Nat × Bool)} {x y : Operand}
end
end Go.SL
end
section
namespace Go.SL
open Go.RowKit
set_option linter.unusedSectionVars false
section
variable {C : Cx} {l : Fr} {m : Hp} {ty : TypeId} {pos : String} {after : Array Edge} {dst : Option Nat} {g : Option (Nat × Bool)}
theorem g_keep {Φ : Act → World → Prop} {F : Nat → Prop} {p q : View → Prop} (i : Nat) (hm : m[i]? = some (Keep F p)) (hpq : ∀ c, p c → q c) (h : G C l (m.set i (Keep F q)) Φ) : G C l m Φ :=
 g_imp (c' := Keep F q) i hm (fun _ hb => hb) (fun _ hw => ⟨hw.1, hpq _ hw.2⟩) h
theorem v_loadK {x : Operand} {ad : Addr} {t : TypeId} {v : Value} {u : TypeDesc} {F : Nat → Prop} {p : View → Prop} (i : Nat) (hm : m[i]? = some (Keep F p)) (hp : Up p) (hv : ∀ c, p c → c ad = some v) (ht : C.P.underlying t = some u) (hu : (match u with | .struct _ | .array _ _ => true | _ => false) = false)
  (hx : rd l x = some (.pointer (some ad))) : OpV C l m ⟨dst, .load t x, ty, pos, after, g⟩ v :=
 v_load1 ht hu hx fun _ hw => hv _ (keep_all hp (hw.mem hm))
end
def RoundV (v : Value) (vs : List Value) (r : RoundL) (c : View) : Prop := Rds c v 1 r.length vs ∧ Deeds vs r c
theorem RoundV.up (v : Value) (vs : List Value) (r : RoundL) : Up (RoundV v vs r) := fun _ _ hl h => ⟨h.1.mono hl, Deeds.up _ _ _ _ hl h.2⟩
theorem RoundV.round {v : Value} {vs : List Value} {r : RoundL} {c : View} (h : RoundV v vs r c) : IsRound c v r := h.2.round h.1
theorem RoundV.cell {A : Option Addr} {k : Nat} {vs : List Value} {r : RoundL} {c : View} (h : RoundV (.slice A r.length k) vs r c) {j : Nat} {u : Value} (hj : vs[j]? = some u) : ∃ ad, A = some ad ∧ c (ad.add j) = some u := by
 obtain ⟨⟨A', k', he, hk, hl, hc⟩, _⟩ := h
 injection he with e1 e2 e3
 subst e1
 have : j < vs.length := (List.getElem?_eq_some_iff.1 hj).1
 obtain ⟨ad, rfl, hcl⟩ := hc (by omega)
 exact ⟨ad, rfl, hcl j u hj⟩
section
variable {C : Cx} {l : Fr} {m : Hp}
theorem g_roundV {Φ : Act → World → Prop} {v : Value} {r : RoundL} {F : Nat → Prop} (i : Nat) (hm : m[i]? = some (Keep F (fun c => IsRound c v r)))
  (h : ∀ A k vs, v = .slice A r.length k → r.length ≤ k → (0 < r.length → ∃ ad, A = some ad) → vs.length = r.length → (∀ j (hj : j < r.length), ∃ A' k', vs[j]? = some (.slice A' r[j].length k') ∧ r[j].length ≤ k' ∧ (0 < r[j].length → ∃ ad, A' = some ad)) → G C l (m.set i (Keep F (RoundV v vs r))) Φ) : G C l m Φ := fun a w ha hw => by
 obtain ⟨h1, vs, h2, h3⟩ := hw.mem hm
 have h4 : vs.length = r.length := by obtain ⟨_, _, _, _, h, _⟩ := h2; simpa using h
 obtain ⟨A, k, rfl, hk, hl, hc⟩ := id h2
 refine h A k vs rfl hk (fun h0 => let ⟨ad, e, _⟩ := hc h0; ⟨ad, e⟩) h4 (fun j hj => ?_) a w ha (hw.impAt i hm (fun _ hb => hb) (fun _ => ⟨h1, h2, h4, h3⟩))
 obtain ⟨u, h5, A', k', rfl, h6, _, h7⟩ := h3 j hj
 exact ⟨A', k', h5, h6, fun h0 => let ⟨ad, e, _⟩ := h7 h0; ⟨ad, e⟩⟩
end
theorem isRound_nil (c : View) : IsRound c (.slice none 0 0) [] := ⟨[], ⟨none, 0, rfl, Nat.le_refl _, rfl, fun h => absurd h (Nat.lt_irrefl _)⟩, fun i hi => by simp at hi⟩
end Go.SL
end
