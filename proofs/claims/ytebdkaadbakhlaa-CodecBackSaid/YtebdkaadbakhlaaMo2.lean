/- Ytebdkaadbakhlaa: part Mo2 of this seat's own texts. -/
import Derived.Test.YtebdkaadbakhlaaMore
import Derived.Laws.IdiomStrings
import Derived.Laws.Strings
set_option linter.unusedVariables false
set_option linter.unusedSimpArgs false
namespace Go.SL
open Go.RowKit
set_option linter.unusedSectionVars false
/-! ## slices of slices -/
def slV (A : Option Addr) (lo hi cap s : Nat) : Value := .slice (if cap = lo then A else A.map (·.add (lo * s))) (hi - lo) (cap - lo)
theorem slV_0 (A : Option Addr) (hi cap s : Nat) : slV A 0 hi cap s = .slice (if cap = 0 then A else A.map (·.add 0)) hi cap := by simp [slV]
theorem add_zero (a : Addr) : a.add 0 = a := by unfold Addr.add; simp
theorem slV_0' (A : Option Addr) (hi cap s : Nat) : slV A 0 hi cap s = .slice A hi cap := by
  rw [slV_0]
  cases A <;> simp [add_zero]
theorem slV_rds {c : View} {A : Option Addr} {n cap size lo hi : Nat} {xs : List Value} (h : Rds c (.slice A n cap) size n xs) (h1 : lo ≤ hi) (h2 : hi ≤ n) : Rds c (slV A lo hi cap size) size (hi - lo) ((xs.drop (lo * size)).take ((hi - lo) * size)) := by
  obtain ⟨A', k, he, hk, hl, hc⟩ := h
  injection he with e1 e2 e3
  subst e1; subst e3
  have hmul : lo * size + (hi - lo) * size = hi * size := by rw [← Nat.add_mul]; congr 1; omega
  have hmul2 : hi * size ≤ n * size := Nat.mul_le_mul_right _ h2
  refine ⟨_, _, rfl, by omega, by rw [List.length_take, List.length_drop, hl]; omega, fun hp => ?_⟩
  obtain ⟨ad, rfl, hcl⟩ := hc (by omega)
  rw [if_neg (by omega)]
  refine ⟨_, rfl, fun j v hj => ?_⟩
  rw [add_add]
  refine hcl _ _ ?_
  rw [List.getElem?_take] at hj
  split at hj
  · rw [List.getElem?_drop] at hj; exact hj
  · cases hj
section
variable {C : Cx} {l : Fr} {m : Hp} {ty : TypeId} {pos : String} {after : Array Edge} {dst : Option Nat} {g : Option (Nat × Bool)}
theorem elem_of {P : Program} {t e : TypeId} (ht : P.underlying t = some (.slice e)) : P.elem t = e := by simp [Program.elem, ht]
theorem run_sizeOf' {P : Program} {e : TypeId} {z : Nat} (hz : P.info? e ≠ none) (hc : P.cellsOf e = z) (w : World) : (sizeOf e).run P w = .ok z w := by
  unfold Program.cellsOf at hc
  cases hi' : P.info? e with
  | none => exact absurd hi' hz
  | some i => simp [hi'] at hc; simp [sizeOf, typeInfo, hi', hc]
theorem v_sliceH {x y : Operand} {A : Option Addr} {n cap s : Nat} {t e : TypeId} {k : IntKind} {i : Int} (ht : C.P.underlying t = some (.slice e)) (hz : C.P.info? e ≠ none) (hc : C.P.cellsOf e = s) (hx : rd l x = some (.slice A n cap)) (hy : rd l y = some (.int k i))
    (h : 0 ≤ i ∧ i ≤ cap) : OpV C l m ⟨dst, .slice t x none (some y) none, ty, pos, after, g⟩ (slV A 0 i.toNat cap s) := fun a w ha hw => by
  have ht' := elem_of ht
  have h1 := run_sliceAt_slice (P := C.P) (w := w) t (.slice A n cap) none (some (.int k i)) none (by rw [ht']; exact ht)
  have h2 := run_slice_h (P := C.P) (w := w) t A n cap (by rw [ht']; exact ht) k i h.1 h.2
  simp [execOp, rd_eval ha.knows hx, rd_eval ha.knows hy, h1, h2, ht', run_sizeOf' hz hc, sliced, slV]
theorem v_sliceL {x y : Operand} {A : Option Addr} {n cap s : Nat} {t e : TypeId} {k : IntKind} {i : Int} (ht : C.P.underlying t = some (.slice e)) (hz : C.P.info? e ≠ none) (hc : C.P.cellsOf e = s) (hx : rd l x = some (.slice A n cap)) (hy : rd l y = some (.int k i))
    (h : 0 ≤ i ∧ i ≤ n) : OpV C l m ⟨dst, .slice t x (some y) none none, ty, pos, after, g⟩ (slV A i.toNat n cap s) := fun a w ha hw => by
  have ht' := elem_of ht
  have h1 := run_sliceAt_slice (P := C.P) (w := w) t (.slice A n cap) (some (.int k i)) none none (by rw [ht']; exact ht)
  have h2 := run_slice_l (P := C.P) (w := w) t A n cap (by rw [ht']; exact ht) k i h.1 h.2
  simp [execOp, rd_eval ha.knows hx, rd_eval ha.knows hy, h1, h2, ht', run_sizeOf' hz hc, sliced, slV]
theorem v_sliceLH {x y z : Operand} {A : Option Addr} {n cap s : Nat} {t e : TypeId} {k k' : IntKind} {i j : Int} (ht : C.P.underlying t = some (.slice e)) (hz : C.P.info? e ≠ none) (hc : C.P.cellsOf e = s) (hx : rd l x = some (.slice A n cap)) (hy : rd l y = some (.int k i)) (hzz : rd l z = some (.int k' j))
    (h : 0 ≤ i ∧ i ≤ j ∧ j ≤ cap) : OpV C l m ⟨dst, .slice t x (some y) (some z) none, ty, pos, after, g⟩ (slV A i.toNat j.toNat cap s) := fun a w ha hw => by
  have ht' := elem_of ht
  have h1 := run_sliceAt_slice (P := C.P) (w := w) t (.slice A n cap) (some (.int k i)) (some (.int k' j)) none (by rw [ht']; exact ht)
  have h2 := run_slice_lh (P := C.P) (w := w) t A n cap (by rw [ht']; exact ht) k k' i j h.1 h.2.1 h.2.2
  simp [execOp, rd_eval ha.knows hx, rd_eval ha.knows hy, rd_eval ha.knows hzz, h1, h2, ht', run_sizeOf' hz hc, sliced, slV]
theorem v_sliceHM {x y z : Operand} {A : Option Addr} {n cap s : Nat} {t e : TypeId} {k k' : IntKind} {i j : Int} (ht : C.P.underlying t = some (.slice e)) (hz : C.P.info? e ≠ none) (hc : C.P.cellsOf e = s) (hx : rd l x = some (.slice A n cap)) (hy : rd l y = some (.int k i)) (hzz : rd l z = some (.int k' j))
    (h : 0 ≤ i ∧ i ≤ j ∧ j ≤ cap) : OpV C l m ⟨dst, .slice t x none (some y) (some z), ty, pos, after, g⟩ (slV A 0 i.toNat j.toNat s) := fun a w ha hw => by
  have ht' := elem_of ht
  have h1 := run_sliceAt_slice (P := C.P) (w := w) t (.slice A n cap) none (some (.int k i)) (some (.int k' j)) (by rw [ht']; exact ht)
  have h2 := run_slice_hm (P := C.P) (w := w) t A n cap (by rw [ht']; exact ht) k k' i j h.1 h.2.1 h.2.2
  simp [execOp, rd_eval ha.knows hx, rd_eval ha.knows hy, rd_eval ha.knows hzz, h1, h2, ht', run_sizeOf' hz hc, sliced, slV]
end
theorem IsRound.take {c : View} {A : Option Addr} {cap : Nat} {r : RoundL} (h : IsRound c (.slice A r.length cap) r) {k : Nat} (hk : k ≤ r.length) : IsRound c (slV A 0 k cap 1) (r.take k) := by
  obtain ⟨vs, h1, h2⟩ := h
  have h3 := slV_rds (lo := 0) (hi := k) h1 (by omega) hk
  simp only [Nat.sub_zero, Nat.zero_mul, List.drop_zero, Nat.mul_one] at h3
  have hl : (r.take k).length = k := by simp; omega
  refine ⟨vs.take k, by rw [hl]; exact h3, fun i hi => ?_⟩
  rw [hl] at hi
  obtain ⟨u, h4, h5⟩ := h2 i (by omega)
  refine ⟨u, by rw [List.getElem?_take, if_pos hi]; exact h4, by rw [List.getElem_take]; exact h5⟩
theorem IsRound.drop {c : View} {A : Option Addr} {cap : Nat} {r : RoundL} (h : IsRound c (.slice A r.length cap) r) {k : Nat} (hk : k ≤ r.length) : IsRound c (slV A k r.length cap 1) (r.drop k) := by
  obtain ⟨vs, h1, h2⟩ := h
  have h3 := slV_rds (lo := k) (hi := r.length) h1 hk (Nat.le_refl _)
  have hvl : vs.length = r.length := by obtain ⟨_, _, _, _, h, _⟩ := h1; simpa using h
  simp only [Nat.mul_one] at h3
  have hl : (r.drop k).length = r.length - k := by simp
  have h5 : (vs.drop k).take (r.length - k) = vs.drop k := List.take_of_length_le (by simp; omega)
  rw [h5] at h3
  refine ⟨vs.drop k, by rw [hl]; exact h3, fun i hi => ?_⟩
  rw [hl] at hi
  obtain ⟨u, h4, h6⟩ := h2 (k + i) (by omega)
  exact ⟨u, by rw [List.getElem?_drop]; exact h4, by rw [List.getElem_drop]; exact h6⟩

/-! ## memory of some blocks alone -/
noncomputable def cutTo (w : World) (F : Nat → Prop) : World := { w with heap := w.heap.mapIdx fun i o => open Classical in if F i then o else .cells #[] 0 (0, 0) }
theorem cutTo_in {w : World} {F : Nat → Prop} {b : Nat} (h : F b) : (cutTo w F).heap[b]? = w.heap[b]? := by
  simp only [cutTo, Array.getElem?_mapIdx, h, if_true]
  cases w.heap[b]? <;> rfl
theorem cutTo_le (w : World) (F : Nat → Prop) : Le (cutTo w F).cell? w.cell? := by
  intro p v h
  by_cases hF : F p.block
  · rw [← h]; exact (World.cell?_of_block (cutTo_in hF)).symm
  · simp only [World.cell?, cutTo, Array.getElem?_mapIdx, hF, if_false] at h
    cases hb : w.heap[p.block]? <;> simp [hb] at h
theorem cutTo_mono {w : World} {F F' : Nat → Prop} (hF : ∀ b, F b → F' b) : Le (cutTo w F).cell? (cutTo w F').cell? := by
  intro p v h
  by_cases h1 : F p.block
  · rw [← h]
    exact World.cell?_of_block ((cutTo_in (hF _ h1)).trans (cutTo_in h1).symm)
  · simp only [World.cell?, cutTo, Array.getElem?_mapIdx, h1, if_false] at h
    cases hb : w.heap[p.block]? <;> simp [hb] at h
theorem cutTo_same {w w' : World} {F : Nat → Prop} (h : ∀ b, F b → w'.heap[b]? = w.heap[b]?) : (cutTo w' F).cell? = (cutTo w F).cell? := by
  funext p
  by_cases h1 : F p.block
  · exact World.cell?_of_block ((cutTo_in h1).trans ((h _ h1).trans (cutTo_in h1).symm))
  · simp only [World.cell?, cutTo, Array.getElem?_mapIdx, h1, if_false]
    cases w.heap[p.block]? <;> cases w'.heap[p.block]? <;> simp
theorem Chunk.cutTo {c : Chunk} {w : World} {F : Nat → Prop} (h : c.holds w) (hF : ∀ b, c.foot b → F b) : c.holds (SL.cutTo w F) := Chunk.stable (fun b hb => cutTo_in (hF b hb)) h
def keepG (F : Nat → Prop) (p : View → Prop) : Gen where
  foot := F
  holds w := (∀ b, F b → b < w.heap.size) ∧ p (cutTo w F).cell?
  lt h hf := h.1 _ hf
  stable {w w'} hs h := by
    refine ⟨fun b hb => ?_, by rw [cutTo_same hs]; exact h.2⟩
    rcases Nat.lt_or_ge b w'.heap.size with hl | hg
    · exact hl
    · have h1 := hs b hb
      rw [Array.getElem?_eq_none hg] at h1
      have h2 := h.1 b hb
      rw [Array.getElem?_eq_getElem h2] at h1
      cases h1
/-- what can be read of the blocks in F alone -/
abbrev Keep (F : Nat → Prop) (p : View → Prop) : Chunk := .gen (keepG F p)
def Up (p : View → Prop) : Prop := ∀ c c', Le c c' → p c → p c'
theorem keep_all {F : Nat → Prop} {p : View → Prop} (hp : Up p) {w : World} (h : (Keep F p).holds w) : p w.cell? := hp _ _ (cutTo_le _ _) h.2
/-- chunks that stand ahead become one -/
theorem St.keep {w0 w : World} {F : Nat → Prop} {mc m : Hp} (p : View → Prop) (h : St w0 F (mc ++ m) w) (hp : (∀ c ∈ mc, c.holds w) → p (cutTo w (feet mc)).cell?) : St w0 F (Keep (feet mc) p :: m) w := by
  have hsep := List.pairwise_append.1 h.sep
  have hmc : ∀ c ∈ mc, c.holds w := fun c hc => h.hold c (by simp [hc])
  refine ⟨h.chg, ?_, ?_, ?_⟩
  · intro c hc
    rcases List.mem_cons.1 hc with rfl | hc
    · exact ⟨fun b ⟨c, hc, hb⟩ => Chunk.lt (hmc c hc) hb, hp hmc⟩
    · exact h.hold c (by simp [hc])
  · refine List.pairwise_cons.2 ⟨fun d hd b ⟨c, hc, hb⟩ hdb => hsep.2.2 c hc d hd b hb hdb, hsep.2.1⟩
  · intro c hc b hb
    rcases List.mem_cons.1 hc with rfl | hc
    · obtain ⟨c, hc, hb⟩ := hb
      exact h.own c (by simp [hc]) b hb
    · exact h.own c (by simp [hc]) b hb
theorem St.imp {w0 w : World} {F : Nat → Prop} {m : Hp} {c c' : Chunk} (h : St w0 F (c :: m) w) (hf : ∀ b, c'.foot b → c.foot b) (hh : c.holds w → c'.holds w) : St w0 F (c' :: m) w := by
  have hsep := List.pairwise_cons.1 h.sep
  refine ⟨h.chg, ?_, List.pairwise_cons.2 ⟨fun d hd b hb hdb => hsep.1 d hd b (hf b hb) hdb, hsep.2⟩, ?_⟩
  · intro d hd
    rcases List.mem_cons.1 hd with rfl | hd
    · exact hh (h.hold c (by simp))
    · exact h.hold d (by simp [hd])
  · intro d hd b hb
    rcases List.mem_cons.1 hd with rfl | hd
    · exact h.own c (by simp) b (hf b hb)
    · exact h.own d (by simp [hd]) b hb
/-! ## panics -/
section
variable {C : Cx} {l : Fr} {m : Hp} {ty : TypeId} {pos : String} {after : Array Edge} {dst : Option Nat}
theorem x_callP {Φ : Act → World → Prop} {Q : Exit → Act → World → Prop} {f : FuncId} {fx : Operand} {xs : Array Operand} {ats : Array TypeId} {cap args : Array Value} {vs : List Value} {mc mr : Hp} {σ τ : Type} (J : σ → Prop) (val : σ → Value) (mc' : σ → Hp) (K : τ → Prop) (pv : τ → Value) (mp : τ → Hp)
    (hf : rd l fx = some (.func (.func f) #[] cap)) (hx : rdAll l xs.toList = some vs) (hargs : (vs ++ cap.toList).toArray = args)
    (hcall : ∀ args w, (callFunc f args).run C.P w = .ok (.enter f args) w)
    (hc : ∀ w, St C.w0 C.F (mc ++ mr) w → Calls C.P f args w (fun e w' => (∃ s, J s ∧ e = .returned (val s) ∧ Res w mc (mc' s) w') ∨ (∃ t, K t ∧ e = .panicked [{ v := pv t, recovered := false }] ∧ Res w mc (mp t) w')))
    (hd : (match dst with | some d => Nat.blt d C.N | none => true) = true)
    (hq : ∀ t, K t → G C l (mp t ++ mr) (Q (.panic [{ v := pv t, recovered := false }])))
    (h : ∀ s, J s → G C (match dst with | some d => (d, val s) :: l | none => l) (mc' s ++ mr) Φ) :
    G C l (mc ++ mr) (fun a w => Oper.wp C.P ⟨dst, .call ⟨.value fx, xs, ats⟩, ty, pos, after, none⟩ a w Φ Q) := by
  intro a w ha hw
  have h1 : xs.map a.eval = vs.toArray := by
    have := rdAll_eval ha.knows hx
    rw [← this]
    apply Array.ext'
    simp
  have hargs : vs.toArray ++ cap = args := by rw [← hargs]; simp
  have : (execOp a.eval (⟨dst, .call ⟨.value fx, xs, ats⟩, ty, pos, after, none⟩ : Oper)).run C.P w = .ok (.enter f args) w := by
    simp only [execOp, resolve, h1, rd_eval ha.knows hf, Deferred.ofValue, Sem.run_bind, Sem.run_pure, Result.andThen_ok, invoke, Array.empty_append, hargs, hcall]
  unfold Oper.wp
  rw [this]
  refine (hc w hw).mono ?_
  rintro e w' (⟨s, hJ, rfl, hr⟩ | ⟨t, hK, rfl, hr⟩)
  · cases dst with
    | some d => exact h s hJ _ _ (ha.put (Nat.le_of_ble_eq_true hd)) (hw.call hr)
    | none => exact h s hJ _ _ ha (hw.call hr)
  · exact hq t hK _ _ ha (hw.call hr)
theorem g_panic {ks : List Kt} {ch : List PanicEntry} (h : G C l m (C.Q (.panic ch))) : G C l m (Kp C ks (.panic ch)) := fun a w ha hw => panic_kp (h a w ha hw)
theorem x_panic {Φ : Act → World → Prop} {Q : Exit → Act → World → Prop} {x : Operand} {t : TypeId} {v : Value} (hx : rd l x = some (.iface t v)) (h : G C l m (Q (.panic [{ v := .iface t v, recovered := false }]))) :
    G C l m (fun a w => Oper.wp C.P ⟨dst, .panic x, ty, pos, after, none⟩ a w Φ Q) := by
  intro a w ha hw
  unfold Oper.wp
  have : (execOp a.eval (⟨dst, .panic x, ty, pos, after, none⟩ : Oper)).run C.P w = .halt (.panic (.iface t v)) w := by
    simp [execOp, rd_eval ha.knows hx, Instr.panic, goPanic]
  rw [this]
  exact h a w ha hw
end
theorem q_panic {P : Program} {N : Nat} {w0 : World} {F : Nat → Prop} {fn : Func} {R : Ending → World → Prop} {l : Fr} {m : Hp} {ch : List PanicEntry} (h : ∀ w, St w0 F m w → R (.panicked ch) w) : G ⟨P, N, w0, F, bodyPost P fn R, []⟩ l m (bodyPost P fn R (.panic ch)) :=
  fun _ w ha hw => ⟨ha.defers, h w hw⟩
/-! ## bytes -/
def byteCells (l : List UInt8) : List Value := l.map fun b => .int .u8 (b.toNat : Int)
theorem byteCells_len (l : List UInt8) : (byteCells l).length = l.length := by simp [byteCells]
theorem byteCells_app (a b : List UInt8) : byteCells (a ++ b) = byteCells a ++ byteCells b := by simp [byteCells]
def IsBytes (c : View) (v : Value) (b : List UInt8) : Prop := Rds c v 1 b.length (byteCells b)
theorem IsBytes.mono {c c' : View} (hl : Le c c') {v : Value} {b : List UInt8} (h : IsBytes c v b) : IsBytes c' v b := Rds.mono hl h
theorem one_byteCells (b : List UInt8) : ∀ u ∈ byteCells b, u.oneCell' = true := by
  intro u hu
  simp only [byteCells, List.mem_map] at hu
  obtain ⟨x, _, rfl⟩ := hu
  rfl
def ub (n : Int) : UInt8 := UInt8.ofNat (n % 256).toNat
theorem ub_toNat (n : Int) : ((ub n).toNat : Int) = n % 256 := by
  simp only [ub, UInt8.toNat_ofNat']
  omega
theorem wrap_u8 (n : Int) : IntKind.u8.wrap n = n % 256 := by
  simp [IntKind.wrap, IntKind.bits, IntKind.signed]
theorem IsBytes.slice {c : View} {A : Option Addr} {cap lo hi : Nat} {b : List UInt8} (h : IsBytes c (.slice A b.length cap) b) (h1 : lo ≤ hi) (h2 : hi ≤ b.length) : IsBytes c (slV A lo hi cap 1) ((b.drop lo).take (hi - lo)) := by
  have h3 := slV_rds h h1 h2
  have hl : ((b.drop lo).take (hi - lo)).length = hi - lo := by simp; omega
  unfold IsBytes
  rw [hl]
  simpa [byteCells, List.map_take, List.map_drop] using h3
section
variable {C : Cx} {l : Fr} {m : Hp} {ty : TypeId} {pos : String} {after : Array Edge} {dst : Option Nat} {g : Option (Nat × Bool)}
/-- string(b) -/
theorem v_bytesStr {x : Operand} {v : Value} {b : List UInt8} {t t' e : TypeId} (ht : C.P.underlying t = some (.slice e)) (he : C.P.underlying e = some (.int .u8)) (ht' : C.P.underlying t' = some .string) (hx : rd l x = some v)
    (h : ∀ w, St C.w0 C.F m w → IsBytes w.cell? v b) : OpV C l m ⟨dst, .convert t t' x, ty, pos, after, g⟩ (.string ⟨b.toArray⟩) := fun a w ha hw => by
  obtain ⟨A, k, rfl, hk, hl, hc⟩ := h w hw
  have : (convert t t' (.slice A b.length k)).run C.P w = .ok (.string ⟨b.toArray⟩) w := by
    cases A with
    | none =>
      have hb : b = [] := by
        cases b with
        | nil => rfl
        | cons x xs => obtain ⟨ad, h1, _⟩ := hc (by simp); cases h1
      subst hb
      rw [run_convert_bytes_string w t t' e _ _ _ ht he ht']
      simp [Conv.bytesToString]
      rfl
    | some ad =>
      refine run_convert_bytes_back w t t' e ad k b ht he ht' fun j hj => ?_
      obtain ⟨ad', h1, h2⟩ := hc (by omega)
      injection h1 with h1
      subst h1
      exact h2 j _ (by simp [byteCells, hj])
  simp [execOp, rd_eval ha.knows hx, this]
theorem v_eqlStr {x y : Operand} {t t' : TypeId} {p q : ByteArray} (hx : rd l x = some (.string p)) (hy : rd l y = some (.string q)) : OpV C l m ⟨dst, .binOp .eql t x y t', ty, pos, after, g⟩ (.bool (p.toList == q.toList)) := fun a w ha hw => by
  simp [execOp, rd_eval ha.knows hx, rd_eval ha.knows hy, eqGuard, binOp_string_eql]
end
end Go.SL
