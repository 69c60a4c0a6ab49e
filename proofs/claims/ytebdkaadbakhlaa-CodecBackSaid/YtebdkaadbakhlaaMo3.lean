/- Ytebdkaadbakhlaa: part Mo3 of this seat's own texts. -/
import Derived.Test.YtebdkaadbakhlaaCodL
import Derived.Laws.Build
set_option linter.unusedVariables false
set_option linter.unusedSimpArgs false
namespace Go.SL
open Go.RowKit
set_option linter.unusedSectionVars false
theorem blk_own {w : World} {b e size n : Nat} {cs : List Value} (hb : (Chunk.blk b e cs).holds w) (hn : cs.length = n * size) (hm : n ≤ maxLen) : (Own (.slice (some ⟨b, 0, none⟩) n n) e size n cs).holds w :=
  ⟨hn, .inr ⟨b, n, cs.toArray, rfl, Nat.zero_le _, hb, Nat.le_refl _, hm, by simpa using hn, by simp [List.take_of_length_le, hn]⟩⟩
theorem St.impAt {w0 w : World} {F : Nat → Prop} {m : Hp} {c c' : Chunk} (i : Nat) (hi : m[i]? = some c) (h : St w0 F m w) (hf : ∀ b, c'.foot b → c.foot b) (hh : c.holds w → c'.holds w) : St w0 F (m.set i c') w := by
  have h1 := (h.front hi).imp hf hh
  refine h1.perm ?_
  have hlt := (List.getElem?_eq_some_iff.1 hi).1
  have h3 := perm_erase (m.set i c') i c' (by simp [hlt])
  rw [List.eraseIdx_set_eq] at h3
  exact h3.symm
theorem St.offm {w0 w : World} {F : Nat → Prop} {m mc : Hp} (h : St w0 F m w) (hs : ∀ c ∈ mc, c ∈ m) : Le (SL.off w0 F) (SL.off w (feet mc)) := by
  intro p v hp
  have h1 := h.off p v hp
  unfold SL.off at hp ⊢
  split at hp
  · cases hp
  · rename_i hF
    rw [if_neg]
    · exact h1
    · rintro ⟨c, hc, hb⟩
      rcases h.own c (hs c hc) _ hb with h2 | h2
      · have := lt_of_cell hp; omega
      · exact hF h2
theorem St.part {w0 w : World} {F : Nat → Prop} {mc mr : Hp} (h : St w0 F (mc ++ mr) w) : (∀ c ∈ mc, c.holds w) ∧ mc.Pairwise Disj := ⟨fun c hc => h.hold c (by simp [hc]), (List.pairwise_append.1 h.sep).1⟩
section
variable {C : Cx} {ks : List Kt} {l : Fr} {m : Hp} {ty : TypeId} {pos : String} {after : Array Edge} {dst : Option Nat} {g : Option (Nat × Bool)} {ops : Array Oper}
theorem g_heap {m' : Hp} {Φ : Act → World → Prop} (hs : ∀ w, St C.w0 C.F m w → St C.w0 C.F m' w) (h : G C l m' Φ) : G C l m Φ := fun a w ha hw => h a w ha (hs w hw)
theorem g_imp {Φ : Act → World → Prop} {c c' : Chunk} (i : Nat) (hi : m[i]? = some c) (hf : ∀ b, c'.foot b → c.foot b) (hh : ∀ w, c.holds w → c'.holds w) (h : G C l (m.set i c') Φ) : G C l m Φ := fun a w ha hw => h a w ha (hw.impAt i hi hf (hh w))
theorem g_own {Φ : Act → World → Prop} {b e size n : Nat} {cs : List Value} (i : Nat) (hi : m[i]? = some (.blk b e cs)) (hn : cs.length = n * size) (hm : n ≤ maxLen) (h : G C l (m.set i (Own (.slice (some ⟨b, 0, none⟩) n n) e size n cs)) Φ) : G C l m Φ :=
  g_imp i hi (fun b' hb' => by
    have h : (Value.slice (some ⟨b, 0, none⟩) n n).ownBlock = some b' := hb'
    simp only [Value.ownBlock, Option.some.injEq] at h
    exact h.symm) (fun w hw => blk_own hw hn hm) h
/-- a shift to the right -/
theorem v_shr {x y : Operand} {t t' : TypeId} {k k' : IntKind} {p q : Int} (hx : rd l x = some (.int k p)) (hy : rd l y = some (.int k' q)) (hq : 0 ≤ q) : OpV C l m ⟨dst, .binOp .shr t x y t', ty, pos, after, g⟩ (.int k (p / 2 ^ min q.toNat k.bits)) := fun a w ha hw => by
  have h1 : p.fdiv (2 ^ min q.toNat k.bits) = p / 2 ^ min q.toNat k.bits := Int.fdiv_eq_ediv_of_nonneg _ (Int.pow_nonneg (by decide))
  simp [execOp, rd_eval ha.knows hx, rd_eval ha.knows hy, eqGuard, binOp, Op.shift, Int.not_lt.2 hq, h1]
theorem v_shl {x y : Operand} {t t' : TypeId} {k k' : IntKind} {p q : Int} (hx : rd l x = some (.int k p)) (hy : rd l y = some (.int k' q)) (hq : 0 ≤ q) : OpV C l m ⟨dst, .binOp .shl t x y t', ty, pos, after, g⟩ (.int k (k.wrap (p * 2 ^ min q.toNat k.bits))) := fun a w ha hw => by
  simp [execOp, rd_eval ha.knows hx, rd_eval ha.knows hy, eqGuard, binOp, Op.shift, Int.not_lt.2 hq]
theorem v_and {x y : Operand} {t t' : TypeId} {k : IntKind} {p q : Int} (hx : rd l x = some (.int k p)) (hy : rd l y = some (.int k q)) : OpV C l m ⟨dst, .binOp .and t x y t', ty, pos, after, g⟩ (.int k (k.wrap (BitVec.ofInt k.bits p &&& BitVec.ofInt k.bits q).toNat)) := fun a w ha hw => by
  simp [execOp, rd_eval ha.knows hx, rd_eval ha.knows hy, eqGuard, binOp, Op.intBits]
theorem v_or {x y : Operand} {t t' : TypeId} {k : IntKind} {p q : Int} (hx : rd l x = some (.int k p)) (hy : rd l y = some (.int k q)) : OpV C l m ⟨dst, .binOp .or t x y t', ty, pos, after, g⟩ (.int k (k.wrap (BitVec.ofInt k.bits p ||| BitVec.ofInt k.bits q).toNat)) := fun a w ha hw => by
  simp [execOp, rd_eval ha.knows hx, rd_eval ha.knows hy, eqGuard, binOp, Op.intBits]
end
theorem bv_ofInt {n : Nat} {p : Int} (h0 : 0 ≤ p) (h1 : p < 2 ^ n) : (BitVec.ofInt n p).toNat = p.toNat := by
  have h2 : p % 2 ^ n = p := Int.emod_eq_of_lt h0 h1
  rw [BitVec.toNat_ofInt, show ((2 ^ n : Nat) : Int) = 2 ^ n from by simp, h2]
theorem wrap_nat {k : IntKind} (hk : k = .i64 ∨ k = .u64) {n : Int} (h0 : 0 ≤ n) (h : n ≤ 9223372036854775807) : k.wrap n = n := by
  rcases hk with rfl | rfl <;> simp [IntKind.wrap, IntKind.bits, IntKind.signed] <;> omega
/-- x & (2^j - 1) -/
theorem and_mask {k : IntKind} (hk : k = .i64 ∨ k = .u64) {p : Int} (h0 : 0 ≤ p) (h1 : p < 2 ^ k.bits) (j : Nat) (hj : j ≤ 62) : k.wrap (BitVec.ofInt k.bits p &&& BitVec.ofInt k.bits ((2 ^ j - 1 : Nat) : Int)).toNat = p % 2 ^ j := by
  have hb : k.bits = 64 := by rcases hk with rfl | rfl <;> rfl
  have h2j : 2 ^ j ≤ 2 ^ 62 := Nat.pow_le_pow_right (by decide) hj
  rw [BitVec.toNat_and, bv_ofInt h0 h1, bv_ofInt (by omega) (by rw [hb]; omega), Int.toNat_natCast, Nat.and_two_pow_sub_one_eq_mod]
  have h3 : ((p.toNat % 2 ^ j : Nat) : Int) = p % 2 ^ j := by
    rw [Int.natCast_emod, Int.toNat_of_nonneg h0]; simp
  have h4 : p.toNat % 2 ^ j < 2 ^ j := Nat.mod_lt _ (Nat.pow_pos (by decide))
  rw [wrap_nat hk (by omega) (by omega), h3]
/-- bits that do not meet -/
theorem or_add {k : IntKind} (hk : k = .i64 ∨ k = .u64) {p q : Int} (j : Nat) (h0 : 0 ≤ p) (h1 : p < 2 ^ j) (hq0 : 0 ≤ q) (hq : q % 2 ^ j = 0) (hs : p + q < 2 ^ 63) : k.wrap (BitVec.ofInt k.bits p ||| BitVec.ofInt k.bits q).toNat = p + q := by
  have hb : k.bits = 64 := by rcases hk with rfl | rfl <;> rfl
  have e63 : (2 : Int) ^ 63 = 9223372036854775808 := by decide
  rw [BitVec.toNat_or, bv_ofInt h0 (by rw [hb]; omega), bv_ofInt hq0 (by rw [hb]; omega)]
  obtain ⟨c, hc⟩ := Int.dvd_of_emod_eq_zero hq
  have h2 : (0 : Int) < 2 ^ j := Int.pow_pos (by decide)
  have hc0 : 0 ≤ c := by
    by_cases h : 0 ≤ c
    · exact h
    · have : (2 : Int) ^ j * c < 0 := Int.mul_neg_of_pos_of_neg h2 (by omega)
      omega
  have hq2 : q.toNat = 2 ^ j * c.toNat := by
    have : ((2 ^ j * c.toNat : Nat) : Int) = q := by simp [Int.toNat_of_nonneg hc0, hc]
    omega
  have hp2 : p.toNat < 2 ^ j := by
    have : ((2 ^ j : Nat) : Int) = 2 ^ j := by simp
    omega
  have h3 : p.toNat ||| q.toNat = p.toNat + q.toNat := by
    rw [hq2, Nat.or_comm, ← Nat.two_pow_add_eq_or_of_lt hp2, Nat.add_comm]
  rw [h3, wrap_nat hk (by omega) (by omega)]
  omega
theorem wrap_u64 {n : Int} (h0 : 0 ≤ n) (h : n < 18446744073709551616) : IntKind.u64.wrap n = n := by
  simp [IntKind.wrap, IntKind.bits, IntKind.signed]
  omega
theorem or_addU {p q : Int} (j : Nat) (h0 : 0 ≤ p) (h1 : p < 2 ^ j) (hq0 : 0 ≤ q) (hq : q % 2 ^ j = 0) (hs : p + q < 18446744073709551616) : IntKind.u64.wrap (BitVec.ofInt IntKind.u64.bits p ||| BitVec.ofInt IntKind.u64.bits q).toNat = p + q := by
  have hb : IntKind.u64.bits = 64 := rfl
  rw [BitVec.toNat_or, bv_ofInt h0 (by rw [hb]; omega), bv_ofInt hq0 (by rw [hb]; omega)]
  obtain ⟨c, hc⟩ := Int.dvd_of_emod_eq_zero hq
  have h2 : (0 : Int) < 2 ^ j := Int.pow_pos (by decide)
  have hc0 : 0 ≤ c := by
    by_cases h : 0 ≤ c
    · exact h
    · have : (2 : Int) ^ j * c < 0 := Int.mul_neg_of_pos_of_neg h2 (by omega)
      omega
  have hq2 : q.toNat = 2 ^ j * c.toNat := by
    have : ((2 ^ j * c.toNat : Nat) : Int) = q := by simp [Int.toNat_of_nonneg hc0, hc]
    omega
  have hp2 : p.toNat < 2 ^ j := by
    have : ((2 ^ j : Nat) : Int) = 2 ^ j := by simp
    omega
  have h3 : p.toNat ||| q.toNat = p.toNat + q.toNat := by
    rw [hq2, Nat.or_comm, ← Nat.two_pow_add_eq_or_of_lt hp2, Nat.add_comm]
  rw [h3, wrap_u64 (by omega) (by omega)]
  omega
theorem append_ty2 {P : Program} {w : World} {t t2 e e2 ty : TypeId} {v x : Value} (ht : P.underlying t = some (.slice e)) (ht2 : P.underlying t2 = some (.slice e2)) : (Builtin.append_ #[t, t2] ty #[v, x]).run P w = (Builtin.append_ #[t, t] ty #[v, x]).run P w := by
  unfold Builtin.append_
  cases v with
  | slice A n k =>
    simp only [List.getElem?_toArray, List.getElem?_cons_zero, List.getElem?_cons_succ, Sem.run_bind, run_underlying ht, Result.andThen_ok]
    cases hs : (sizeOf e).run P w with
    | ok s w1 => simp only [Result.andThen_ok, Sem.run_bind, Sem.run_pure, run_underlying ht, run_underlying ht2]
    | halt s w1 => rfl
  | _ => simp [run_underlying ht]
section
variable {C : Cx} {l : Fr} {m : Hp} {ty : TypeId} {pos : String} {after : Array Edge} {d : Nat}
/-- append, where the second slice is of another type's name -/
theorem x_appendJ {Φ : Act → World → Prop} {Q : Exit → Act → World → Prop} {s x : Operand} {t t2 e e2 : TypeId} {z v vx : Value} {size bytes n k : Nat} {xs news : List Value} (i : Nat) (hm : m[i]? = some (Own v e size n xs)) (hs : rd l s = some v) (hx : rd l x = some vx)
    (ht : C.P.underlying t = some (.slice e)) (ht2 : C.P.underlying t2 = some (.slice e2)) (hi : (C.P.info? e).map (fun i => (i.zero, i.size, i.bytes)) = some (some z, size, bytes)) (hzs : z.cells.size = size) (hsz : 0 < size)
    (hr : ∀ w, St C.w0 C.F m w → Rds w.cell? vx size k news) (h1 : ∀ u ∈ news, u.oneCell' = true) (hb : (n + k) * bytes ≤ 140737488355328) (h63 : n + k ≤ maxLen) (hd : Nat.blt d C.N = true)
    (h : ∀ v', G C ((d, v') :: l) (m.set i (Own v' e size (n + k) (xs ++ news))) Φ) :
    G C l m (fun a w => Oper.wp C.P ⟨some d, .call ⟨.builtin .append, #[s, x], #[t, t2]⟩, ty, pos, after, none⟩ a w Φ Q) := by
  cases hf : C.P.info? e with
  | none => rw [hf] at hi; cases hi
  | some inf =>
    rw [hf] at hi
    simp only [Option.map_some, Option.some.injEq, Prod.mk.injEq] at hi
    intro a w ha hw
    obtain ⟨v', w', hrun, hres⟩ := run_append_rds (P := C.P) t ty e inf z size bytes ht hf hi.1 hi.2.1 hi.2.2 hzs hsz (hw.mem hm) (hr w hw) h1 hb h63
    rw [← append_ty2 ht ht2] at hrun
    have : (execOp a.eval (⟨some d, .call ⟨.builtin .append, #[s, x], #[t, t2]⟩, ty, pos, after, none⟩ : Oper)).run C.P w = .ok (.value v') w' := by
      simp [execOp, resolve, invoke, builtin, rd_eval ha.knows hs, rd_eval ha.knows hx, hrun]
    unfold Oper.wp
    rw [this]
    exact h v' _ _ (ha.put (Nat.le_of_ble_eq_true hd)) (hw.at_ hm hres)
end
/-- memory but for one block -/
noncomputable abbrev ofb (w : World) (b : Nat) : View := SL.off w (fun k => k = b)
theorem feet_blk (b : Nat) (e : TypeId) (cs : List Value) : feet [Chunk.blk b e cs] = fun k => k = b := by
  funext k
  simp [feet, Chunk.foot]
theorem ofb_eq (w : World) (b : Nat) (e : TypeId) (cs : List Value) : ofb w b = SL.off w (feet [Chunk.blk b e cs]) := by rw [feet_blk]
/-- what a call that touches one block leaves of the view beside it -/
theorem Res.ofb {w w' : World} {b e : Nat} {cs : List Value} {m : Hp} (h : Res w [.blk b e cs] m w') : Le (SL.ofb w b) (SL.ofb w' b) := by
  have := h.chg.off
  rwa [feet_blk] at this
theorem St.ofb {w0 w : World} {F : Nat → Prop} {m : Hp} {b e : Nat} {cs : List Value} (h : St w0 F m w) (i : Nat) (hi : m[i]? = some (.blk b e cs)) : Le (SL.off w0 F) (SL.ofb w b) := by
  have := h.offm (mc := [.blk b e cs]) (fun c hc => by simp only [List.mem_singleton] at hc; subst hc; exact List.mem_of_getElem? hi)
  rwa [feet_blk] at this
section
variable {C : Cx} {l : Fr} {m : Hp} {ty : TypeId} {pos : String} {after : Array Edge} {dst : Option Nat} {g : Option (Nat × Bool)}
theorem v_makeIface {x : Operand} {t : TypeId} {v : Value} (ht : C.P.concrete t = true) (hx : rd l x = some v) : OpV C l m ⟨dst, .makeInterface t x, ty, pos, after, g⟩ (.iface t v) := fun a w ha hw => by
  simp [execOp, rd_eval ha.knows hx, run_makeInterface, ht]
end
theorem IsBytes.tail {c : View} {A : Option Addr} {cap : Nat} {x : UInt8} {b : List UInt8} (h : IsBytes c (.slice A (x :: b).length cap) (x :: b)) : IsBytes c (slV A 1 (x :: b).length cap 1) b := by
  have := h.slice (lo := 1) (hi := (x :: b).length) (by simp) (Nat.le_refl _)
  rwa [List.drop_succ_cons, List.drop_zero, List.length_cons, Nat.add_sub_cancel, List.take_length] at this
end Go.SL
