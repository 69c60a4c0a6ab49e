/- Ytebdkaadbakhlaa: part Equ2 of this seat's own texts. -/
import Derived.Test.YtebdkaadbakhlaaEqu
import Derived.Test.YtebdkaadbakhlaaMo3
set_option linter.unusedVariables false
set_option linter.unusedSimpArgs false
namespace Go.SL
theorem bytes_eq (a b : List UInt8) : ((⟨a.toArray⟩ : ByteArray).toList == (⟨b.toArray⟩ : ByteArray).toList) = decide (a = b) := by
  rw [ByteArray.toList_eq, ByteArray.toList_eq]
  show (a == b) = decide (a = b)
  by_cases h : a = b <;> simp [h]
theorem run_equalOp {P : Program} {t ti tn : TypeId} {f0 f1 f2 f3 f4 : Field} (ht : P.underlying t = some (.struct #[f0, f1, f2, f3, f4])) (hp : P.stoodInHeld t = false)
    (h0 : (f0.name != "_" && f1.name != "_" && f2.name != "_" && f3.name != "_" && f4.name != "_" && Nat.beq f0.offset 0 && Nat.beq f1.offset 1 && Nat.beq f2.offset 2 && Nat.beq f3.offset 3 && Nat.beq f4.offset 4) = true)
    (hf0 : f0.type = ti) (hf1 : f1.type = ti) (hf2 : f2.type = ti) (hf3 : f3.type = ti) (hf4 : f4.type = tn) (hi : P.underlying ti = some (.int .i64)) (hn : P.underlying tn = some (.int .i64)) (o o' : OpL) (w : World) :
    (Op.equalIn 10000 t (opV o) (opV o')).run P w = .ok (decide (o = o')) w := by
  simp only [Bool.and_eq_true, bne_iff_ne, ne_eq] at h0
  obtain ⟨⟨⟨⟨⟨⟨⟨⟨⟨n0, n1⟩, n2⟩, n3⟩, n4⟩, o0⟩, o1⟩, o2⟩, o3⟩, o4⟩ := h0
  have o0 := Nat.eq_of_beq_eq_true o0
  have o1 := Nat.eq_of_beq_eq_true o1
  have o2 := Nat.eq_of_beq_eq_true o2
  have o3 := Nat.eq_of_beq_eq_true o3
  have o4 := Nat.eq_of_beq_eq_true o4
  have hfs : P.fieldsOf t = #[f0, f1, f2, f3, f4] := by simp [Program.fieldsOf, ht]
  have hpi : P.plainKey ti = true := by simp [Program.plainKey, hi]
  have hpn : P.plainKey tn = true := by simp [Program.plainKey, hn]
  obtain ⟨k, a, b, c, n⟩ := o
  obtain ⟨k', a', b', c', n'⟩ := o'
  have part1 : ∀ {tt : TypeId} (_ : P.plainKey tt = true) (k a b c n : Int) (j : Nat) (v : Value), (#[.int .i64 k, .int .i64 a, .int .i64 b, .int .i64 c, .int .i64 n] : Array Value)[j]? = some v → (part tt #[.int .i64 k, .int .i64 a, .int .i64 b, .int .i64 c, .int .i64 n] j).run P w = .ok v w := fun h k a b c n j v hj => run_part_plain w h hj
  unfold opV
  rw [run_equalIn_struct w 9999 t _ _ (by rw [hfs]; exact ht) hp, hfs]
  simp only [Op.eqFields, ne_eq, n0, n1, n2, n3, n4, not_false_eq_true, if_true, o0, o1, o2, o3, o4, hf0, hf1, hf2, hf3, hf4, Sem.run_bind, part1 hpi _ _ _ _ _ 0 _ rfl, part1 hpi _ _ _ _ _ 1 _ rfl, part1 hpi _ _ _ _ _ 2 _ rfl, part1 hpi _ _ _ _ _ 3 _ rfl, part1 hpn _ _ _ _ _ 4 _ rfl, Result.andThen_ok, run_equalIn_int w 9998 ti .i64 .i64 _ _ hi, run_equalIn_int w 9998 tn .i64 .i64 _ _ hn, OpL.mk.injEq]
  by_cases e1 : k = k' <;> by_cases e2 : a = a' <;> by_cases e3 : b = b' <;> by_cases e4 : c = c' <;> by_cases e5 : n = n' <;>
    simp [e1, e2, e3, e4, e5, part1 hpi _ _ _ _ _ 1 _ rfl, part1 hpi _ _ _ _ _ 2 _ rfl, part1 hpi _ _ _ _ _ 3 _ rfl, part1 hpn _ _ _ _ _ 4 _ rfl, run_equalIn_int w 9998 ti .i64 .i64 _ _ hi, run_equalIn_int w 9998 tn .i64 .i64 _ _ hn]
section
variable {C : Cx} {l : Fr} {m : Hp} {ty t' : TypeId} {pos : String} {after : Array Edge} {dst : Option Nat} {gd : Option (Nat × Bool)} {x y : Operand}
theorem v_neqOp {t ti tn : TypeId} {f0 f1 f2 f3 f4 : Field} (ht : C.P.underlying t = some (.struct #[f0, f1, f2, f3, f4])) (hp : C.P.stoodInHeld t = false) (hm : C.P.eqGuardType C.P.depth t = false)
    (h0 : (f0.name != "_" && f1.name != "_" && f2.name != "_" && f3.name != "_" && f4.name != "_" && Nat.beq f0.offset 0 && Nat.beq f1.offset 1 && Nat.beq f2.offset 2 && Nat.beq f3.offset 3 && Nat.beq f4.offset 4) = true)
    (hf0 : f0.type = ti) (hf1 : f1.type = ti) (hf2 : f2.type = ti) (hf3 : f3.type = ti) (hf4 : f4.type = tn) (hi : C.P.underlying ti = some (.int .i64)) (hn : C.P.underlying tn = some (.int .i64)) {o o' : OpL}
    (hx : rd l x = some (opV o)) (hy : rd l y = some (opV o')) : OpV C l m ⟨dst, .binOp .neq t x y t', ty, pos, after, gd⟩ (.bool (decide (¬ o = o'))) :=
  fun a w ha _ => by
    have h1 := run_equalOp ht hp h0 hf0 hf1 hf2 hf3 hf4 hi hn o o' w
    simp only [opV] at h1
    simp only [execOp, rd_eval ha.knows hx, rd_eval ha.knows hy, opV, Sem.run_bind, run_eqGuard_agg _ _ _ _ _ _ _ hm, Result.andThen_ok, run_neq_struct, h1]
    simp
theorem v_neqBool {t : TypeId} {p q : Bool} (ht : C.P.underlying t = some .bool) (hx : rd l x = some (.bool p)) (hy : rd l y = some (.bool q)) : OpV C l m ⟨dst, .binOp .neq t x y t', ty, pos, after, gd⟩ (.bool (p != q)) := fun a w ha _ => by
  simp [execOp, rd_eval ha.knows hx, rd_eval ha.knows hy, eqGuard, binOp, run_equalIn_bool, Go.run_equal_bool w t p q ht, bne]
theorem v_eqlBool {t : TypeId} {p q : Bool} (ht : C.P.underlying t = some .bool) (hx : rd l x = some (.bool p)) (hy : rd l y = some (.bool q)) : OpV C l m ⟨dst, .binOp .eql t x y t', ty, pos, after, gd⟩ (.bool (p == q)) := fun a w ha _ => by
  simp [execOp, rd_eval ha.knows hx, rd_eval ha.knows hy, eqGuard, binOp, Go.run_equal_bool w t p q ht]
end
end Go.SL
