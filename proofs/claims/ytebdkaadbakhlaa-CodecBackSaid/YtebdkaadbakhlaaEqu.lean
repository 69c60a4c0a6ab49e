/- Ytebdkaadbakhlaa: part Equ of this seat's own texts. -/
import Derived.Test.YtebdkaadbakhlaaMore
import Derived.ChangeKeysEq
import Derived.Laws.StructEq
set_option linter.unusedVariables false
set_option linter.unusedSimpArgs false
namespace Go.SL
/-! ## '==' of arrays of integers, and of results -/
theorem info_some {P : Program} {e : TypeId} (h : P.info? e ≠ none) : ∃ i, P.info? e = some i := by
  cases hi : P.info? e with
  | none => exact absurd hi h
  | some i => exact ⟨i, rfl⟩
theorem run_eqItems_ints {P : Program} {e : TypeId} (he : P.underlying e = some (.int .i64)) (dd : Nat) (l l' : List Int) (w : World) (hll : l.length = l'.length) : ∀ (n k : Nat), k + n = l.length →
    (Op.eqItems (dd + 1) e 1 (intCells l).toArray (intCells l').toArray (List.range' k n)).run P w = .ok (decide (l.drop k = l'.drop k)) w
  | 0, k, h => by
    have h1 : l.drop k = [] := List.drop_eq_nil_of_le (by omega)
    have h2 : l'.drop k = [] := List.drop_eq_nil_of_le (by omega)
    simp [Op.eqItems, h1, h2]
  | n + 1, k, h => by
    have hk : k < l.length := by omega
    have hk' : k < l'.length := by omega
    have hp : P.plainKey e = true := by simp [Program.plainKey, he]
    have a1 : (intCells l).toArray[k * 1]? = some (.int .i64 l[k]) := by simp [intCells, hk]
    have a2 : (intCells l').toArray[k * 1]? = some (.int .i64 l'[k]) := by simp [intCells, hk']
    have ih := run_eqItems_ints he dd l l' w hll n (k + 1) (by omega)
    rw [List.range'_succ, List.drop_eq_getElem_cons hk, List.drop_eq_getElem_cons hk']
    simp only [Op.eqItems, Sem.run_bind, run_part_plain w hp a1, run_part_plain w hp a2, Result.andThen_ok, run_equalIn_int w dd e .i64 .i64 _ _ he]
    revert ih
    generalize l.drop (k + 1) = u
    generalize l'.drop (k + 1) = u'
    generalize l[k] = x
    generalize l'[k] = x'
    intro ih
    by_cases hx : x = x' <;> simp [hx, ih]
theorem run_equalInts {P : Program} {t e : TypeId} {n : Nat} (ht : P.underlying t = some (.array n e)) (he : P.underlying e = some (.int .i64)) (hi : P.info? e ≠ none) (hc : P.cellsOf e = 1) (dd : Nat) {l l' : List Int} (hl : l.length = n) (hl' : l'.length = n) (w : World) :
    (Op.equalIn (dd + 2) t (intsV l) (intsV l')).run P w = .ok (decide (l = l')) w := by
  obtain ⟨i, hi⟩ := info_some hi
  have h := run_eqItems_ints he dd l l' w (hl.trans hl'.symm) n 0 (by omega)
  show (Op.equalIn ((dd + 1) + 1) t (.agg (intCells l).toArray) (.agg (intCells l').toArray)).run P w = _
  rw [run_equalIn_array w (dd + 1) _ _ ht hi, hc, List.range_eq_range', h]
  simp
theorem run_equalRes {P : Program} {t tc tr e : TypeId} {f0 f1 : Field} (ht : P.underlying t = some (.struct #[f0, f1])) (hp : P.stoodInHeld t = false) (h0 : (f0.name != "_" && f1.name != "_" && Nat.beq f0.offset 0 && Nat.beq f1.offset 1) = true) (hf0 : f0.type = tc) (hf1 : f1.type = tr)
    (hc : P.underlying tc = some (.int .i64)) (hr : P.underlying tr = some (.array 4 e)) (he : P.underlying e = some (.int .i64)) (hi : P.info? e ≠ none) (hce : P.cellsOf e = 1) (hir : P.info? tr ≠ none) (hcr : P.cellsOf tr = 4) {c c' : Int} {g g' : List Int} (hg : g.length = 4) (hg' : g'.length = 4) (w : World) :
    (Op.equalIn 10000 t (.agg (resCells c g).toArray) (.agg (resCells c' g').toArray)).run P w = .ok (decide (c = c' ∧ g = g')) w := by
  simp only [Bool.and_eq_true, bne_iff_ne, ne_eq] at h0
  obtain ⟨⟨⟨n0, n1⟩, o0⟩, o1⟩ := h0
  have o0 := Nat.eq_of_beq_eq_true o0
  have o1 := Nat.eq_of_beq_eq_true o1
  have hfs : P.fieldsOf t = #[f0, f1] := by simp [Program.fieldsOf, ht]
  have hpc : P.plainKey tc = true := by simp [Program.plainKey, hc]
  have a1 : (resCells c g).toArray[0]? = some (.int .i64 c) := rfl
  have a2 : (resCells c' g').toArray[0]? = some (.int .i64 c') := rfl
  have part1 : ∀ (c : Int) (g : List Int), g.length = 4 → (part tr (resCells c g).toArray 1).run P w = .ok (intsV g) w := by
    intro c g hg
    obtain ⟨i, hir'⟩ := info_some hir
    have hs : (sizeOf tr).run P w = .ok 4 w := by
      unfold Program.cellsOf at hcr
      simp [hir'] at hcr
      simp [sizeOf, typeInfo, hir', hcr]
    have hag : (isAgg tr).run P w = .ok true w := by simp [isAgg, underlying, hr]
    simp only [part, Sem.run_bind, hag, Result.andThen_ok, if_true, hs, Sem.run_pure]
    congr 2
    obtain ⟨a, b, c, d, rfl⟩ := list4 hg
    rfl
  rw [run_equalIn_struct w 9999 t _ _ (by rw [hfs]; exact ht) hp, hfs]
  simp only [Op.eqFields, ne_eq, n0, n1, not_false_eq_true, if_true, o0, o1, hf0, hf1, Sem.run_bind, run_part_plain w hpc a1, run_part_plain w hpc a2, Result.andThen_ok, run_equalIn_int w 9998 tc .i64 .i64 _ _ hc]
  by_cases hx : c = c'
  · have h1 := run_equalInts hr he hi hce 9997 hg hg' w
    by_cases hy : g = g'
    · subst hx; subst hy; simp [part1 _ _ hg, h1]
    · subst hx; simp [part1 _ _ hg, part1 _ _ hg', h1, hy]
  · simp [hx]
section
variable {C : Cx} {l : Fr} {m : Hp} {ty t' : TypeId} {pos : String} {after : Array Edge} {dst : Option Nat} {gd : Option (Nat × Bool)} {x y : Operand}
theorem v_is {o : Oper} {v v' : Value} (h : OpV C l m o v) (e : v = v') : OpV C l m o v' := e ▸ h
theorem v_eqlInts {t e : TypeId} {n : Nat} {p q : List Int} (ht : C.P.underlying t = some (.array n e)) (hm : C.P.eqGuardType C.P.depth t = false) (he : C.P.underlying e = some (.int .i64)) (hi : C.P.info? e ≠ none) (hc : C.P.cellsOf e = 1) (hl : p.length = n) (hl' : q.length = n)
    (hx : rd l x = some (intsV p)) (hy : rd l y = some (intsV q)) : OpV C l m ⟨dst, .binOp .eql t x y t', ty, pos, after, gd⟩ (.bool (decide (p = q))) :=
  fun a w ha _ => by
    have h1 := run_equalInts ht he hi hc 9998 hl hl' w
    simp only [intsV] at h1
    simp only [execOp, rd_eval ha.knows hx, rd_eval ha.knows hy, intsV, Sem.run_bind, run_eqGuard_agg _ _ _ _ _ _ _ hm, Result.andThen_ok, run_eql_struct, h1]
    simp
theorem v_neqInts {t e : TypeId} {n : Nat} {p q : List Int} (ht : C.P.underlying t = some (.array n e)) (hm : C.P.eqGuardType C.P.depth t = false) (he : C.P.underlying e = some (.int .i64)) (hi : C.P.info? e ≠ none) (hc : C.P.cellsOf e = 1) (hl : p.length = n) (hl' : q.length = n)
    (hx : rd l x = some (intsV p)) (hy : rd l y = some (intsV q)) : OpV C l m ⟨dst, .binOp .neq t x y t', ty, pos, after, gd⟩ (.bool (decide (p ≠ q))) :=
  fun a w ha _ => by
    have h1 := run_equalInts ht he hi hc 9998 hl hl' w
    simp only [intsV] at h1
    simp only [execOp, rd_eval ha.knows hx, rd_eval ha.knows hy, intsV, Sem.run_bind, run_eqGuard_agg _ _ _ _ _ _ _ hm, Result.andThen_ok, run_neq_struct, h1]
    simp
theorem v_eqlRes {t tc tr e : TypeId} {f0 f1 : Field} (ht : C.P.underlying t = some (.struct #[f0, f1])) (hp : C.P.stoodInHeld t = false) (hm : C.P.eqGuardType C.P.depth t = false) (h0 : (f0.name != "_" && f1.name != "_" && Nat.beq f0.offset 0 && Nat.beq f1.offset 1) = true) (hf0 : f0.type = tc) (hf1 : f1.type = tr)
    (hc : C.P.underlying tc = some (.int .i64)) (hr : C.P.underlying tr = some (.array 4 e)) (he : C.P.underlying e = some (.int .i64)) (hi : C.P.info? e ≠ none) (hce : C.P.cellsOf e = 1) (hir : C.P.info? tr ≠ none) (hcr : C.P.cellsOf tr = 4) {c c' : Int} {g g' : List Int} (hg : g.length = 4) (hg' : g'.length = 4)
    (hx : rd l x = some (.agg (resCells c g).toArray)) (hy : rd l y = some (.agg (resCells c' g').toArray)) : OpV C l m ⟨dst, .binOp .eql t x y t', ty, pos, after, gd⟩ (.bool (decide (c = c' ∧ g = g'))) :=
  fun a w ha _ => by
    have h1 := run_equalRes ht hp h0 hf0 hf1 hc hr he hi hce hir hcr (c := c) (c' := c') hg hg' w
    simp only [execOp, rd_eval ha.knows hx, rd_eval ha.knows hy, Sem.run_bind, run_eqGuard_agg _ _ _ _ _ _ _ hm, Result.andThen_ok, run_eql_struct, h1]
    simp
theorem v_neqRes {t tc tr e : TypeId} {f0 f1 : Field} (ht : C.P.underlying t = some (.struct #[f0, f1])) (hp : C.P.stoodInHeld t = false) (hm : C.P.eqGuardType C.P.depth t = false) (h0 : (f0.name != "_" && f1.name != "_" && Nat.beq f0.offset 0 && Nat.beq f1.offset 1) = true) (hf0 : f0.type = tc) (hf1 : f1.type = tr)
    (hc : C.P.underlying tc = some (.int .i64)) (hr : C.P.underlying tr = some (.array 4 e)) (he : C.P.underlying e = some (.int .i64)) (hi : C.P.info? e ≠ none) (hce : C.P.cellsOf e = 1) (hir : C.P.info? tr ≠ none) (hcr : C.P.cellsOf tr = 4) {c c' : Int} {g g' : List Int} (hg : g.length = 4) (hg' : g'.length = 4)
    (hx : rd l x = some (.agg (resCells c g).toArray)) (hy : rd l y = some (.agg (resCells c' g').toArray)) : OpV C l m ⟨dst, .binOp .neq t x y t', ty, pos, after, gd⟩ (.bool (decide (¬ (c = c' ∧ g = g')))) :=
  fun a w ha _ => by
    have h1 := run_equalRes ht hp h0 hf0 hf1 hc hr he hi hce hir hcr (c := c) (c' := c') hg hg' w
    simp only [execOp, rd_eval ha.knows hx, rd_eval ha.knows hy, Sem.run_bind, run_eqGuard_agg _ _ _ _ _ _ _ hm, Result.andThen_ok, run_neq_struct, h1]
    simp
end
end Go.SL
