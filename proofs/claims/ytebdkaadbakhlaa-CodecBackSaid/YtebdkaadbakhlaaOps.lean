/- Ytebdkaadbakhlaa: part Ops of this seat's own texts. -/
import Derived.Test.YtebdkaadbakhlaaEng
set_option linter.unusedVariables false
set_option linter.unusedSimpArgs false
namespace Go.SL
open Go.RowKit
set_option linter.unusedSectionVars false
theorem ne_of_isSome {α : Type} {o : Option α} (h : o.isSome = true) : o ≠ none := fun e => by subst e; cases h
/-! ## Operations that yield a value and leave the world alone -/
def OpV (C : Cx) (l : Fr) (m : Hp) (o : Oper) (v : Value) : Prop := ∀ a w, Ok C l a → St C.w0 C.F m w → (execOp a.eval o).run C.P w = .ok (.value v) w

theorem loud_or {P : Program} {ops : Array Oper} {Q : Exit → Act → World → Prop} {o : Oper} {rest : List Oper} {a : Act} {w : World} (hg : o.guard = none)
    (h : o.wp P a w (wpList P ops Q rest) Q) : wpList P ops Q (o :: rest) a w := by
  unfold wpList
  rw [if_pos (by simp [Region.wanted, hg])]
  exact .inl h

def rdAll (l : Fr) : List Operand → Option (List Value)
  | [] => some []
  | x :: xs => match rd l x, rdAll l xs with
    | some v, some vs => some (v :: vs)
    | _, _ => none
def rdParts (l : Fr) : List (Nat × Operand) → Option (List (Nat × Value))
  | [] => some []
  | (i, x) :: xs => match rd l x, rdParts l xs with
    | some v, some vs => some ((i, v) :: vs)
    | _, _ => none
theorem rdAll_eval {a : Act} {l : Fr} (hk : Knows a l) : ∀ {xs : List Operand} {vs : List Value}, rdAll l xs = some vs → xs.map a.eval = vs
  | [], vs, h => by simp [rdAll] at h; simp [h]
  | x :: xs, vs, h => by
    simp only [rdAll] at h
    split at h
    · rename_i v vs' h1 h2
      injection h with h
      subst h
      simp [rd_eval hk h1, rdAll_eval hk h2]
    · cases h
theorem rdParts_eval {a : Act} {l : Fr} (hk : Knows a l) : ∀ {xs : List (Nat × Operand)} {vs : List (Nat × Value)}, rdParts l xs = some vs → xs.map (fun p => (p.1, a.eval p.2)) = vs
  | [], vs, h => by simp [rdParts] at h; simp [h]
  | (i, x) :: xs, vs, h => by
    simp only [rdParts] at h
    split at h
    · rename_i v vs' h1 h2
      injection h with h
      subst h
      simp [rd_eval hk h1, rdParts_eval hk h2]
    · cases h
section
variable {C : Cx} {ks : List Kt} {l : Fr} {m : Hp} {ops : Array Oper} {rest : List Oper} {op : Op} {ty : TypeId} {pos : String} {after : Array Edge} {d : Nat} {dst : Option Nat} {g : Option (Nat × Bool)}

/-- one operation's own rule, in a list -/
theorem w_op {o : Oper} {Q : Exit → Act → World → Prop} (hg : o.guard = none) (h : G C l m (fun a w => o.wp C.P a w (wpList C.P ops Q rest) Q)) : G C l m (wpList C.P ops Q (o :: rest)) :=
  fun a w ha hw => loud_or hg (h a w ha hw)
theorem x_val {v : Value} {Φ : Act → World → Prop} {Q : Exit → Act → World → Prop} (hv : OpV C l m ⟨some d, op, ty, pos, after, g⟩ v) (hd : Nat.blt d C.N = true) (h : G C ((d, v) :: l) m Φ) :
    G C l m (fun a w => Oper.wp C.P ⟨some d, op, ty, pos, after, g⟩ a w Φ Q) := by
  intro a w ha hw
  unfold Oper.wp
  rw [hv a w ha hw]
  exact h _ _ (ha.put (Nat.le_of_ble_eq_true hd)) hw
theorem w_nil (h : E C ks l m) : W C ops [] ks l m := fun a w ha hw => h a w ha hw
theorem w_val {v : Value} (hv : OpV C l m ⟨some d, op, ty, pos, after, none⟩ v) (hd : Nat.blt d C.N = true) (h : W C ops rest ks ((d, v) :: l) m) :
    W C ops (⟨some d, op, ty, pos, after, none⟩ :: rest) ks l m := by
  intro a w ha hw
  refine loud_or rfl ?_
  unfold Oper.wp
  rw [hv a w ha hw]
  exact h _ _ (ha.put (Nat.le_of_ble_eq_true hd)) hw
/-- a comparison that is decided at once -/
theorem w_valD {p : Prop} [Decidable p] (hv : OpV C l m ⟨some d, op, ty, pos, after, none⟩ (.bool (decide p))) (hd : Nat.blt d C.N = true) (ht : p → W C ops rest ks ((d, .bool true) :: l) m) (hf : ¬ p → W C ops rest ks ((d, .bool false) :: l) m) :
    W C ops (⟨some d, op, ty, pos, after, none⟩ :: rest) ks l m := by
  by_cases h : p
  · exact w_val (by rwa [decide_eq_true h] at hv) hd (ht h)
  · exact w_val (by rwa [decide_eq_false h] at hv) hd (hf h)
theorem w_valN {v : Value} (hv : OpV C l m ⟨none, op, ty, pos, after, none⟩ v) (h : W C ops rest ks l m) :
    W C ops (⟨none, op, ty, pos, after, none⟩ :: rest) ks l m := by
  intro a w ha hw
  refine loud_or rfl ?_
  unfold Oper.wp
  rw [hv a w ha hw]
  exact h _ _ ha hw
/-- a region that does not draw -/
theorem e_region {id : Nat} {os : List Oper} (h : W C os.toArray os ks l m) : E C (.code (.region id os.toArray false) :: ks) l m :=
  fun a w ha hw => wp_region_list (h a w ha hw)
/-- guards -/
theorem w_want {j d' : Nat} {b : Bool} (hj : ((ops[j]?).bind (·.dst)) = some d') (hv : look l d' = some (.bool b)) (h : W C ops (⟨dst, op, ty, pos, after, none⟩ :: rest) ks l m) :
    W C ops (⟨dst, op, ty, pos, after, some (j, b)⟩ :: rest) ks l m := by
  intro a w ha hw
  have h1 := h a w ha hw
  unfold wpList at h1 ⊢
  rw [if_pos (by simp [Region.wanted])] at h1
  rw [if_pos]
  · exact h1
  · have := ha.knows d' _ hv
    simp [Region.wanted, yielded, hj, this]
theorem w_skip {j d' : Nat} {b : Bool} {v : Value} (hj : ((ops[j]?).bind (·.dst)) = some d') (hv : look l d' = some v) (hn : (match v with | .bool c => Bool.xor c b | _ => true) = true) (hd : Nat.blt d C.N = true)
    (h : W C ops rest ks ((d, undef) :: l) m) : W C ops (⟨some d, op, ty, pos, after, some (j, b)⟩ :: rest) ks l m := by
  intro a w ha hw
  unfold wpList
  have hw1 : Region.wanted (⟨some d, op, ty, pos, after, some (j, b)⟩ : Oper) (yielded ops a.tmps) = false := by
    have := ha.knows d' _ hv
    simp only [Region.wanted, yielded, hj, Option.bind_some, this]
    cases v <;> simp_all <;> (rename_i c; cases c <;> cases b <;> simp_all)
  rw [if_neg (by simp [hw1])]
  exact h _ _ (ha.put (Nat.le_of_ble_eq_true hd)) hw

/-! ### values -/
theorem v_move {x : Operand} {v : Value} (h : rd l x = some v) : OpV C l m ⟨dst, .move x, ty, pos, after, g⟩ v :=
  fun a w ha _ => by simp [execOp, rd_eval ha.knows h]
theorem v_assign {x : Operand} {v : Value} (h : rd l x = some v) : OpV C l m ⟨dst, .assign x, ty, pos, after, g⟩ v :=
  fun a w ha _ => by simp [execOp, rd_eval ha.knows h]
theorem v_pickT {c x y : Operand} {v : Value} (hc : rd l c = some (.bool true)) (h : rd l x = some v) : OpV C l m ⟨dst, .pick c x y, ty, pos, after, g⟩ v :=
  fun a w ha _ => by simp [execOp, rd_eval ha.knows h, rd_eval ha.knows hc, asBool]
theorem v_pickF {c x y : Operand} {v : Value} (hc : rd l c = some (.bool false)) (h : rd l y = some v) : OpV C l m ⟨dst, .pick c x y, ty, pos, after, g⟩ v :=
  fun a w ha _ => by simp [execOp, rd_eval ha.knows h, rd_eval ha.knows hc, asBool]
section ints
variable {x y : Operand} {k : IntKind} {p q : Int} {t t' : TypeId}
theorem wrap_i64 {n : Int} (h1 : -9223372036854775808 ≤ n) (h2 : n ≤ 9223372036854775807) : IntKind.i64.wrap n = n := by
  rw [IntKind.wrap_i64]
  omega
theorem v_addw (hx : rd l x = some (.int k p)) (hy : rd l y = some (.int k q)) : OpV C l m ⟨dst, .binOp .add t x y t', ty, pos, after, g⟩ (.int k (k.wrap (p + q))) :=
  fun a w ha _ => by simp [execOp, rd_eval ha.knows hx, rd_eval ha.knows hy, eqGuard, binOp, Op.intArith]
theorem v_subw (hx : rd l x = some (.int k p)) (hy : rd l y = some (.int k q)) : OpV C l m ⟨dst, .binOp .sub t x y t', ty, pos, after, g⟩ (.int k (k.wrap (p - q))) :=
  fun a w ha _ => by simp [execOp, rd_eval ha.knows hx, rd_eval ha.knows hy, eqGuard, binOp, Op.intArith]
theorem v_mulw (hx : rd l x = some (.int k p)) (hy : rd l y = some (.int k q)) : OpV C l m ⟨dst, .binOp .mul t x y t', ty, pos, after, g⟩ (.int k (k.wrap (p * q))) :=
  fun a w ha _ => by simp [execOp, rd_eval ha.knows hx, rd_eval ha.knows hy, eqGuard, binOp, Op.intArith]
theorem v_add (hx : rd l x = some (.int .i64 p)) (hy : rd l y = some (.int .i64 q)) (h : -9223372036854775808 ≤ p + q ∧ p + q ≤ 9223372036854775807) : OpV C l m ⟨dst, .binOp .add t x y t', ty, pos, after, g⟩ (.int .i64 (p + q)) := by
  have := v_addw (C := C) (m := m) (dst := dst) (t := t) (t' := t') (ty := ty) (pos := pos) (after := after) (g := g) hx hy
  rwa [wrap_i64 h.1 h.2] at this
theorem v_sub (hx : rd l x = some (.int .i64 p)) (hy : rd l y = some (.int .i64 q)) (h : -9223372036854775808 ≤ p - q ∧ p - q ≤ 9223372036854775807) : OpV C l m ⟨dst, .binOp .sub t x y t', ty, pos, after, g⟩ (.int .i64 (p - q)) := by
  have := v_subw (C := C) (m := m) (dst := dst) (t := t) (t' := t') (ty := ty) (pos := pos) (after := after) (g := g) hx hy
  rwa [wrap_i64 h.1 h.2] at this
theorem v_mul (hx : rd l x = some (.int .i64 p)) (hy : rd l y = some (.int .i64 q)) (h : -9223372036854775808 ≤ p * q ∧ p * q ≤ 9223372036854775807) : OpV C l m ⟨dst, .binOp .mul t x y t', ty, pos, after, g⟩ (.int .i64 (p * q)) := by
  have := v_mulw (C := C) (m := m) (dst := dst) (t := t) (t' := t') (ty := ty) (pos := pos) (after := after) (g := g) hx hy
  rwa [wrap_i64 h.1 h.2] at this
theorem v_eql (hx : rd l x = some (.int k p)) (hy : rd l y = some (.int k q)) : OpV C l m ⟨dst, .binOp .eql t x y t', ty, pos, after, g⟩ (.bool (decide (p = q))) :=
  fun a w ha _ => by
    have : (p == q) = decide (p = q) := rfl
    simp [execOp, rd_eval ha.knows hx, rd_eval ha.knows hy, eqGuard, binOp, Op.intCmp, this]
theorem v_neq (hx : rd l x = some (.int k p)) (hy : rd l y = some (.int k q)) : OpV C l m ⟨dst, .binOp .neq t x y t', ty, pos, after, g⟩ (.bool (decide (p ≠ q))) :=
  fun a w ha _ => by
    have : (p != q) = decide (p ≠ q) := by simp [bne]; rfl
    simp only [execOp, rd_eval ha.knows hx, rd_eval ha.knows hy, eqGuard, binOp, Op.intCmp, this]; simp
theorem v_lss (hx : rd l x = some (.int k p)) (hy : rd l y = some (.int k q)) : OpV C l m ⟨dst, .binOp .lss t x y t', ty, pos, after, g⟩ (.bool (decide (p < q))) :=
  fun a w ha _ => by simp [execOp, rd_eval ha.knows hx, rd_eval ha.knows hy, eqGuard, binOp, Op.intCmp]
theorem v_leq (hx : rd l x = some (.int k p)) (hy : rd l y = some (.int k q)) : OpV C l m ⟨dst, .binOp .leq t x y t', ty, pos, after, g⟩ (.bool (decide (p ≤ q))) :=
  fun a w ha _ => by simp [execOp, rd_eval ha.knows hx, rd_eval ha.knows hy, eqGuard, binOp, Op.intCmp]
theorem v_gtr (hx : rd l x = some (.int k p)) (hy : rd l y = some (.int k q)) : OpV C l m ⟨dst, .binOp .gtr t x y t', ty, pos, after, g⟩ (.bool (decide (q < p))) :=
  fun a w ha _ => by simp [execOp, rd_eval ha.knows hx, rd_eval ha.knows hy, eqGuard, binOp, Op.intCmp]
theorem v_geq (hx : rd l x = some (.int k p)) (hy : rd l y = some (.int k q)) : OpV C l m ⟨dst, .binOp .geq t x y t', ty, pos, after, g⟩ (.bool (decide (q ≤ p))) :=
  fun a w ha _ => by simp [execOp, rd_eval ha.knows hx, rd_eval ha.knows hy, eqGuard, binOp, Op.intCmp]
theorem v_quo (hx : rd l x = some (.int k p)) (hy : rd l y = some (.int k q)) (hq : q ≠ 0) : OpV C l m ⟨dst, .binOp .quo t x y t', ty, pos, after, g⟩ (.int k (k.wrap (p.tdiv q))) :=
  fun a w ha _ => by simp [execOp, rd_eval ha.knows hx, rd_eval ha.knows hy, eqGuard, binOp, Op.intDiv, hq]
theorem v_rem (hx : rd l x = some (.int k p)) (hy : rd l y = some (.int k q)) (hq : q ≠ 0) : OpV C l m ⟨dst, .binOp .rem t x y t', ty, pos, after, g⟩ (.int k (p.tmod q)) :=
  fun a w ha _ => by simp [execOp, rd_eval ha.knows hx, rd_eval ha.knows hy, eqGuard, binOp, Op.intDiv, hq]
theorem v_conv (hu : C.P.underlying t' = some (.int k)) (hs : (C.P.underlying t).isSome = true) {k' : IntKind} (hx : rd l x = some (.int k' p)) : OpV C l m ⟨dst, .convert t t' x, ty, pos, after, g⟩ (.int k (k.wrap p)) :=
  fun a w ha _ => by
    obtain ⟨u, hu'⟩ := Option.isSome_iff_exists.1 hs
    simp [execOp, rd_eval ha.knows hx, convert, run_underlying hu, run_underlying hu', Conv.intToInt]
end ints
theorem v_not {x : Operand} {b : Bool} {t : TypeId} (hx : rd l x = some (.bool b)) : OpV C l m ⟨dst, .unOp .not t x, ty, pos, after, g⟩ (.bool (!b)) :=
  fun a w ha _ => by simp [execOp, rd_eval ha.knows hx, Op.unary]
theorem v_nilCheck {x : Operand} {ad : Addr} (hx : rd l x = some (.pointer (some ad))) : OpV C l m ⟨dst, .nilCheck x, ty, pos, after, g⟩ (.pointer (some ad)) :=
  fun a w ha _ => by simp [execOp, rd_eval ha.knows hx]
theorem v_extract {x : Operand} {vs : Array Value} {i : Nat} {v : Value} (hx : rd l x = some (.tuple vs)) (hv : vs[i]? = some v) : OpV C l m ⟨dst, .extract x i, ty, pos, after, g⟩ v :=
  fun a w ha _ => by simp [execOp, rd_eval ha.knows hx, Instr.extract, hv]
theorem v_lenS {x : Operand} {t e : TypeId} {ao : Option Addr} {n c : Nat} (ht : C.P.underlying t = some (.slice e)) (hx : rd l x = some (.slice ao n c)) :
    OpV C l m ⟨dst, .call ⟨.builtin .len, #[x], #[t]⟩, ty, pos, after, g⟩ (.int .i64 n) :=
  fun a w ha _ => by simp [execOp, resolve, invoke, builtin, rd_eval ha.knows hx, Builtin.len_, run_underlying ht, goInt]
theorem v_lenStr {x : Operand} {t : TypeId} {s : ByteArray} (ht : C.P.underlying t = some .string) (hx : rd l x = some (.string s)) :
    OpV C l m ⟨dst, .call ⟨.builtin .len, #[x], #[t]⟩, ty, pos, after, g⟩ (.int .i64 s.size) :=
  fun a w ha _ => by simp [execOp, resolve, invoke, builtin, rd_eval ha.knows hx, Builtin.len_, run_underlying ht, goInt]
/-- the address of a field; 'o': the field's offset -/
theorem v_fieldAddr {x : Operand} {ad : Addr} {t : TypeId} {i o : Nat} {fs : Array Field} {f : Field} (ht : C.P.underlying t = some (.struct fs)) (hf : fs[i]? = some f) (ho : f.offset = o) (hs : C.P.cellsOf f.type ≠ 0)
    (hx : rd l x = some (.pointer (some ad))) : OpV C l m ⟨dst, .fieldAddr t x i, ty, pos, after, g⟩ (.pointer (some (ad.add o))) :=
  fun a w ha _ => by
    have h1 : (sizeOf f.type).run C.P w = .ok (C.P.cellsOf f.type) w := by
      unfold Program.cellsOf at hs ⊢
      cases hi : C.P.info? f.type with
      | none => simp [hi] at hs
      | some i => simp [sizeOf, typeInfo, hi]
    simp only [execOp, rd_eval ha.knows hx, Instr.fieldAt, Sem.run_bind, run_underlying ht, Result.andThen_ok, hf, Instr.sureAddr, fieldPlace]
    simp [h1, hs, ho]
/-- the address of an element of a slice -/
theorem v_indexS {x y : Operand} {ad : Addr} {t e : TypeId} {n c z : Nat} {k : IntKind} {i : Int} (ht : C.P.underlying t = some (.slice e)) (hz : C.P.info? e ≠ none) (hc : C.P.cellsOf e = z) (hx : rd l x = some (.slice (some ad) n c)) (hy : rd l y = some (.int k i))
    (hi : 0 ≤ i ∧ i < n) : OpV C l m ⟨dst, .indexAddr t x y, ty, pos, after, g⟩ (.pointer (some (ad.add (i.toNat * z)))) :=
  fun a w ha _ => by
    have h1 : (sizeOf e).run C.P w = .ok z w := by
      unfold Program.cellsOf at hc
      cases hi : C.P.info? e with
      | none => exact absurd hi hz
      | some i => simp [hi] at hc; simp [sizeOf, typeInfo, hi, hc]
    simp [execOp, rd_eval ha.knows hx, rd_eval ha.knows hy, Instr.indexAt, asIntOf, run_underlying ht, hi, h1]
/-- the address of an element of an array behind a pointer -/
theorem v_indexA {x y : Operand} {ad : Addr} {t e : TypeId} {n z : Nat} {k : IntKind} {i : Int} (ht : C.P.underlying t = some (.array n e)) (hz : C.P.info? e ≠ none) (hc : C.P.cellsOf e = z) (hx : rd l x = some (.pointer (some ad))) (hy : rd l y = some (.int k i))
    (hi : 0 ≤ i ∧ i < n) : OpV C l m ⟨dst, .indexAddr t x y, ty, pos, after, g⟩ (.pointer (some (ad.add (i.toNat * z)))) :=
  fun a w ha _ => by
    have h1 : (sizeOf e).run C.P w = .ok z w := by
      unfold Program.cellsOf at hc
      cases hi : C.P.info? e with
      | none => exact absurd hi hz
      | some i => simp [hi] at hc; simp [sizeOf, typeInfo, hi, hc]
    simp [execOp, rd_eval ha.knows hx, rd_eval ha.knows hy, Instr.indexAt, asIntOf, run_underlying ht, hi, h1, Instr.sureAddr]
theorem v_build {t : TypeId} {parts : Array (Nat × Operand)} {v : Value} (vs : List (Nat × Value)) (hp : rdParts l parts.toList = some vs)
    (h : ∀ w, (Instr.build t vs.toArray).run C.P w = .ok v w) : OpV C l m ⟨dst, .build t parts, ty, pos, after, g⟩ v :=
  fun a w ha _ => by
    have h1 : (parts.map fun (i, x) => (i, a.eval x)) = vs.toArray := by
      have := rdParts_eval ha.knows hp
      rw [← this]
      apply Array.ext'
      simp
    simp only [execOp, h1]
    simp [h w]
/-! ### loads -/
/-- cells that a view of memory shows -/
abbrev View := Addr → Option Value
def Cells (c : View) (ad : Addr) (cs : List Value) : Prop := ∀ j v, cs[j]? = some v → c (ad.add j) = some v
theorem v_load1 {x : Operand} {ad : Addr} {t : TypeId} {v : Value} {u : TypeDesc} (ht : C.P.underlying t = some u) (hu : (match u with | .struct _ | .array _ _ => true | _ => false) = false) (hx : rd l x = some (.pointer (some ad)))
    (h : ∀ w, St C.w0 C.F m w → w.cell? ad = some v) : OpV C l m ⟨dst, .load t x, ty, pos, after, g⟩ v :=
  fun a w ha hw => by
    have h1 : (isAgg t).run C.P w = .ok false w := by
      simp only [isAgg, Sem.run_bind, run_underlying ht, Result.andThen_ok]
      cases u <;> simp_all
    simp [execOp, rd_eval ha.knows hx, Instr.loadAt, Instr.sureAddr, loadVar, h1, run_load, h w hw]
theorem v_loadN {x : Operand} {ad : Addr} {t : TypeId} {cs : List Value} {u : TypeDesc} (ht : C.P.underlying t = some u) (hu : (match u with | .struct _ | .array _ _ => true | _ => false) = true) (hi : C.P.info? t ≠ none) (hn : C.P.cellsOf t = cs.length)
    (hx : rd l x = some (.pointer (some ad))) (h : ∀ w, St C.w0 C.F m w → Cells w.cell? ad cs) : OpV C l m ⟨dst, .load t x, ty, pos, after, g⟩ (.agg cs.toArray) :=
  fun a w ha hw => by
    have h1 : (isAgg t).run C.P w = .ok true w := by
      simp only [isAgg, Sem.run_bind, run_underlying ht, Result.andThen_ok]
      cases u <;> simp_all
    have h2 : (sizeOf t).run C.P w = .ok cs.length w := by
      unfold Program.cellsOf at hn
      cases hi' : C.P.info? t with
      | none => exact absurd hi' hi
      | some i => simp [hi'] at hn; simp [sizeOf, typeInfo, hi', hn]
    have h3 := run_loadCells_list (P := C.P) w ad cs (h w hw)
    simp [execOp, rd_eval ha.knows hx, Instr.loadAt, Instr.sureAddr, loadVar, h1, h2, h3]
theorem blk_cell {w : World} {b e : Nat} {cs : List Value} (h : (Chunk.blk b e cs).holds w) (i : Nat) : w.cell? ⟨b, i, none⟩ = cs[i]? := by
  simp only [Chunk.holds] at h
  simp [World.cell?, h]
theorem add_mk (b o i : Nat) : (⟨b, o, none⟩ : Addr).add i = ⟨b, o + i, none⟩ := by unfold Addr.add; split <;> simp_all
theorem blk_cells {w : World} {b e : Nat} {cs cs' : List Value} (h : (Chunk.blk b e cs).holds w) (o : Nat) (hc : ∀ j v, cs'[j]? = some v → cs[o + j]? = some v) : Cells w.cell? ⟨b, o, none⟩ cs' :=
  fun j v hv => by rw [add_mk, blk_cell h]; exact hc j v hv
theorem v_fieldAddrB {x : Operand} {b ob : Nat} {t : TypeId} {i o : Nat} {fs : Array Field} {f : Field} (ht : C.P.underlying t = some (.struct fs)) (hf : fs[i]? = some f) (ho : f.offset = o) (hs : C.P.cellsOf f.type ≠ 0)
    (hx : rd l x = some (.pointer (some ⟨b, ob, none⟩))) : OpV C l m ⟨dst, .fieldAddr t x i, ty, pos, after, g⟩ (.pointer (some ⟨b, ob + o, none⟩)) := by
  have := v_fieldAddr (m := m) (dst := dst) (ty := ty) (pos := pos) (after := after) (g := g) ht hf ho hs hx
  rwa [add_mk] at this
theorem v_indexSB {x y : Operand} {b ob : Nat} {t e : TypeId} {n c z : Nat} {k : IntKind} {i : Int} (ht : C.P.underlying t = some (.slice e)) (hz : C.P.info? e ≠ none) (hc : C.P.cellsOf e = z) (hx : rd l x = some (.slice (some ⟨b, ob, none⟩) n c)) (hy : rd l y = some (.int k i))
    (hi : 0 ≤ i ∧ i < n) : OpV C l m ⟨dst, .indexAddr t x y, ty, pos, after, g⟩ (.pointer (some ⟨b, ob + i.toNat * z, none⟩)) := by
  have := v_indexS (m := m) (dst := dst) (ty := ty) (pos := pos) (after := after) (g := g) ht hz hc hx hy hi
  rwa [add_mk] at this
theorem v_indexAB {x y : Operand} {b ob : Nat} {t e : TypeId} {n z : Nat} {k : IntKind} {i : Int} (ht : C.P.underlying t = some (.array n e)) (hz : C.P.info? e ≠ none) (hc : C.P.cellsOf e = z) (hx : rd l x = some (.pointer (some ⟨b, ob, none⟩))) (hy : rd l y = some (.int k i))
    (hi : 0 ≤ i ∧ i < n) : OpV C l m ⟨dst, .indexAddr t x y, ty, pos, after, g⟩ (.pointer (some ⟨b, ob + i.toNat * z, none⟩)) := by
  have := v_indexA (m := m) (dst := dst) (ty := ty) (pos := pos) (after := after) (g := g) ht hz hc hx hy hi
  rwa [add_mk] at this
/-- a load of one cell of a known block -/
theorem v_loadB {x : Operand} {b o e : Nat} {t : TypeId} {v : Value} {u : TypeDesc} {cs : List Value} (i : Nat) (hm : m[i]? = some (.blk b e cs)) (ht : C.P.underlying t = some u) (hu : (match u with | .struct _ | .array _ _ => true | _ => false) = false)
    (hx : rd l x = some (.pointer (some ⟨b, o, none⟩))) (hv : cs[o]? = some v) : OpV C l m ⟨dst, .load t x, ty, pos, after, g⟩ v :=
  v_load1 ht hu hx fun _ hw => by rw [blk_cell (hw.mem hm)]; exact hv
/-- a load of some cells of a known block -/
theorem v_loadBN {x : Operand} {b o e n : Nat} {t : TypeId} {u : TypeDesc} {cs cs' : List Value} (i : Nat) (hm : m[i]? = some (.blk b e cs)) (ht : C.P.underlying t = some u) (hu : (match u with | .struct _ | .array _ _ => true | _ => false) = true) (hi : C.P.info? t ≠ none) (hn : C.P.cellsOf t = n)
    (hx : rd l x = some (.pointer (some ⟨b, o, none⟩))) (hc : (cs.drop o).take n = cs') (hl : cs'.length = n) : OpV C l m ⟨dst, .load t x, ty, pos, after, g⟩ (.agg cs'.toArray) :=
  v_loadN ht hu hi (hn.trans hl.symm) hx fun _ hw => blk_cells (hw.mem hm) o fun j v hv => by
    rw [← hc, List.getElem?_take] at hv
    split at hv
    · rwa [List.getElem?_drop] at hv
    · cases hv
/-- a load of a whole block -/
theorem v_loadBA {x : Operand} {b e : Nat} {t : TypeId} {u : TypeDesc} {cs : List Value} (i : Nat) (hm : m[i]? = some (.blk b e cs)) (ht : C.P.underlying t = some u) (hu : (match u with | .struct _ | .array _ _ => true | _ => false) = true) (hi : C.P.info? t ≠ none) (hn : C.P.cellsOf t = cs.length)
    (hx : rd l x = some (.pointer (some ⟨b, 0, none⟩))) : OpV C l m ⟨dst, .load t x, ty, pos, after, g⟩ (.agg cs.toArray) :=
  v_loadN ht hu hi hn hx fun _ hw => blk_cells (hw.mem hm) 0 fun j v hv => by simpa using hv
/-- an element of an array that is a value -/
theorem v_indexV {x y : Operand} {t e : TypeId} {n : Nat} {k : IntKind} {i : Int} {cs : Array Value} {v : Value} {u : TypeDesc} (ht : C.P.underlying t = some (.array n e)) (hu : C.P.underlying e = some u) (hg : (match u with | .struct _ | .array _ _ => true | _ => false) = false)
    (hz : C.P.info? e ≠ none) (hc : C.P.cellsOf e = 1) (hx : rd l x = some (.agg cs)) (hy : rd l y = some (.int k i)) (hi : 0 ≤ i ∧ i < n) (hv : cs[i.toNat]? = some v) : OpV C l m ⟨dst, .index t x y, ty, pos, after, g⟩ v :=
  fun a w ha _ => by
    have h1 : (sizeOf e).run C.P w = .ok 1 w := by
      unfold Program.cellsOf at hc
      cases hi : C.P.info? e with
      | none => exact absurd hi hz
      | some i => simp [hi] at hc; simp [sizeOf, typeInfo, hi, hc]
    have h2 : (isAgg e).run C.P w = .ok false w := by
      simp only [isAgg, Sem.run_bind, run_underlying hu, Result.andThen_ok]
      cases u <;> simp_all
    simp [execOp, rd_eval ha.knows hx, rd_eval ha.knows hy, Instr.index, asIntOf, run_underlying ht, hi, h1, h2, part, hv]
theorem v_indexVN {x y : Operand} {t e z : Nat} {n : Nat} {k : IntKind} {i : Int} {cs : Array Value} {u : TypeDesc} (ht : C.P.underlying t = some (.array n e)) (hu : C.P.underlying e = some u) (hg : (match u with | .struct _ | .array _ _ => true | _ => false) = true)
    (hz : C.P.info? e ≠ none) (hc : C.P.cellsOf e = z) (hx : rd l x = some (.agg cs)) (hy : rd l y = some (.int k i)) (hi : 0 ≤ i ∧ i < n) : OpV C l m ⟨dst, .index t x y, ty, pos, after, g⟩ (.agg (cs.extract (i.toNat * z) (i.toNat * z + z))) :=
  fun a w ha _ => by
    have h1 : (sizeOf e).run C.P w = .ok z w := by
      unfold Program.cellsOf at hc
      cases hi : C.P.info? e with
      | none => exact absurd hi hz
      | some i => simp [hi] at hc; simp [sizeOf, typeInfo, hi, hc]
    have h2 : (isAgg e).run C.P w = .ok true w := by
      simp only [isAgg, Sem.run_bind, run_underlying hu, Result.andThen_ok]
      cases u <;> simp_all
    simp [execOp, rd_eval ha.knows hx, rd_eval ha.knows hy, Instr.index, asIntOf, run_underlying ht, hi, h1, h2, part]
end
end Go.SL
