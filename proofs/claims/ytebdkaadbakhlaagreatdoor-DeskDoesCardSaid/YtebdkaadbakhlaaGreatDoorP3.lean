/- YtebdkaadbakhlaaGreatDoor: part P3 of this seat's own texts. -/
import Derived.ArgAppend
import Derived.Test.YtebdkaadbakhlaaGreatDoorP2
set_option linter.unusedVariables false
set_option linter.unusedSimpArgs false
section
namespace Go.SL
open Go.RowKit
set_option linter.unusedSectionVars false
def rowG (v : Value) (e size n : Nat) (xs : List Value) : Gen where
 foot := fun b => v.ownBlock = some b
 holds := fun w => w.ownsRow 0 e size v n xs ∨ (xs.length = n * size ∧ ∃ g, v = .slice (some ⟨g, 0, none⟩) n n ∧ g < w.heap.size ∧ Cells w.cell? ⟨g, 0, none⟩ xs)
 lt := fun {w b} h hb => by
  rcases h with h | ⟨_, g, rfl, hg, _⟩
  ·exact (h.lt _ hb).2
  ·simp only [Value.ownBlock, Option.some.injEq] at hb
   subst hb; exact hg
 stable := fun {w w'} hs h => by
  rcases h with h | ⟨h1, g, rfl, hg, hc⟩
  ·exact .inl ((ownG v e size n xs).stable hs h)
  ·have hb := hs g (by simp [Value.ownBlock])
   refine .inr ⟨h1, g, rfl, ?_, fun j u hj => ?_⟩
   ·rcases Nat.lt_or_ge g w'.heap.size with hl | hge
    ·exact hl
    ·rw [Array.getElem?_eq_none hge, Array.getElem?_eq_getElem hg] at hb; cases hb
   ·rw [← hc j u hj, add_mk]
    exact World.cell?_of_block hb
abbrev Rw (v : Value) (e size n : Nat) (xs : List Value) : Chunk := .gen (rowG v e size n xs)
theorem own_row {v : Value} {e size n : Nat} {xs : List Value} {w : World} (h : (Own v e size n xs).holds w) : (Rw v e size n xs).holds w := .inl h
theorem row_rds {v : Value} {e size n : Nat} {xs : List Value} {w : World} (h : (Rw v e size n xs).holds w) : Rds w.cell? v size n xs := by
 rcases h with h | ⟨h1, g, rfl, _, hc⟩
 ·exact own_rds h
 ·exact ⟨_, n, rfl, Nat.le_refl _, h1, fun _ => ⟨_, rfl, hc⟩⟩
theorem row_nil (w : World) (e size : Nat) : (Rw (.slice none 0 0) e size 0 []).holds w := .inl (own_nil w e size)
theorem row_cut {A : Option Addr} {e size n k j : Nat} {xs : List Value} {w : World} (hj : j ≤ n) (h : (Rw (.slice A n k) e size n xs).holds w) : (Rw (.slice A j j) e size j (xs.take (j * size))).holds w := by
 have hle : j * size ≤ n * size := Nat.mul_le_mul_right _ hj
 rcases h with ⟨h1, ⟨h2, h3⟩ | ⟨g, cap, cur, h2, h3, h4, h5, h6, h7, h8⟩⟩ | ⟨h1, g, h2, hg, hc⟩
 ·injection h2 with e1 e2 e3
  subst e1; subst h3
  obtain rfl : j = 0 := by omega
  refine .inl ⟨by simp, .inl ⟨rfl, rfl⟩⟩
 ·injection h2 with e1 e2 e3
  subst e1
  refine .inr ⟨by rw [List.length_take, h1]; omega, g, rfl, lt_of_heap h4, fun i u hi => ?_⟩
  have hown : w.ownsRow 0 e size (.slice (some ⟨g, 0, none⟩) n cap) n xs := ⟨h1, .inr ⟨g, cap, cur, rfl, h3, h4, h5, h6, h7, h8⟩⟩
  rw [List.getElem?_take] at hi
  split at hi
  ·exact hown.cells rfl i u hi
  ·cases hi
 ·injection h2 with e1 e2 e3
  subst e1
  refine .inr ⟨by rw [List.length_take, h1]; omega, g, rfl, hg, fun i u hi => ?_⟩
  rw [List.getElem?_take] at hi
  split at hi
  ·exact hc i u hi
  ·cases hi
theorem St.rowNil {w0 w : World} {F : Nat → Prop} {m : Hp} (e size : Nat) (h : St w0 F m w) : St w0 F (Rw (.slice none 0 0) e size 0 [] :: m) w := by
 refine ⟨h.chg, fun c hc => ?_, List.pairwise_cons.2 ⟨fun d hd b hb _ => ?_, h.sep⟩, fun c hc b hb => ?_⟩
 ·rcases List.mem_cons.1 hc with rfl | hc
  ·exact row_nil w e size
  ·exact h.hold c hc
 ·have hb : (Value.slice none 0 0).ownBlock = some b := hb
  cases hb
 ·rcases List.mem_cons.1 hc with rfl | hc
  ·have hb : (Value.slice none 0 0).ownBlock = some b := hb
   cases hb
  ·exact h.own c hc b hb
theorem run_append_row {P : Program} {w : World} (t ty e : TypeId) (i : TypeInfo) (z : Value) (size bytes : Nat) (ht : P.underlying t = some (.slice e)) (hi : P.info? e = some i) (hz : i.zero = some z)
  (hsize : i.size = size) (hby : i.bytes = bytes) (hzs : z.cells.size = size) (hsz : 0 < size) {v x : Value} {n k : Nat} {xs news : List Value} (hrow : (Rw v e size n xs).holds w) (hk : 0 < k) (hr : Rds w.cell? x size k news)
  (h1 : ∀ u ∈ news, u.oneCell' = true) (hb : (n + k) * bytes ≤ 140737488355328) (h63 : n + k ≤ maxLen) :
  ∃ v' w', (Builtin.append_ #[t, t] ty #[v, x]).run P w = .ok v' w' ∧ Res w [Rw v e size n xs] [Rw v' e size (n + k) (xs ++ news)] w' := by
 rcases hrow with hown | ⟨hl, g, rfl, hg, hc⟩
 ·obtain ⟨v', w', hrun, hres⟩ := run_append_rds (P := P) t ty e i z size bytes ht hi hz hsize hby hzs hsz (v := v) (xs := xs) hown hr h1 hb h63
  refine ⟨v', w', hrun, ⟨⟨hres.chg.os, hres.chg.tape, hres.chg.output, hres.chg.size, fun b hb hn => hres.chg.block b hb (fun ⟨c, hc, hcb⟩ => ?_)⟩, ?_, by simp, ?_⟩⟩
  ·simp only [List.mem_singleton] at hc
   subst hc
   exact hn ⟨_, List.mem_singleton.2 rfl, hcb⟩
  ·intro c hc
   simp only [List.mem_singleton] at hc
   subst hc
   exact own_row (hres.hold _ (List.mem_singleton.2 rfl))
  ·intro c hc b hb
   simp only [List.mem_singleton] at hc
   subst hc
   rcases hres.own _ (List.mem_singleton.2 rfl) b hb with h | ⟨c, hc, hcb⟩
   ·exact .inl h
   ·simp only [List.mem_singleton] at hc
    subst hc
    exact .inr ⟨_, List.mem_singleton.2 rfl, hcb⟩
 ·obtain ⟨A, c, rfl, _, hln, hcell⟩ := hr
  obtain ⟨ad, rfl, hca⟩ := hcell hk
  obtain ⟨v', w', hrun, hown, hgr⟩ := run_append_arg_grows (P := P) w t ty e i z size bytes ht hi hz hsize hby hzs hsz ⟨g, 0, none⟩ n n xs hl hc ad k c news hln hca (by omega) h63 hb
  refine ⟨v', w', hrun, ⟨⟨hgr.os, hgr.tape, hgr.output, hgr.size, fun b hb _ => hgr.block b hb (by simp)⟩, ?_, by simp, ?_⟩⟩
  ·intro c hc
   simp only [List.mem_singleton] at hc
   subst hc
   refine .inl ⟨hown.1, ?_⟩
   rcases hown.2 with h | ⟨g', cap, cur, h1, _, h2⟩
   ·exact .inl h
   ·exact .inr ⟨g', cap, cur, h1, Nat.zero_le _, h2⟩
  ·intro c hc b hb
   simp only [List.mem_singleton] at hc
   subst hc
   have hb : v'.ownBlock = some b := hb
   rcases hown.2 with ⟨rfl, _⟩ | ⟨g', cap, cur, rfl, h3, _⟩
   ·cases hb
   ·simp only [Value.ownBlock, Option.some.injEq] at hb
    subst hb
    exact .inl h3
section
variable {C : Cx} {l : Fr} {m : Hp} {ty : TypeId} {pos : String} {after : Array Edge} {d : Nat}
theorem x_appendR {Φ : Act → World → Prop} {Q : Exit → Act → World → Prop} {s x : Operand} {t e : TypeId} {z v vx : Value} {size bytes n k : Nat} {xs news : List Value} (i : Nat) (hm : m[i]? = some (Rw v e size n xs)) (hs : rd l s = some v) (hx : rd l x = some vx)
  (ht : C.P.underlying t = some (.slice e)) (hi : (C.P.info? e).map (fun i => (i.zero, i.size, i.bytes)) = some (some z, size, bytes)) (hzs : z.cells.size = size) (hsz : 0 < size) (hk : 0 < k)
  (hr : ∀ w, St C.w0 C.F m w → Rds w.cell? vx size k news) (h1 : ∀ u ∈ news, u.oneCell' = true) (hb : (n + k) * bytes ≤ 140737488355328) (h63 : n + k ≤ maxLen) (hd : Nat.blt d C.N = true)
  (h : ∀ v', G C ((d, v') :: l) (m.set i (Rw v' e size (n + k) (xs ++ news))) Φ) :
  G C l m (fun a w => Oper.wp C.P ⟨some d, .call ⟨.builtin .append, #[s, x], #[t, t]⟩, ty, pos, after, none⟩ a w Φ Q) := by
 cases hf : C.P.info? e with
 | none => rw [hf] at hi; cases hi
 | some inf =>
  rw [hf] at hi
  simp only [Option.map_some, Option.some.injEq, Prod.mk.injEq] at hi
  intro a w ha hw
  obtain ⟨v', w', hrun, hres⟩ := run_append_row (P := C.P) t ty e inf z size bytes ht hf hi.1 hi.2.1 hi.2.2 hzs hsz (hw.mem hm) hk (hr w hw) h1 hb h63
  have : (execOp a.eval (⟨some d, .call ⟨.builtin .append, #[s, x], #[t, t]⟩, ty, pos, after, none⟩ : Oper)).run C.P w = .ok (.value v') w' := by
   simp [execOp, resolve, invoke, builtin, rd_eval ha.knows hs, rd_eval ha.knows hx, hrun]
  unfold Oper.wp
  rw [this]
  exact h v' _ _ (ha.put (Nat.le_of_ble_eq_true hd)) (hw.at_ hm hres)
theorem g_shapeR {Φ : Act → World → Prop} {v : Value} {e size n : Nat} {xs : List Value} (i : Nat) (hm : m[i]? = some (Rw v e size n xs)) (h : ∀ A k, v = .slice A n k → n ≤ k → G C l m Φ) : G C l m Φ := fun a w ha hw => by
 obtain ⟨A, k, h1, h2, _⟩ := row_rds (hw.mem hm)
 exact h A k h1 h2 a w ha hw
theorem g_cutR {Φ : Act → World → Prop} {A : Option Addr} {e size n k j : Nat} {xs : List Value} (i : Nat) (hm : m[i]? = some (Rw (.slice A n k) e size n xs)) (hj : j ≤ n) (h : G C l (m.set i (Rw (.slice A j j) e size j (xs.take (j * size)))) Φ) : G C l m Φ :=
 g_imp (c' := Rw (.slice A j j) e size j (xs.take (j * size))) i hm (fun b hb => by
  have hb : (Value.slice A j j).ownBlock = some b := hb
  show (Value.slice A n k).ownBlock = some b
  cases A with
  | none => cases hb
  | some a => exact hb) (fun _ hw => row_cut hj hw) h
end
section
variable {C : Cx} {l : Fr} {m : Hp} {ty t' : TypeId} {pos : String} {after : Array Edge} {dst : Option Nat} {gd : Option (Nat × Bool)} {x y : Operand}
theorem v_min {k : IntKind} {p q : Int} {ts : Array TypeId} (hx : rd l x = some (.int k p)) (hy : rd l y = some (.int k q)) : OpV C l m ⟨dst, .call ⟨.builtin .min, #[x, y], ts⟩, ty, pos, after, gd⟩ (.int k (min p q)) := fun a w ha _ => by
 simp [execOp, resolve, invoke, builtin, rd_eval ha.knows hx, rd_eval ha.knows hy, Builtin.min_, Builtin.min2]
 split <;> omega
theorem v_max {k : IntKind} {p q : Int} {ts : Array TypeId} (hx : rd l x = some (.int k p)) (hy : rd l y = some (.int k q)) : OpV C l m ⟨dst, .call ⟨.builtin .max, #[x, y], ts⟩, ty, pos, after, gd⟩ (.int k (max p q)) := fun a w ha _ => by
 simp [execOp, resolve, invoke, builtin, rd_eval ha.knows hx, rd_eval ha.knows hy, Builtin.max_, Builtin.max2]
 split <;> omega
theorem run_equalIn_nil {P : Program} {t e : TypeId} {A : Option Addr} {n k : Nat} (dd : Nat) (ht : P.underlying t = some (.slice e)) (w : World) : (Op.equalIn (dd + 1) t (.slice A n k) (.slice none 0 0)).run P w = .ok A.isNone w := by
 cases A <;> simp [Op.equalIn, run_underlying ht]
theorem v_eqlNil {t e : TypeId} {A : Option Addr} {n k : Nat} (ht : C.P.underlying t = some (.slice e)) (hm : C.P.eqGuardType C.P.depth t = false) (hx : rd l x = some (.slice A n k)) (hy : rd l y = some (.slice none 0 0)) : OpV C l m ⟨dst, .binOp .eql t x y t', ty, pos, after, gd⟩ (.bool A.isNone) := fun a w ha _ => by
 have h1 : (Op.equal t (.slice A n k) (.slice none 0 0)).run C.P w = .ok A.isNone w := run_equalIn_nil 9999 ht w
 simp [execOp, rd_eval ha.knows hx, rd_eval ha.knows hy, eqGuard, binOp, h1]
theorem run_buildSlice0 {P : Program} {t e : TypeId} {size : Nat} (ht : P.underlying t = some (.slice e)) (hi : P.info? e ≠ none) (hc : P.cellsOf e = size) : ∀ w, (Instr.buildSlice t 0 #[]).run P w = .ok (.slice (some ⟨w.heap.size, 0, none⟩) 0 0) (w.alloc (.cells #[] e)) := by
 intro w
 have h2 := fun w => run_sizeOf' hi hc (P := P) w
 simp only [Instr.buildSlice, underlying]
 simp [ht, h2, newRow, Instr.fill]
 congr 2
 simp
end
section
variable {C : Cx} {l : Fr} {m : Hp} {ty : TypeId} {pos : String} {after : Array Edge} {dst : Option Nat} {gd : Option (Nat × Bool)}
theorem g_shapeR2 {Φ : Act → World → Prop} {v : Value} {e size n : Nat} {xs : List Value} (i : Nat) (hm : m[i]? = some (Rw v e size n xs)) (h : ∀ A k, v = .slice A n k → n ≤ k → (0 < n → ∃ ad, A = some ad) → G C l m Φ) : G C l m Φ := fun a w ha hw => by
 obtain ⟨A, k, h1, h2, _, h3⟩ := row_rds (hw.mem hm)
 exact h A k h1 h2 (fun hn => let ⟨ad, e, _⟩ := h3 hn; ⟨ad, e⟩) a w ha hw
theorem v_loadR {x : Operand} {ad : Addr} {t e size n k j : Nat} {xs : List Value} {v : Value} {u : TypeDesc} (i : Nat) (hm : m[i]? = some (Rw (.slice (some ad) n k) e size n xs)) (hn : 0 < n) (hj : xs[j]? = some v) (ht : C.P.underlying t = some u) (hu : (match u with | .struct _ | .array _ _ => true | _ => false) = false)
  (hx : rd l x = some (.pointer (some (ad.add j)))) : OpV C l m ⟨dst, .load t x, ty, pos, after, gd⟩ v :=
 v_load1 ht hu hx fun _ hw => by
  obtain ⟨A, k', h1, _, _, h3⟩ := row_rds (hw.mem hm)
  obtain ⟨ad', h4, h5⟩ := h3 hn
  injection h1 with e1 e2 e3
  subst e1
  injection h4 with h4
  subst h4
  exact h5 j v hj
end
theorem intCells_app (a b : List Int) : intCells (a ++ b) = intCells a ++ intCells b := by simp [intCells]
section
variable {C : Cx} {l : Fr} {m : Hp} {ty : TypeId} {pos : String} {after : Array Edge} {d : Nat}
theorem x_appendRS {Φ : Act → World → Prop} {Q : Exit → Act → World → Prop} {s x : Operand} {t e : TypeId} {z v vx : Value} {size bytes n k : Nat} {xs news : List Value} (i : Nat) (hm : m[i]? = some (Rw v e size n xs)) (hs : rd l s = some v) (hx : rd l x = some vx)
  (ht : C.P.underlying t = some (.slice e)) (hi : (C.P.info? e).map (fun i => (i.zero, i.size, i.bytes)) = some (some z, size, bytes)) (hzs : z.cells.size = size) (hsz : 0 < size) (hk : 0 < k)
  (hr : ∀ w, St C.w0 C.F m w → Rds w.cell? vx size k news) (h1 : ∀ u ∈ news, u.oneCell' = true) (hb : (n + k) * bytes ≤ 140737488355328) (h63 : n + k ≤ maxLen) (hd : Nat.blt d C.N = true)
  (h : ∀ A cap, n + k ≤ cap → G C ((d, .slice A (n + k) cap) :: l) (m.set i (Rw (.slice A (n + k) cap) e size (n + k) (xs ++ news))) Φ) :
  G C l m (fun a w => Oper.wp C.P ⟨some d, .call ⟨.builtin .append, #[s, x], #[t, t]⟩, ty, pos, after, none⟩ a w Φ Q) :=
 x_appendR i hm hs hx ht hi hzs hsz hk hr h1 hb h63 hd fun v' => by
  have hlt := (List.getElem?_eq_some_iff.1 hm).1
  refine g_shapeR (v := v') (e := e) (size := size) (n := n + k) (xs := xs ++ news) i (by simp [hlt]) fun A cap hv hk => ?_
  subst hv
  exact h A cap hk
theorem x_appendIS {Φ : Act → World → Prop} {Q : Exit → Act → World → Prop} {s x : Operand} {t e : TypeId} {z v vx : Value} {size bytes n k : Nat} {xs news : List Value} (i : Nat) (hm : m[i]? = some (Own v e size n xs)) (hs : rd l s = some v) (hx : rd l x = some vx)
  (ht : C.P.underlying t = some (.slice e)) (hi : (C.P.info? e).map (fun i => (i.zero, i.size, i.bytes)) = some (some z, size, bytes)) (hzs : z.cells.size = size) (hsz : 0 < size)
  (hr : ∀ w, St C.w0 C.F m w → Rds w.cell? vx size k news) (h1 : ∀ u ∈ news, u.oneCell' = true) (hb : (n + k) * bytes ≤ 140737488355328) (h63 : n + k ≤ maxLen) (hd : Nat.blt d C.N = true)
  (h : ∀ A cap, n + k ≤ cap → G C ((d, .slice A (n + k) cap) :: l) (m.set i (Own (.slice A (n + k) cap) e size (n + k) (xs ++ news))) Φ) :
  G C l m (fun a w => Oper.wp C.P ⟨some d, .call ⟨.builtin .append, #[s, x], #[t, t]⟩, ty, pos, after, none⟩ a w Φ Q) :=
 x_appendI i hm hs hx ht hi hzs hsz hr h1 hb h63 hd fun v' => by
  have hlt := (List.getElem?_eq_some_iff.1 hm).1
  refine g_shape (v := v') (e := e) (size := size) (n := n + k) (xs := xs ++ news) i (by simp [hlt]) fun A cap hv hk => ?_
  subst hv
  exact h A cap hk
end
theorem byteCells_take (l : List UInt8) (k : Nat) : byteCells (l.take k) = (byteCells l).take k := by simp [byteCells, List.map_take]
theorem intCells_take (l : List Int) (k : Nat) : intCells (l.take k) = (intCells l).take k := by simp [intCells, List.map_take]
end Go.SL
end
section
namespace Go.SL
def bytesOf (L : List RoundL) : List UInt8 := L.flatMap encL
def endAt (L : List RoundL) (i : Nat) : Nat := (bytesOf (L.take i)).length
def endsOf (L : List RoundL) : List Int := (List.range L.length).map fun i => (endAt L (i + 1) : Int)
theorem endsOf_len (L : List RoundL) : (endsOf L).length = L.length := by simp [endsOf]
theorem bytesOf_app (a b : List RoundL) : bytesOf (a ++ b) = bytesOf a ++ bytesOf b := by simp [bytesOf]
theorem bytesOf_one (r : RoundL) : bytesOf [r] = encL r := by simp [bytesOf]
theorem encL_pos (r : RoundL) : 3 ≤ (encL r).length := by rw [encL_len]; simp [encBody]
theorem endAt_zero (L : List RoundL) : endAt L 0 = 0 := by simp [endAt, bytesOf]
theorem endAt_succ {L : List RoundL} {i : Nat} (h : i < L.length) : endAt L (i + 1) = endAt L i + (encL L[i]).length := by
 unfold endAt
 rw [List.take_succ_eq_append_getElem h, bytesOf_app, List.length_append, bytesOf_one]
theorem endAt_all (L : List RoundL) : endAt L L.length = (bytesOf L).length := by unfold endAt; rw [List.take_length]
theorem endAt_lt {L : List RoundL} {i : Nat} (h : i < L.length) : endAt L i < endAt L (i + 1) := by
 have := encL_pos L[i]
 rw [endAt_succ h]; omega
theorem endAt_mono {L : List RoundL} {i j : Nat} (hij : i ≤ j) (hj : j ≤ L.length) : endAt L i ≤ endAt L j := by
  induction j with
  | zero => have : i = 0 := by omega
            subst this; exact Nat.le_refl _
  | succ j ih =>
    by_cases h : i = j + 1
    · subst h; exact Nat.le_refl _
    · have h1 := ih (by omega) (by omega)
      have h2 := endAt_lt (L := L) (i := j) (by omega)
      omega
theorem endAt_le_all {L : List RoundL} {i : Nat} (hi : i ≤ L.length) : endAt L i ≤ (bytesOf L).length := by
 rw [← endAt_all]; exact endAt_mono hi (Nat.le_refl _)
theorem endAt_take {L : List RoundL} {n i : Nat} (hi : i ≤ n) : endAt (L.take n) i = endAt L i := by
 unfold endAt; rw [List.take_take, Nat.min_eq_left hi]
theorem endAt_app {L : List RoundL} {r : RoundL} {i : Nat} (hi : i ≤ L.length) : endAt (L ++ [r]) i = endAt L i := by
 unfold endAt; rw [List.take_append_of_le_length hi]
theorem bytesOf_take {L : List RoundL} {n : Nat} : bytesOf (L.take n) = (bytesOf L).take (endAt L n) := by
 unfold endAt
 have h : bytesOf L = bytesOf (L.take n) ++ bytesOf (L.drop n) := by rw [← bytesOf_app, List.take_append_drop]
 rw [h, List.take_left']
 rfl
theorem endsOf_take {L : List RoundL} {n : Nat} (hn : n ≤ L.length) : endsOf (L.take n) = (endsOf L).take n := by
 apply List.ext_getElem
 ·simp [endsOf_len]
 ·intro i h1 h2
  simp only [endsOf_len, List.length_take] at h1
  simp only [endsOf, List.getElem_map, List.getElem_range, List.getElem_take]
  rw [endAt_take (by omega)]
theorem endsOf_snoc (L : List RoundL) (r : RoundL) : endsOf (L ++ [r]) = endsOf L ++ [((bytesOf (L ++ [r])).length : Int)] := by
 apply List.ext_getElem
 ·simp [endsOf_len]
 ·intro i h1 h2
  simp only [endsOf_len, List.length_append, List.length_singleton] at h1
  by_cases hi : i < L.length
  ·rw [List.getElem_append_left (by rw [endsOf_len]; exact hi)]
   simp only [endsOf, List.getElem_map, List.getElem_range]
   rw [endAt_app (by omega)]
  ·have : i = L.length := by omega
   subst this
   rw [List.getElem_append_right (by rw [endsOf_len]; exact Nat.le_refl _)]
   simp only [endsOf, List.getElem_map, List.getElem_range, endsOf_len, Nat.sub_self, List.getElem_singleton]
   have h3 := endAt_all (L ++ [r])
   simp only [List.length_append, List.length_singleton] at h3
   rw [h3]
theorem endsOf_at {L : List RoundL} {i : Nat} (h : i < L.length) : (endsOf L)[i]? = some (endAt L (i + 1) : Int) := by
 simp [endsOf, h]
def cntL (L : List RoundL) (x : Int) : Nat := (endsOf L).countP fun e => decide (e ≤ x)
theorem cnt_upto (L : List RoundL) (x : Int) : ∀ (n : Nat), n ≤ L.length → ∃ m, m ≤ n ∧ ((endsOf L).take n).countP (fun e => decide (e ≤ x)) = m ∧ (∀ i, i ≤ m → i = 0 ∨ (endAt L i : Int) ≤ x) ∧ (∀ i, m < i → i ≤ n → x < (endAt L i : Int))
 | 0, _ => ⟨0, Nat.le_refl _, by simp, fun i hi => .inl (by omega), fun i h1 h2 => by omega⟩
 | n + 1, hn => by
  obtain ⟨m, h1, h2, h3, h4⟩ := cnt_upto L x n (by omega)
  have hlt : n < (endsOf L).length := by rw [endsOf_len]; omega
  have hat : (endsOf L)[n] = (endAt L (n + 1) : Int) := by simp [endsOf]
  rw [List.take_succ_eq_append_getElem hlt, List.countP_append, h2, hat]
  by_cases hx : (endAt L (n + 1) : Int) ≤ x
  ·have hm : m = n := by
    by_cases hm : m < n
    ·have h5 := h4 (m + 1) (by omega) (by omega)
     have h6 := endAt_mono (L := L) (i := m + 1) (j := n + 1) (by omega) hn
     omega
    ·omega
   subst hm
   refine ⟨m + 1, Nat.le_refl _, by simp [hx], fun i hi => ?_, fun i hi1 hi2 => by omega⟩
   by_cases h : i ≤ m
   ·exact h3 i h
   ·have : i = m + 1 := by omega
    subst this; exact .inr hx
  ·refine ⟨m, by omega, by simp [hx], h3, fun i hi1 hi2 => ?_⟩
   by_cases h : i ≤ n
   ·exact h4 i hi1 h
   ·have : i = n + 1 := by omega
    subst this; omega
theorem cntL_spec (L : List RoundL) (x : Int) : cntL L x ≤ L.length ∧ (∀ i, i ≤ cntL L x → i = 0 ∨ (endAt L i : Int) ≤ x) ∧ (∀ i, cntL L x < i → i ≤ L.length → x < (endAt L i : Int)) := by
 obtain ⟨m, h1, h2, h3, h4⟩ := cnt_upto L x L.length (Nat.le_refl _)
 rw [List.take_of_length_le (by rw [endsOf_len]; exact Nat.le_refl _)] at h2
 have : cntL L x = m := h2
 rw [this]
 exact ⟨h1, h3, h4⟩
theorem cntL_is {L : List RoundL} {x : Int} {m : Nat} (hm : m ≤ L.length) (h1 : m = 0 ∨ (endAt L m : Int) ≤ x) (h2 : m < L.length → x < (endAt L (m + 1) : Int)) : cntL L x = m := by
 obtain ⟨h3, h4, h5⟩ := cntL_spec L x
 rcases Nat.lt_trichotomy (cntL L x) m with h | h | h
 ·rcases h1 with h1 | h1
  ·omega
  ·have := h5 m h hm; omega
 ·exact h
 ·have h6 := h2 (by omega)
  rcases h4 (m + 1) h with h7 | h7 <;> omega
theorem cntL_end {L : List RoundL} {k : Nat} (hk : k ≤ L.length) : cntL L (endAt L k) = k :=
 cntL_is hk (.inr (Int.le_refl _)) fun h => by have := endAt_lt (L := L) (i := k) h; omega
def leftL (L : List RoundL) (k : Nat) (keep : Int) : Int := min ((endAt L k : Int) + max (min keep 4000) 0) ((bytesOf L).length : Int)
def crashL (L : List RoundL) (k : Nat) (keep : Int) : Nat := cntL L (leftL L k keep)
theorem crashL_spec {L : List RoundL} {k : Nat} {keep : Int} (hk : k ≤ L.length) (hB : (bytesOf L).length ≤ 4000) :
  k ≤ crashL L k keep ∧ crashL L k keep ≤ L.length ∧ ((endAt L (crashL L k keep) : Int) ≤ leftL L k keep) ∧ (crashL L k keep < L.length → (endAt L k : Int) + max keep 0 < (endAt L (crashL L k keep + 1) : Int)) := by
 obtain ⟨h1, h2, h3⟩ := cntL_spec L (leftL L k keep)
 have hke := endAt_le_all hk
 have hck : (endAt L k : Int) ≤ leftL L k keep := by unfold leftL; omega
 refine ⟨?_, h1, ?_, fun h => ?_⟩
 ·by_cases h : k ≤ crashL L k keep
  ·exact h
  ·have := h3 k (by unfold crashL at h; omega) hk; omega
 ·rcases h2 (cntL L (leftL L k keep)) (Nat.le_refl _) with h | h
  ·unfold crashL; rw [h, endAt_zero]
   have : 0 ≤ leftL L k keep := by have := Int.natCast_nonneg (endAt L k); omega
   simpa using this
  ·exact h
 ·have h4 := h3 (crashL L k keep + 1) (by unfold crashL; omega) (by omega)
  have h5 := endAt_le_all (L := L) (i := crashL L k keep + 1) (by omega)
  unfold leftL at h4
  omega
theorem crashL_is {L : List RoundL} {k n : Nat} {keep : Int} (hk : k ≤ n) (hn : n ≤ L.length) (hB : (bytesOf L).length ≤ 4000) (h1 : n = k ∨ (endAt L n : Int) - endAt L k ≤ max keep 0) (h2 : n < L.length → max keep 0 < (endAt L (n + 1) : Int) - endAt L k) : crashL L k keep = n := by
 have h3 := endAt_le_all hn
 have h4 := endAt_mono hk hn
 refine cntL_is hn (.inr ?_) fun h => ?_
 ·unfold leftL
  rcases h1 with rfl | h1 <;> omega
 ·have := h2 h
  unfold leftL
  omega
end Go.SL
end
section
namespace Go.SL
open Go.RowKit
def Rounds (vs : List Value) (L : List RoundL) (c : View) : Prop := vs.length = L.length ∧ ∀ i (h : i < L.length), ∃ u, vs[i]? = some u ∧ IsRound c u L[i]
theorem Rounds.up (vs : List Value) (L : List RoundL) : Up (Rounds vs L) := fun _ _ hl h => ⟨h.1, fun i hi => let ⟨u, h1, h2⟩ := h.2 i hi; ⟨u, h1, h2.mono hl⟩⟩
theorem Rounds.nil (c : View) : Rounds [] [] c := ⟨rfl, fun i hi => by simp at hi⟩
theorem Rounds.snoc {vs : List Value} {L : List RoundL} {c : View} {u : Value} {r : RoundL} (h : Rounds vs L c) (hd : IsRound c u r) : Rounds (vs ++ [u]) (L ++ [r]) c := by
 refine ⟨by simp [h.1], fun i hi => ?_⟩
 simp only [lnA] at hi
 by_cases hlt : i < L.length
 ·obtain ⟨u', h1, h2⟩ := h.2 i hlt
  have hv : i < vs.length := by rw [h.1]; exact hlt
  exact ⟨u', by rw [List.getElem?_append_left hv]; exact h1, by rw [List.getElem_append_left hlt]; exact h2⟩
 ·have e : i = L.length := by omega
  subst e
  refine ⟨u, ?_, ?_⟩
  ·rw [← h.1]; simp
  ·simpa using hd
theorem Rounds.take {vs : List Value} {L : List RoundL} {c : View} (h : Rounds vs L c) (n : Nat) : Rounds (vs.take n) (L.take n) c := by
 refine ⟨by simp [h.1], fun i hi => ?_⟩
 simp only [List.length_take] at hi
 obtain ⟨u, h1, h2⟩ := h.2 i (by omega)
 exact ⟨u, by rw [List.getElem?_take, if_pos (by omega)]; exact h1, by rw [List.getElem_take]; exact h2⟩
theorem St.roundsIn {w0 w : World} {F G G2 : Nat → Prop} {u : Value} {vs : List Value} {L : List RoundL} {r : RoundL} {m : Hp} (h : St w0 F (Keep G2 (fun c => IsRound c u r) :: Keep G (Rounds vs L) :: m) w) :
  St w0 F (Keep (feet [Keep G2 (fun c => IsRound c u r), Keep G (Rounds vs L)]) (Rounds (vs ++ [u]) (L ++ [r])) :: m) w := by
 refine St.keep (mc := [Keep G2 (fun c => IsRound c u r), Keep G (Rounds vs L)]) (Rounds (vs ++ [u]) (L ++ [r])) h fun hh => ?_
 have h1 := hh _ (List.mem_cons_self ..)
 have h2 := hh _ (List.mem_cons_of_mem _ (List.mem_cons_self ..))
 exact (keep_part (Rounds.up _ _) h2 (fun b hb => ⟨_, List.mem_cons_of_mem _ (List.mem_cons_self ..), hb⟩)).snoc (keep_part (IsRound.up _ _) h1 (fun b hb => ⟨_, List.mem_cons_self .., hb⟩))
theorem keep_shape {F : Nat → Prop} {v : Value} {r : RoundL} {w : World} (h : (Keep F (fun c => IsRound c v r)).holds w) : ∃ A k, v = .slice A r.length k := by
 obtain ⟨_, vs, ⟨A, k, h1, _⟩, _⟩ := h
 exact ⟨A, k, h1⟩
end Go.SL
end
section
namespace Go.SL
open Go.RowKit
structure StepL where
 do_ : Int
 keep : Int
 round : RoundL
instance : Inhabited StepL := ⟨⟨0, 0, []⟩⟩
def IsSteps (c : View) (v : Value) (l : List StepL) : Prop := ∃ A k, v = .slice A l.length k ∧ l.length ≤ k ∧ ∀ i (hi : i < l.length), ∃ ad u, A = some ad ∧ Cells c (ad.add (i * 3)) [.int .i64 l[i].do_, .int .i64 l[i].keep, u] ∧ IsRound c u l[i].round
theorem IsSteps.mono {c c' : View} (hl : Le c c') {v : Value} {l : List StepL} (h : IsSteps c v l) : IsSteps c' v l := by
 obtain ⟨A, k, h1, h2, h3⟩ := h
 exact ⟨A, k, h1, h2, fun i hi => let ⟨ad, u, h4, h5, h6⟩ := h3 i hi; ⟨ad, u, h4, h5.mono hl, h6.mono hl⟩⟩
theorem Cells.one {c : View} {ad : Addr} {cs : List Value} (h : Cells c ad cs) {i j : Nat} {v : Value} (hj : cs[j]? = some v) (hi : i = j) : c (ad.add i) = some v := by subst hi; exact h _ _ hj
end Go.SL
end
section
namespace Go.SL
open Go.RowKit
set_option linter.unusedSectionVars false
theorem cut_off {w : World} {F1 F2 : Nat → Prop} (h : ∀ b, F1 b → ¬ F2 b) : Le (cutTo w F1).cell? (SL.off w F2) := by
 intro p v hp
 have h1 := cutTo_le w F1 p v hp
 by_cases hF : F1 p.block
 ·unfold SL.off
  rw [if_neg (h _ hF)]
  exact h1
 ·simp only [World.cell?, cutTo, Array.getElem?_mapIdx, hF, if_false] at hp
  cases hb : w.heap[p.block]? <;> simp [hb] at hp
theorem St.apart {w0 w : World} {F : Nat → Prop} {mc mr : Hp} (h : St w0 F (mc ++ mr) w) : Le (cutTo w (feet mr)).cell? (SL.off w (feet mc)) := by
 have hsep := (List.pairwise_append.1 h.sep).2.2
 exact cut_off fun b ⟨d, hd, hb⟩ ⟨c, hc, hb'⟩ => hsep c hc d hd b hb' hb
theorem St.partR {w0 w : World} {F : Nat → Prop} {mc mr : Hp} (h : St w0 F (mc ++ mr) w) : ∀ c ∈ mr, c.holds (cutTo w (feet mr)) := fun c hc => Chunk.cutTo (h.hold c (by simp [hc])) (fun b hb => ⟨c, hc, hb⟩)
theorem keep_cut {F G : Nat → Prop} {p : View → Prop} (hp : Up p) {w : World} (h : (Keep F p).holds (cutTo w G)) : p (cutTo w G).cell? := keep_all hp h
theorem run_equalIn_ptr {P : Program} {t e : TypeId} {A : Option Addr} (dd : Nat) (ht : P.underlying t = some (.pointer e)) (w : World) : (Op.equalIn (dd + 1) t (.pointer A) (.pointer none)).run P w = .ok A.isNone w := by
 cases A <;> simp [Op.equalIn, run_underlying ht]
section
variable {C : Cx} {l : Fr} {m : Hp} {ty t' : TypeId} {pos : String} {after : Array Edge} {dst : Option Nat} {gd : Option (Nat × Bool)} {x y : Operand}
theorem v_eqlPtr {t e : TypeId} {A : Option Addr} (ht : C.P.underlying t = some (.pointer e)) (hx : rd l x = some (.pointer A)) (hy : rd l y = some (.pointer none)) : OpV C l m ⟨dst, .binOp .eql t x y t', ty, pos, after, gd⟩ (.bool A.isNone) := fun a w ha _ => by
 have h1 : (Op.equal t (.pointer A) (.pointer none)).run C.P w = .ok A.isNone w := run_equalIn_ptr 9999 ht w
 simp [execOp, rd_eval ha.knows hx, rd_eval ha.knows hy, eqGuard, binOp, h1]
theorem v_neqPtr {t e : TypeId} {A : Option Addr} (ht : C.P.underlying t = some (.pointer e)) (hx : rd l x = some (.pointer A)) (hy : rd l y = some (.pointer none)) : OpV C l m ⟨dst, .binOp .neq t x y t', ty, pos, after, gd⟩ (.bool !A.isNone) := fun a w ha _ => by
 have h1 : (Op.equal t (.pointer A) (.pointer none)).run C.P w = .ok A.isNone w := run_equalIn_ptr 9999 ht w
 simp [execOp, rd_eval ha.knows hx, rd_eval ha.knows hy, eqGuard, binOp, h1]
end
end Go.SL
end
section
namespace Go.SL
open Go.RowKit
set_option linter.unusedSectionVars false
section
variable {C : Cx} {l : Fr} {m : Hp} {ty : TypeId} {pos : String} {after : Array Edge}
end
def DeedsW (vs : List Value) (r : RoundL) (c : View) : Prop := vs.length = r.length ∧ ∀ j (h : j < r.length), ∃ A k, vs[j]? = some (.slice A r[j].length k) ∧ (0 < r[j].length → ∃ g, A = some ⟨g, 0, none⟩ ∧ ∀ i, i < r[j].length * 5 → ∃ old, c ⟨g, i, none⟩ = some old)
theorem DeedsW.up (vs : List Value) (r : RoundL) : Up (DeedsW vs r) := fun _ _ hl h => ⟨h.1, fun j hj => by
 obtain ⟨A, k, h1, h2⟩ := h.2 j hj
 refine ⟨A, k, h1, fun h0 => ?_⟩
 obtain ⟨g, h3, h4⟩ := h2 h0
 exact ⟨g, h3, fun i hi => let ⟨old, h5⟩ := h4 i hi; ⟨old, hl _ _ h5⟩⟩⟩
theorem DeedsW.set {vs : List Value} {r : RoundL} {c c' : View} {b o : Nat} {v : Value} (h : DeedsW vs r c) (h1 : ∀ p : Addr, p.block ≠ b → c' p = c p) (h2 : ∀ i, i ≠ o → c' ⟨b, i, none⟩ = c ⟨b, i, none⟩) (h3 : c' ⟨b, o, none⟩ = some v) : DeedsW vs r c' := ⟨h.1, fun j hj => by
 obtain ⟨A, k, h4, h5⟩ := h.2 j hj
 refine ⟨A, k, h4, fun h0 => ?_⟩
 obtain ⟨g, h6, h7⟩ := h5 h0
 refine ⟨g, h6, fun i hi => ?_⟩
 by_cases hg : g = b
 ·subst hg
  by_cases hio : i = o
  ·subst hio; exact ⟨_, h3⟩
  ·rw [h2 i hio]; exact h7 i hi
 ·rw [h1 _ hg]; exact h7 i hi⟩
def DeedsB (vs : List Value) (r : RoundL) (c : View) : Prop := Deeds vs r c ∧ DeedsW vs r c
theorem DeedsB.up (vs : List Value) (r : RoundL) : Up (DeedsB vs r) := fun _ _ hl h => ⟨Deeds.up _ _ _ _ hl h.1, DeedsW.up _ _ _ _ hl h.2⟩
theorem DeedsB.nil (c : View) : DeedsB [] [] c := ⟨Deeds.nil c, rfl, fun j hj => by simp at hj⟩
end Go.SL
namespace Go.SL
section
variable {C : Cx} {l : Fr} {m : Hp}
end
theorem DeedsW.cell {vs : List Value} {r : RoundL} {c : View} (h : DeedsW vs r c) {j : Nat} (hj : j < r.length) {g k : Nat} (hv : vs[j]? = some (.slice (some ⟨g, 0, none⟩) r[j].length k)) {i : Nat} (hi : i < r[j].length * 5) : ∃ old, c ⟨g, i, none⟩ = some old := by
 obtain ⟨A, k', h1, h2⟩ := h.2 j hj
 rw [hv] at h1
 injection h1 with h1
 injection h1 with e1 _ _
 obtain ⟨g', h3, h4⟩ := h2 (by omega)
 rw [← e1] at h3
 injection h3 with h3
 injection h3 with h3 _ _
 subst h3
 exact h4 i hi
end Go.SL
end
