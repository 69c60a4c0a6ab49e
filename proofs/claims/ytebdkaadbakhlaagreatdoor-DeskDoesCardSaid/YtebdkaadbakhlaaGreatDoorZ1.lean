/- YtebdkaadbakhlaaGreatDoor: part Z1 of this seat's own texts. -/
import Derived.Laws.Concat
import Derived.Laws.Strings2
import Derived.Lib.FieldsP
import Derived.Lib.Split
import Derived.Lib.SplitLaws
import Derived.Lib.UnsafeStr
import Derived.Lib.AppendIntMem
import Derived.Shelf.Strings.FieldsFuncGrows
import Derived.Test.YtebdkaadbakhlaaGreatDoorP3
import Derived.Test.YtebdkaadbakhlaaGreatDoorP2
import Derived.Test.YtebdkaadbakhlaaGreatDoorZ0
import Derived.Test.YtebdkaadbakhlaaGreatDoorP5
import Derived.Test.YtebdkaadbakhlaaGreatDoorP4
set_option linter.unusedVariables false
set_option linter.unusedSimpArgs false
section
namespace Go.SL
open Go.RowKit
abbrev strV (l : List UInt8) : Value := .string ⟨l.toArray⟩
theorem strV_of (s : ByteArray) : Value.string s = strV s.data.toList := by
 show Value.string s = Value.string ⟨s.data.toList.toArray⟩
 rw [Array.toArray_toList]
def strC (l : List (List UInt8)) : List Value := l.map strV
theorem strC_len (l : List (List UInt8)) : (strC l).length = l.length := List.length_map ..
theorem one_strC (l : List (List UInt8)) : ∀ u ∈ strC l, u.oneCell' = true := by
 intro u hu
 obtain ⟨x, _, rfl⟩ := List.mem_map.1 hu
 rfl
theorem strC_at {l : List (List UInt8)} {i : Nat} {x : List UInt8} (h : l[i]? = some x) : (strC l)[i]? = some (strV x) := by
 simp [strC, h]
theorem strC_app (a b : List (List UInt8)) : strC (a ++ b) = strC a ++ strC b := List.map_append ..
theorem bytesB (l : List UInt8) : (ByteArray.mk l.toArray).toList = l := ByteArray.toList_mk l
theorem bytesS (l : List UInt8) : (ByteArray.mk l.toArray).size = l.length := by simp [ByteArray.size]
section
variable {C : Cx} {l : Fr} {m : Hp} {ty : TypeId} {pos : String} {after : Array Edge} {dst : Option Nat} {g : Option (Nat × Bool)} {x y : Operand} {t t' : TypeId} {p q : List UInt8}
theorem v_strAdd (hx : rd l x = some (strV p)) (hy : rd l y = some (strV q)) (hb : p.length + q.length ≤ 9223372036854775807) : OpV C l m ⟨dst, .binOp .add t x y t', ty, pos, after, g⟩ (strV (p ++ q)) :=
 fun a w ha _ => by
  have h1 : (Op.stringOp .add ⟨p.toArray⟩ ⟨q.toArray⟩).run C.P w = .ok (strV (p ++ q)) w := by
   rw [run_string_add_sum w _ _ (by rw [bytesS, bytesS]; exact hb), ByteArray.mk_append_mk]
  simp [execOp, rd_eval ha.knows hx, rd_eval ha.knows hy, eqGuard, binOp, h1]
theorem v_strEql (hx : rd l x = some (strV p)) (hy : rd l y = some (strV q)) : OpV C l m ⟨dst, .binOp .eql t x y t', ty, pos, after, g⟩ (.bool (decide (p = q))) :=
 fun a w ha _ => by
  have : (p == q) = decide (p = q) := by by_cases h : p = q <;> simp [h]
  simp [execOp, rd_eval ha.knows hx, rd_eval ha.knows hy, eqGuard, binOp, Op.stringOp, bytesB, this]
theorem v_strNeq (hx : rd l x = some (strV p)) (hy : rd l y = some (strV q)) : OpV C l m ⟨dst, .binOp .neq t x y t', ty, pos, after, g⟩ (.bool (decide (p ≠ q))) :=
 fun a w ha _ => by
  have : (p == q) = decide (p = q) := by by_cases h : p = q <;> simp [h]
  simp [execOp, rd_eval ha.knows hx, rd_eval ha.knows hy, eqGuard, binOp, Op.stringOp, bytesB, this]
theorem v_strLen (ht : C.P.underlying t = some .string) (hx : rd l x = some (strV p)) :
  OpV C l m ⟨dst, .call ⟨.builtin .len, #[x], #[t]⟩, ty, pos, after, g⟩ (.int .i64 (p.length : Int)) := by
 have := v_lenStr (C := C) (l := l) (m := m) (ty := ty) (pos := pos) (after := after) (dst := dst) (g := g) ht hx
 rwa [bytesS] at this
theorem v_strAt {k : IntKind} {i : Int} {b : UInt8} (ht : C.P.underlying t = some .string) (hx : rd l x = some (strV p)) (hy : rd l y = some (.int k i)) (h0 : 0 ≤ i) (hb : p[i.toNat]? = some b) :
  OpV C l m ⟨dst, .index t x y, ty, pos, after, g⟩ (.int .u8 (b.toNat : Int)) :=
 fun a w ha _ => by
  obtain ⟨hlt, he⟩ := List.getElem?_eq_some_iff.1 hb
  have hi : 0 ≤ i ∧ i < ((ByteArray.mk p.toArray).size : Int) := ⟨h0, by rw [bytesS]; omega⟩
  have h1 := run_index_string (P := C.P) w t ⟨p.toArray⟩ k i ht
  rw [dif_pos hi] at h1
  have h2 : (ByteArray.mk p.toArray)[i.toNat]'(by have := hi.2; omega) = b := by rw [← he]; rfl
  rw [h2] at h1
  simp [execOp, rd_eval ha.knows hx, rd_eval ha.knows hy, h1]
theorem v_strCut {lo hi : Operand} {k k' : IntKind} {i j : Int} (ht : C.P.underlying t = some .string) (hx : rd l x = some (strV p)) (hlo : rd l lo = some (.int k i)) (hhi : rd l hi = some (.int k' j)) (h : 0 ≤ i ∧ i ≤ j ∧ j ≤ p.length) :
  OpV C l m ⟨dst, .slice t x (some lo) (some hi) none, ty, pos, after, g⟩ (strV ((p.drop i.toNat).take (j.toNat - i.toNat))) :=
 fun a w ha _ => by
  have h1 := run_slice_string (P := C.P) w t ⟨p.toArray⟩ k k' i j ht h.1 h.2.1 (by rw [bytesS]; exact h.2.2)
  rw [ByteArray.extract_mk] at h1
  have h2 := (run_sliceAt_string (P := C.P) w t (.string ⟨p.toArray⟩) (some (.int k i)) (some (.int k' j)) none ht).trans h1
  simp [execOp, rd_eval ha.knows hx, rd_eval ha.knows hlo, rd_eval ha.knows hhi, h2]
theorem v_eqlNilI {x : Operand} {ti : TypeId} {ms : Array (String × TypeId)} (hi : C.P.underlying ti = some (.interface ms)) (hx : rd l x = some .nilIface) : OpV C l m ⟨dst, .binOp .eql ti x (.const .nilIface) t', ty, pos, after, g⟩ (.bool true) :=
 fun a w ha _ => by
  have h : ∀ d : Nat, (Op.equalIn (d + 1) ti .nilIface .nilIface).run C.P w = .ok true w := fun d => by simp [Op.equalIn, run_underlying hi]
  have h2 : a.eval (.const .nilIface) = .nilIface := rfl
  simp [execOp, rd_eval ha.knows hx, h2, eqGuard, binOp, Op.equal, Op.maxDepth, h 9999]
theorem v_eqlSomeI {x : Operand} {ti tp : TypeId} {v : Value} {ms : Array (String × TypeId)} (hi : C.P.underlying ti = some (.interface ms)) (hx : rd l x = some (.iface tp v)) : OpV C l m ⟨dst, .binOp .eql ti x (.const .nilIface) t', ty, pos, after, g⟩ (.bool false) :=
 fun a w ha _ => by
  have h : ∀ d : Nat, (Op.equalIn (d + 1) ti (.iface tp v) .nilIface).run C.P w = .ok false w := fun d => by simp [Op.equalIn, run_underlying hi]
  have h2 : a.eval (.const .nilIface) = .nilIface := rfl
  simp [execOp, rd_eval ha.knows hx, h2, eqGuard, binOp, Op.equal, Op.maxDepth, h 9999]
theorem v_neqNilI {x : Operand} {ti : TypeId} {ms : Array (String × TypeId)} (hi : C.P.underlying ti = some (.interface ms)) (hx : rd l x = some .nilIface) : OpV C l m ⟨dst, .binOp .neq ti x (.const .nilIface) t', ty, pos, after, g⟩ (.bool false) :=
 fun a w ha _ => by
  have h : ∀ d : Nat, (Op.equalIn (d + 1) ti .nilIface .nilIface).run C.P w = .ok true w := fun d => by simp [Op.equalIn, run_underlying hi]
  have h2 : a.eval (.const .nilIface) = .nilIface := rfl
  simp [execOp, rd_eval ha.knows hx, h2, eqGuard, binOp, Op.equal, Op.maxDepth, h 9999]
theorem v_neqSomeI {x : Operand} {ti tp : TypeId} {v : Value} {ms : Array (String × TypeId)} (hi : C.P.underlying ti = some (.interface ms)) (hx : rd l x = some (.iface tp v)) : OpV C l m ⟨dst, .binOp .neq ti x (.const .nilIface) t', ty, pos, after, g⟩ (.bool true) :=
 fun a w ha _ => by
  have h : ∀ d : Nat, (Op.equalIn (d + 1) ti (.iface tp v) .nilIface).run C.P w = .ok false w := fun d => by simp [Op.equalIn, run_underlying hi]
  have h2 : a.eval (.const .nilIface) = .nilIface := rfl
  simp [execOp, rd_eval ha.knows hx, h2, eqGuard, binOp, Op.equal, Op.maxDepth, h 9999]
end
end Go.SL
end
section
namespace Go.SL
open Go Go.Lib
def splitL (c : UInt8) : List UInt8 → List (List UInt8)
 | [] => [[]]
 | b :: t => if b = c then [] :: splitL c t else match splitL c t with | [] => [[b]] | p :: ps => (b :: p) :: ps
theorem splitL_ne (c : UInt8) : ∀ s, splitL c s ≠ []
 | [] => by simp [splitL]
 | b :: t => by
  unfold splitL
  split
  ·simp
  ·split <;> simp
theorem split_nil (c : UInt8) : split [] [c] = [[]] := by
 unfold split
 have h : index [] [c] = -1 := rfl
 rw [count_miss h]
 rfl
theorem split_one (c : UInt8) : ∀ s, split s [c] = splitL c s
 | [] => split_nil c
 | b :: t => by
  have ih := split_one c t
  have hpre : [c].isPrefixOf (b :: t) = (c == b) := by simp [List.isPrefixOf]
  by_cases hb : b = c
  ·have hi : index (b :: t) [c] = (0 : Nat) := by
    rw [index, hpre, if_pos (by simp [hb])]; rfl
   have hc := count_hit (sub := [c]) (by simp) hi
   unfold split at ih ⊢
   rw [hc, Nat.add_comm 1, splitK, if_neg (by rw [hi]; decide), hi, splitL, if_pos hb]
   simp only [Int.toNat_natCast, Nat.add_zero, List.take_zero, Nat.zero_add, List.length_singleton, List.drop_succ_cons, List.drop_zero] at ih ⊢
   rw [ih]
  ·have hpn : ¬ ((c == b) = true) := by simp; exact fun h => hb h.symm
   rcases index_spec t [c] with ⟨hm, _⟩ | ⟨i, hi, _, _, _⟩
   ·have hi : index (b :: t) [c] = -1 := by rw [index, hpre, if_neg hpn, if_pos (by simp [hm])]
    unfold split at ih ⊢
    rw [count_miss hm] at ih
    rw [count_miss hi]
    have e : splitL c t = [t] := ih.symm
    rw [splitL, if_neg hb, e]
    rfl
   ·have hi2 : index (b :: t) [c] = ((i + 1 : Nat) : Int) := by
     rw [index, hpre, if_neg hpn, if_neg (by rw [hi]; simp), hi]; rfl
    unfold split at ih ⊢
    have hc1 := count_hit (sub := [c]) (by simp) hi
    have hc2 := count_hit (sub := [c]) (by simp) hi2
    have hd : (b :: t).drop (i + 1 + [c].length) = t.drop (i + [c].length) := rfl
    rw [hd] at hc2
    rw [hc1, Nat.add_comm 1, splitK, if_neg (by rw [hi]; simp), hi] at ih
    rw [hc2, Nat.add_comm 1, splitK, if_neg (by rw [hi2]; simp; omega), hi2, splitL, if_neg hb, ← ih]
    simp
def wordsW (w : List UInt8) : List UInt8 → List (List UInt8)
 | [] => if w = [] then [] else [w]
 | b :: t => if b = 32 then (if w = [] then wordsW [] t else w :: wordsW [] t) else wordsW (w ++ [b]) t
def wordsL (s : List UInt8) : List (List UInt8) := wordsW [] s
theorem decode_facts (s : ByteArray) (pos : Nat) (h : pos < s.size) : pos + (Utf8.decode s pos).2 ≤ s.size ∧ 1 ≤ (Utf8.decode s pos).2 ∧ ((Utf8.decode s pos).1 = 32 ↔ (s.get! pos).toNat = 32) ∧ ((Utf8.decode s pos).1 = 32 → (Utf8.decode s pos).2 = 1) ∧ ∀ j, 1 ≤ j → j < (Utf8.decode s pos).2 → (s.get! (pos + j)).toNat / 64 = 2 := by
 unfold Utf8.decode
 simp only [Nat.add_zero, Utf8.runeError]
 split
 ·rename_i h1
  exact ⟨by dsimp only; omega, by simp, Iff.rfl, fun _ => rfl, fun j h1 h2 => by dsimp only at h2; omega⟩
 ·rename_i h1
  split
  ·rename_i h2
   simp only [Bool.and_eq_true, decide_eq_true_eq, beq_iff_eq] at h2
   split
   ·rename_i h3
    refine ⟨by dsimp only; omega, by simp, by dsimp only; omega, by dsimp only; omega, fun j h4 h5 => ?_⟩
    dsimp only at h5
    obtain rfl : j = 1 := by omega
    exact h2.2.2
   ·exact ⟨by dsimp only; omega, by simp, by dsimp only; omega, by dsimp only; omega, fun j h4 h5 => by dsimp only at h5; omega⟩
  ·split
   ·rename_i h2
    simp only [Bool.and_eq_true, decide_eq_true_eq, beq_iff_eq] at h2
    split
    ·rename_i h3
     simp only [Bool.and_eq_true, decide_eq_true_eq] at h3
     refine ⟨by dsimp only; omega, by simp, by dsimp only; omega, by dsimp only; omega, fun j h4 h5 => ?_⟩
     dsimp only at h5
     obtain rfl | rfl : j = 1 ∨ j = 2 := by omega
     ·exact h2.1.2.2
     ·exact h2.2.2
    ·exact ⟨by dsimp only; omega, by simp, by dsimp only; omega, by dsimp only; omega, fun j h4 h5 => by dsimp only at h5; omega⟩
   ·split
    ·rename_i h2
     simp only [Bool.and_eq_true, decide_eq_true_eq, beq_iff_eq] at h2
     split
     ·rename_i h3
      simp only [Bool.and_eq_true, decide_eq_true_eq] at h3
      refine ⟨by dsimp only; omega, by simp, by dsimp only; omega, by dsimp only; omega, fun j h4 h5 => ?_⟩
      dsimp only at h5
      obtain rfl | rfl | rfl : j = 1 ∨ j = 2 ∨ j = 3 := by omega
      ·exact h2.1.1.2.2
      ·exact h2.1.2.2
      ·exact h2.2.2
     ·exact ⟨by dsimp only; omega, by simp, by dsimp only; omega, by dsimp only; omega, fun j h4 h5 => by dsimp only at h5; omega⟩
    ·exact ⟨by dsimp only; omega, by simp, by dsimp only; omega, by dsimp only; omega, fun j h4 h5 => by dsimp only at h5; omega⟩
theorem get_at (s : ByteArray) (i : Nat) (h : i < s.size) : s.data.toList[i]? = some (s.get! i) := by
 obtain ⟨d⟩ := s
 have h : i < d.size := h
 have e : (ByteArray.mk d).get! i = d[i] := by simp [ByteArray.get!, h]
 rw [e]
 simp [h]
theorem wordsW_skip : ∀ (k : Nat) (t w : List UInt8), (∀ b ∈ t.take k, b ≠ 32) → wordsW w t = wordsW (w ++ t.take k) (t.drop k)
 | 0, t, w, _ => by simp
 | k + 1, [], w, _ => by simp
 | k + 1, b :: t, w, h => by
  have hb : b ≠ 32 := h b (by simp)
  rw [wordsW, if_neg hb, wordsW_skip k t (w ++ [b]) (fun c hc => h c (by simp [hc]))]
  simp
theorem wordsW_blank {w t : List UInt8} (hw : w ≠ []) : wordsW w (32 :: t) = w :: wordsW [] t := by rw [wordsW, if_pos rfl, if_neg hw]
theorem wordsW_blank0 {t : List UInt8} : wordsW [] (32 :: t) = wordsW [] t := by rw [wordsW, if_pos rfl, if_pos rfl]
def sofar (l : List UInt8) (pos : Nat) : Option Nat → List UInt8
 | none => []
 | some a => (l.drop a).take (pos - a)
theorem fields_from (s : ByteArray) : ∀ (f pos : Nat) (st : Option Nat) (acc : List (Nat × Nat)), s.size - pos ≤ f → pos ≤ s.size → (∀ a, st = some a → a < pos) →
  (closeSpans s (spansFromP (fun r => r == 32) s f pos st acc)).map (fun x => (s.extract x.1 x.2).data.toList) = acc.map (fun x => (s.extract x.1 x.2).data.toList) ++ wordsW (sofar s.data.toList pos st) (s.data.toList.drop pos) := by
 have hlen : s.data.toList.length = s.size := by cases s; rfl
 have hend : ∀ (pos : Nat) (st : Option Nat) (acc : List (Nat × Nat)), pos = s.size → (∀ a, st = some a → a < pos) → (closeSpans s (acc, st)).map (fun x => (s.extract x.1 x.2).data.toList) = acc.map (fun x => (s.extract x.1 x.2).data.toList) ++ wordsW (sofar s.data.toList pos st) (s.data.toList.drop pos) := by
  intro pos st acc e ha
  subst e
  rw [List.drop_of_length_le (by omega)]
  cases st with
  | none => simp [closeSpans, sofar, wordsW]
  | some a =>
   have hlt := ha a rfl
   have hne : (s.data.toList.drop a).take (s.size - a) ≠ [] := by
    intro e
    have := congrArg List.length e
    simp only [List.length_take, List.length_drop, List.length_nil] at this
    omega
   show (acc ++ [(a, s.size)]).map (fun x => (s.extract x.1 x.2).data.toList) = _ ++ wordsW ((s.data.toList.drop a).take (s.size - a)) []
   rw [wordsW, if_neg hne, List.map_append, List.map_cons, List.map_nil, extract_data]
 intro f
 induction f with
 | zero => intro pos st acc h1 h2 h3; exact hend pos st acc (by omega) h3
 | succ f ih =>
  intro pos st acc h1 h2 h3
  by_cases hp : pos < s.size
  ·obtain ⟨d1, d2, d3, d4, d5⟩ := decode_facts s pos hp
   have hg := get_at s pos hp
   have hdrop : s.data.toList.drop pos = s.get! pos :: s.data.toList.drop (pos + 1) := by
    rw [List.drop_eq_getElem_cons (by omega)]
    rw [List.getElem?_eq_getElem (by omega)] at hg
    injection hg with hg
    rw [hg]
   unfold spansFromP
   rw [if_pos hp]
   generalize hd : Utf8.decode s pos = d at *
   obtain ⟨r, k⟩ := d
   dsimp only at d1 d2 d3 d4 d5 ⊢
   by_cases hr : r = 32
   ·have hk := d4 hr
    have hb : s.get! pos = 32 := UInt8.toNat_inj.1 (d3.1 hr)
    subst hk
    rw [if_pos (by simp [hr])]
    rw [hdrop, hb]
    cases st with
    | none =>
     rw [ih (pos + 1) none acc (by omega) (by omega) (fun a h => by cases h)]
     show _ ++ wordsW [] _ = _ ++ wordsW [] (32 :: _)
     rw [wordsW_blank0]
    | some a =>
     have hlt := h3 a rfl
     have hne : (s.data.toList.drop a).take (pos - a) ≠ [] := by
      intro e
      have := congrArg List.length e
      simp only [List.length_take, List.length_drop, List.length_nil] at this
      omega
     dsimp only
     rw [ih (pos + 1) none _ (by omega) (by omega) (fun a h => by cases h)]
     show _ ++ wordsW [] _ = _ ++ wordsW ((s.data.toList.drop a).take (pos - a)) (32 :: _)
     rw [wordsW_blank hne, List.map_append, List.map_cons, List.map_nil, extract_data, List.append_assoc]
     rfl
   ·have hskip := wordsW_skip k (s.data.toList.drop pos) (sofar s.data.toList pos st) (fun b hb => by
     obtain ⟨j, hj, rfl⟩ := List.mem_iff_getElem.1 hb
     simp only [List.length_take, List.length_drop] at hj
     intro e
     have hg2 := get_at s (pos + j) (by omega)
     rw [List.getElem?_eq_getElem (by omega)] at hg2
     injection hg2 with hg2
     simp only [List.getElem_take, List.getElem_drop] at e
     rw [hg2] at e
     by_cases hj0 : j = 0
     ·subst hj0
      exact hr (d3.2 (by rw [show s.get! pos = 32 from e]; rfl))
     ·have := d5 j (by omega) (by omega)
      rw [e] at this
      exact absurd this (by decide))
    rw [List.drop_drop] at hskip
    rw [if_neg (by simp [hr])]
    cases st with
    | none =>
     dsimp only
     rw [ih (pos + k) (some pos) acc (by omega) (by omega) (fun a h => by cases h; omega), hskip]
     have e : sofar s.data.toList (pos + k) (some pos) = sofar s.data.toList pos none ++ (s.data.toList.drop pos).take k := by
      show (s.data.toList.drop pos).take (pos + k - pos) = [] ++ _
      rw [Nat.add_sub_cancel_left]; rfl
     rw [e]
    | some a =>
     have hlt := h3 a rfl
     dsimp only
     rw [ih (pos + k) (some a) acc (by omega) (by omega) (fun b h => by cases h; omega), hskip]
     have e : sofar s.data.toList (pos + k) (some a) = sofar s.data.toList pos (some a) ++ (s.data.toList.drop pos).take k := by
      show (s.data.toList.drop a).take (pos + k - a) = (s.data.toList.drop a).take (pos - a) ++ (s.data.toList.drop pos).take k
      rw [show pos + k - a = (pos - a) + k by omega, List.take_add, List.drop_drop, show a + (pos - a) = pos by omega]
     rw [e]
  ·rw [spansFromP_end _ _ _ _ _ _ hp]
   exact hend pos st acc (by omega) h3
theorem fields_words (s : List UInt8) : ((goFieldsP (fun r => r == 32) ⟨s.toArray⟩).map Value.string) = strC (wordsL s) := by
 have h := fields_from ⟨s.toArray⟩ (ByteArray.mk s.toArray).size 0 none [] (by omega) (Nat.zero_le _) (fun a h => by cases h)
 have e : (goFieldsP (fun r => r == 32) ⟨s.toArray⟩).map Value.string = strC ((goFieldsP (fun r => r == 32) ⟨s.toArray⟩).map (·.data.toList)) := by
  unfold strC
  rw [List.map_map]
  exact List.map_congr_left fun x _ => strV_of x
 rw [e]
 congr 1
 unfold goFieldsP spansOfP
 rw [List.map_map]
 exact h
theorem split_strs (s : List UInt8) (c : UInt8) : (splitB ⟨#[c]⟩ 0 (countB ⟨s.toArray⟩ ⟨#[c]⟩) ⟨s.toArray⟩).map Value.string = strC (splitL c s) := by
 have e : (splitB ⟨#[c]⟩ 0 (countB ⟨s.toArray⟩ ⟨#[c]⟩) ⟨s.toArray⟩).map Value.string = strC ((splitB ⟨#[c]⟩ 0 (countB ⟨s.toArray⟩ ⟨#[c]⟩) ⟨s.toArray⟩).map (·.data.toList)) := by
  unfold strC
  rw [List.map_map]
  exact List.map_congr_left fun x _ => strV_of x
 rw [e, splitB_data]
 exact congrArg strC (split_one c s)
theorem split_count (s : List UInt8) (c : UInt8) : countB ⟨s.toArray⟩ ⟨#[c]⟩ + 1 = (splitL c s).length := by
 have h := congrArg List.length (split_strs s c)
 rw [List.length_map, strC_len, splitB_all _ (by simp [ByteArray.size]) 0 _ _ rfl] at h
 exact h
end Go.SL
end
section
open Go Go.Proofs Go.SL Go.RowKit Go.Sort
set_option maxRecDepth 100000
namespace Go.SL
structure Laid (P : Program) (g1 : Nat) (w : World) : Prop where
 tab : Lib.TabIs P w "internal/strconv.uint64pow10" .u64 Lib.pow10Tab
 syn : ∃ tp p, w.var? P "strconv.ErrSyntax" = some #[.iface tp p]
 rng : ∃ tp p, w.var? P "strconv.ErrRange" = some #[.iface tp p]
 top : ∃ m, w.cell? ⟨g1, 0, none⟩ = some (.int .i64 m)
theorem var_chg {P : Program} {w0 w : World} {n : String} {cs : Array Value} (hc : Chg w0 (feet []) w) (h : w0.var? P n = some cs) : w.var? P n = some cs := by
 unfold World.var? at h ⊢
 cases hg : P.globalNamed n with
 | none => rw [hg] at h; cases h
 | some g =>
  rw [hg, Option.bind_some] at h
  rw [Option.bind_some]
  cases hb : w0.heap[g]? with
  | none => rw [hb] at h; cases h
  | some o =>
   have hlt : g < w0.heap.size := (Array.getElem?_eq_some_iff.1 hb).1
   rw [hc.block g hlt (fun ⟨_, hm, _⟩ => by cases hm), hb]
   rw [hb] at h
   exact h
theorem Laid.chg {P : Program} {g1 : Nat} {w0 w : World} (h : Laid P g1 w0) (hc : Chg w0 (feet []) w) : Laid P g1 w :=
 ⟨var_chg hc h.tab, h.syn.imp fun _ ⟨p, hp⟩ => ⟨p, var_chg hc hp⟩, h.rng.imp fun _ ⟨p, hp⟩ => ⟨p, var_chg hc hp⟩, h.top.imp fun m hm => by
  have hlt : g1 < w0.heap.size := Lib.lt_of_cell hm
  have := hc.block g1 hlt (fun ⟨_, hm, _⟩ => by cases hm)
  rw [World.cell?] at hm ⊢
  dsimp only at hm ⊢
  rwa [this]⟩
theorem res_below {w w' : World} (h : Below w.heap.size w w') : Res w [] [] w' :=
 ⟨⟨h.os, h.tape, h.output, h.size, fun b hb _ => h.block b hb⟩, (fun c hc => by cases hc), List.Pairwise.nil, (fun c hc => by cases hc)⟩
theorem below_growN (w : World) (k : Nat) (os : Array Obj) : Below w.heap.size w (grow (w.drewN k) os) := Lib.below_grow _ w (Nat.le_refl _) k os
abbrev LaidD := Laid Tryz.prog (Tryz.laysSplit_ren.g 1)
theorem trim_spec (s : List UInt8) (w : World) (hs : s.length ≤ 4000000) : Calls Tryz.prog 71 #[strV s, strV [32]] w fun e w' => e = .returned (strV (Lib.trimB s 32)) ∧ Res w [] [] w' := by
 refine (Any.strings_Trim_one Tryz.laysTrim ⟨s.toArray⟩ 32 (by decide) w (by rw [bytesS]; omega)).mono fun e w' ⟨he, hw⟩ => ⟨he, ?_⟩
 rcases hw with rfl | rfl
 ·exact res_below (Below.refl _ _)
 ·exact res_below (Below.refl _ _).drew
theorem itoa_spec (n : Int) (w : World) (h : In64 n) (hL : LaidD w) : Calls Tryz.prog 46 #[.int .i64 n] w fun e w' => e = .returned (strV (Lib.itoa n)) ∧ Res w [] [] w' :=
 (Any.strconv_Itoa Tryz.laysItoa n (by have := h.1; omega) (by have := h.2; omega) w hL.tab).mono fun _ _ ⟨he, k, os, hw⟩ => ⟨he, res_below (hw ▸ below_growN w k os)⟩
theorem fmt_spec (n : Int) (w : World) (h : In64 n) (hL : LaidD w) : Calls Tryz.prog 61 #[.int .i64 n, .int .i64 10] w fun e w' => e = .returned (strV (Lib.itoa n)) ∧ Res w [] [] w' :=
 (Any.strconv_FormatInt_10 Tryz.laysFmt n (by have := h.1; omega) (by have := h.2; omega) w hL.tab).mono fun _ _ ⟨he, k, os, hw⟩ => ⟨he, res_below (hw ▸ below_growN w k os)⟩
theorem bytes_below (w : World) (e : TypeId) (s : ByteArray) : Below w.heap.size w (Lib.bytesWorld w e s) := by
 unfold Lib.bytesWorld
 exact Lib.below_freeze ((Below.refl _ w).drew.alloc (Nat.le_refl _) _) (Nat.le_refl _) _
theorem parse_spec (s : List UInt8) (w : World) (hs : s.length ≤ 4000000) (hL : LaidD w) : Calls Tryz.prog 60 #[strV s, .int .i64 10, .int .i64 64] w fun e w' => ∃ x : Int × Value, ((∃ v, Lib.parseIntB 64 s = .ok v ∧ x = (v, .nilIface)) ∨ ((∀ v, Lib.parseIntB 64 s ≠ .ok v) ∧ ∃ tp p, x.2 = .iface tp p)) ∧ e = .returned (.tuple #[.int .i64 x.1, x.2]) ∧ Res w [] [] w' := by
 cases h : Lib.parseIntB 64 s with
 | ok v =>
  refine (Any.strconv_ParseInt_10_at64_ok Tryz.laysParse ⟨s.toArray⟩ (by rw [bytesS]; omega) v h w).mono fun e w' ⟨he, hw⟩ => ⟨(v, .nilIface), .inl ⟨v, rfl, rfl⟩, he, ?_⟩
  rcases hw with rfl | ⟨t, rfl⟩
  ·exact res_below (Below.refl _ _)
  ·exact res_below (bytes_below _ _ _)
 | range =>
  obtain ⟨tp, p, hv⟩ := hL.rng
  exact (Any.strconv_ParseInt_10_at64_range_var Tryz.laysParse ⟨s.toArray⟩ (by rw [bytesS]; omega) h tp p w hv).mono fun e w' ⟨N, he, _, _, hb⟩ => ⟨(_, _), .inr ⟨(fun v hv => by cases hv), _, _, rfl⟩, he, res_below hb⟩
 | _ =>
  obtain ⟨tp, p, hv⟩ := hL.syn
  exact (Any.strconv_ParseInt_10_at64_syntax_var Tryz.laysParse ⟨s.toArray⟩ (by rw [bytesS]; omega) h tp p w hv).mono fun e w' ⟨N, he, _, _, hb⟩ => ⟨(_, _), .inr ⟨(fun v hv => by cases hv), _, _, rfl⟩, he, res_below hb⟩
end Go.SL
end
section
open Go Go.Proofs Go.SL Go.RowKit Go.Sort
set_option maxRecDepth 100000
namespace Go.SL
theorem res_blk {w w' : World} {e : TypeId} {cs : List Value} (h : w' = w.alloc (.cells cs.toArray e)) : Res w [] [.blk w.heap.size e cs] w' := by subst h; exact Res.alloc w e cs
theorem split_spec (s : List UInt8) (w : World) (hs : s.length ≤ 4000000) (hL : LaidD w) : Calls Tryz.prog 22 #[strV s, strV [59]] w fun e w' => ∃ b : Nat, True ∧ e = .returned (.slice (some ⟨b, 0, none⟩) (splitL 59 s).length (splitL 59 s).length) ∧ Res w [] [.blk b 9 (strC (splitL 59 s))] w' := by
 obtain ⟨m, hm⟩ := hL.top
 refine (Any.strings_Split Tryz.laysSplit (by kernel_rfl) ⟨s.toArray⟩ ⟨#[59]⟩ m w (by rw [bytesS]; omega) hm (by decide)).mono fun e w' ⟨he, hw⟩ => ⟨w.heap.size, trivial, ?_, ?_⟩
 ·rw [he, split_count]
 ·rw [split_strs] at hw
  exact res_blk hw
theorem blank_spec (x : Nat) (w : World) : Calls Tryz.prog 74 #[.int .i32 (x : Int)] w fun e w' => e = .returned (.bool (x == 32)) ∧ Res w [] [] w' := by
 refine enter0 (N := 5) Tryz.func74 rfl rfl rfl <| esr <| wa rfl rfl <| wsr <| wm rfl rfl <| w_val (v_eql rfl rfl) rfl <| wa rfl rfl <| w_nil ?_
 refine e_retQ (q_ret1 rfl (.tmp rfl) ?_)
 refine fun w' hw' => ⟨?_, hw'.res.nil⟩
 have e : (x == 32) = decide ((x : Int) = 32) := by
  by_cases h : x = 32
  ·subst h; rfl
  ·rw [decide_eq_false (by omega)]; simp [h]
 rw [e]
theorem fields_spec (s : List UInt8) (w : World) (hs : s.length ≤ 4000000) : Calls Tryz.prog 73 #[strV s, .func (.func 74) #[] #[]] w fun e w' => ∃ v : Value, True ∧ e = .returned v ∧ Res w [] [Own v 9 1 (wordsL s).length (strC (wordsL s))] w' := by
 have hp : PredGrows Tryz.prog 74 #[] (fun r => r == 32) w := fun W x _ _ => (blank_spec x W).mono fun _ _ ⟨he, hr⟩ => ⟨he, hr.below⟩
 refine (Any.strings_FieldsFunc_grows Tryz.laysFields 74 #[] (fun args w => Tryz.call74 args w) (fun r => r == 32) ⟨s.toArray⟩ w (by rw [bytesS]; omega) hp (by kernel_rfl) (by kernel_rfl)).mono ?_
 rintro e w' ⟨A, he, hA, hrow, hb⟩
 have hl : (Lib.goFieldsP (fun r => r == 32) ⟨s.toArray⟩).length = (wordsL s).length := by
  have := congrArg List.length (fields_words s)
  rwa [List.length_map, strC_len] at this
 rw [fields_words, hl] at hrow
 rw [hl] at he
 refine ⟨_, trivial, he, ⟨(res_below hb).chg, ?_, List.pairwise_singleton .., ?_⟩⟩
 ·intro c hc
  rw [List.mem_singleton] at hc
  subst hc
  obtain ⟨h1, h2⟩ := hrow
  refine ⟨h1, h2.imp id ?_⟩
  rintro ⟨g, cap, cur, h3, h4, h5⟩
  exact ⟨g, cap, cur, h3, Nat.zero_le _, h5⟩
 ·intro c hc b hf
  rw [List.mem_singleton] at hc
  subst hc
  have hf : Value.ownBlock (.slice (some ⟨A, 0, none⟩) (wordsL s).length (wordsL s).length) = some b := hf
  simp only [Value.ownBlock, Option.some.injEq] at hf
  subst hf
  exact .inl hA
theorem joinX : Builder.Extra Tryz.prog Tryz.laysJoin_ren where
 sizeBuilder := by kernel_rfl
 liesBuilder := by kernel_rfl
 t5 := uT5
 a5 := Tryz.isAgg5
 z5 := Tryz.sizeOf5
 v5 := Tryz.zeroValue5
 infoByte := by kernel_rfl
 cellsByte := by kernel_rfl
 sizeByte := by kernel_rfl
 neB5 := by decide
theorem join_spec (xs : List (List UInt8)) (v : Value) (e : Nat) (w : World) (h : (Own v e 1 xs.length (strC xs)).holds w) (hlen : (Lib.join xs [59, 32]).length ≤ 140737488355328) (hN : xs.length ≤ 1000000) :
  Calls Tryz.prog 48 #[v, strV [59, 32]] w fun e w' => e = .returned (strV (Lib.join xs [59, 32])) ∧ Res w [] [] w' := by
 have hrow : w.ownsRow 0 e 1 v xs.length (strC xs) := h
 obtain ⟨h1, ⟨rfl, h2⟩ | ⟨g, cap, cur, rfl, h3, h4, h5, h6, h7, h8⟩⟩ := id hrow
 ·have : xs = [] := List.length_eq_zero_iff.1 h2
  subst this
  exact (Any.strings_Join_none Tryz.laysJoin joinX none 0 ⟨#[59, 32]⟩ w).mono fun e w' ⟨he, hw⟩ => ⟨he, hw ▸ res_below (Below.refl _ _)⟩
 ·have hmap : (xs.map fun l => (ByteArray.mk l.toArray)).map (·.data.toList) = xs := by
   rw [List.map_map]
   exact List.map_id'' (fun _ => rfl) xs
  have hc := hrow.cells rfl
  have := Any.strings_Join Tryz.laysJoin joinX g 0 cap (xs.map fun l => ByteArray.mk l.toArray) ⟨#[59, 32]⟩ w (fun j x hx => by
   rw [List.getElem?_map, Option.map_eq_some_iff] at hx
   obtain ⟨l, hl, rfl⟩ := hx
   have := hc j _ (strC_at hl)
   rwa [add_mk] at this) (by
    have := (Array.getElem?_eq_some_iff.1 h4).1
    exact this) (by rw [List.length_map]; omega) (by rw [List.length_map]; exact h5) (by rw [hmap]; exact hlen)
  rw [List.length_map, hmap] at this
  exact this.mono fun e w' ⟨he, hb⟩ => ⟨he, res_below hb⟩
end Go.SL
end
