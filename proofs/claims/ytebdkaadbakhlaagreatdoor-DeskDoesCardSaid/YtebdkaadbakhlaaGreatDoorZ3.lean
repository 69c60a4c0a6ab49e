/- YtebdkaadbakhlaaGreatDoor: part Z3 of this seat's own texts. -/
import Derived.Test.YtebdkaadbakhlaaGreatDoorZ2
set_option linter.unusedVariables false
set_option linter.unusedSimpArgs false
section
open Go Go.Proofs Go.SL Go.RowKit
set_option maxRecDepth 100000
set_option maxHeartbeats 4000000
namespace Go.SL
abbrev IsStrs (c : View) (v : Value) (l : List (List UInt8)) : Prop := Rds c v 1 l.length (strC l)
theorem IsStrs.tail {c : View} {A : Option Addr} {cap : Nat} {x : List UInt8} {r : List (List UInt8)} (h : IsStrs c (.slice A (x :: r).length cap) (x :: r)) : IsStrs c (slV A 1 (x :: r).length cap 1) r := by
 have := slV_rds (lo := 1) (hi := (x :: r).length) h (by simp) (Nat.le_refl _)
 have h2 : Rds c (slV A 1 (x :: r).length cap 1) 1 r.length (List.map strV r) := by simpa [strC, List.take_of_length_le] using this
 exact h2
theorem IsStrs.cell {c : View} {A : Option Addr} {cap : Nat} {l : List (List UInt8)} (h : IsStrs c (.slice A l.length cap) l) {i : Nat} (hi : i < l.length) : ∃ ad, A = some ad ∧ c (ad.add (((i : Nat) : Int).toNat * 1)) = some (strV l[i]) := by
 obtain ⟨A', k', h1, _, _, h3⟩ := h
 obtain ⟨ad, h4, h5⟩ := h3 (by omega)
 injection h1 with e1
 subst e1
 exact ⟨ad, h4, by rw [Int.toNat_natCast, Nat.mul_one]; exact h5 i _ (strC_at (List.getElem?_eq_getElem hi))⟩
theorem longL_ok {s : List UInt8} {v : Int} (h : Lib.parseIntB 64 s = .ok v) : longL s = if Lib.itoa v = s then some v else none := by unfold longL; rw [h]
theorem longL_no {s : List UInt8} (h : ∀ v, Lib.parseIntB 64 s ≠ .ok v) : longL s = none := by
 unfold longL
 cases hp : Lib.parseIntB 64 s with
 | ok v => exact absurd hp (h v)
 | _ => rfl
theorem txLong_spec (s : List UInt8) (w : World) (hs : s.length ≤ 4000000) (hL : LaidD w) : Calls Tryz.prog 114 #[strV s] w fun e w' => ∃ n : Int, (∀ v, longL s = some v → n = v) ∧ e = .returned (.tuple #[.int .i64 n, .bool (longL s).isSome]) ∧ Res w [] [] w' := by
 refine enter0 (N := 20) Tryz.func114 rfl rfl rfl <| esr <| wa rfl rfl <| wa rfl rfl <| wsr <| wm rfl rfl <| w_op rfl ?_
 refine x_call (dst := some 8) (mc := []) (σ := Int × Value) (fun x => (∃ v, Lib.parseIntB 64 s = .ok v ∧ x = (v, .nilIface)) ∨ ((∀ v, Lib.parseIntB 64 s ≠ .ok v) ∧ ∃ tp p, x.2 = .iface tp p)) (fun x => .tuple #[.int .i64 x.1, x.2]) (fun _ => []) rfl rfl rfl Tryz.call60 (fun w hw => parse_spec s w hs (hL.chg hw.chg)) rfl (fun x hx => ?_)
 obtain ⟨n, ev⟩ := x
 dsimp only at hx ⊢
 refine wm rfl rfl <| w_val (v_extract rfl rfl) rfl <| w_val (v_extract rfl rfl) rfl <| wa rfl rfl <| wa rfl rfl <| w_nil <| e_seq ?_
 rcases hx with ⟨v, hv, hx⟩ | ⟨hno, tp, p, hx⟩
 ·injection hx with e1 e2
  subst e1; subst e2
  have hll := longL_ok hv
  refine e_region <| wm rfl rfl <| wm rfl rfl <| w_val (v_eqlNilI uT72 rfl) rfl <| wm rfl rfl <| w_want rfl rfl <| wm rfl rfl <| w_want rfl rfl <| w_op rfl ?_
  refine x_call0 (v := strV (Lib.itoa n)) rfl rfl rfl Tryz.call61 rfl (fun w hw => fmt_spec n w (parse_in hv) (hL.chg hw.chg)) ?_
  refine w_want rfl rfl <| wm rfl rfl <| w_want rfl rfl <| w_val (v_strEql rfl rfl) rfl <| w_val (v_pickT rfl rfl) rfl <| wa rfl rfl <| wa rfl rfl <| w_nil ?_
  refine e_retQ (q_ret2 rfl (.tmp rfl) (.tmp rfl) ?_)
  refine fun w' hw' => ⟨n, fun v hv2 => ?_, ?_, hw'.res.nil⟩
  ·rw [hll] at hv2
   split at hv2
   ·injection hv2
   ·cases hv2
  ·rw [hll]
   by_cases h : Lib.itoa n = s
   ·rw [if_pos h, decide_eq_true h]; rfl
   ·rw [if_neg h, decide_eq_false h]; rfl
 ·have hll := longL_no hno
  subst hx
  refine e_region <| wm rfl rfl <| wm rfl rfl <| w_val (v_eqlSomeI uT72 rfl) rfl <| wm rfl rfl <| w_skip rfl rfl rfl rfl <| w_skip rfl rfl rfl rfl <| w_skip rfl rfl rfl rfl <| w_skip rfl rfl rfl rfl <| w_val (v_pickF rfl rfl) rfl <| wa rfl rfl <| wa rfl rfl <| w_nil ?_
  refine e_retQ (q_ret2 rfl (.tmp rfl) (.tmp rfl) ?_)
  refine fun w' hw' => ⟨n, fun v hv2 => ?_, ?_, hw'.res.nil⟩
  ·rw [hll] at hv2; cases hv2
  ·rw [hll]; rfl
theorem refLong_spec (s : List UInt8) (w : World) (hs : s.length ≤ 4000000) (hL : LaidD w) : Calls Tryz.prog 32 #[strV s] w fun e w' => ∃ n : Int, (∀ v, longL s = some v → n = v) ∧ e = .returned (.tuple #[.int .i64 n, .bool (longL s).isSome]) ∧ Res w [] [] w' := by
 refine enter0 (N := 20) Tryz.func32 rfl rfl rfl <| esr <| wa rfl rfl <| wa rfl rfl <| wsr <| wm rfl rfl <| w_op rfl ?_
 refine x_call (dst := some 8) (mc := []) (σ := Int × Value) (fun x => (∃ v, Lib.parseIntB 64 s = .ok v ∧ x = (v, .nilIface)) ∨ ((∀ v, Lib.parseIntB 64 s ≠ .ok v) ∧ ∃ tp p, x.2 = .iface tp p)) (fun x => .tuple #[.int .i64 x.1, x.2]) (fun _ => []) rfl rfl rfl Tryz.call60 (fun w hw => parse_spec s w hs (hL.chg hw.chg)) rfl (fun x hx => ?_)
 obtain ⟨n, ev⟩ := x
 dsimp only at hx ⊢
 refine wm rfl rfl <| w_val (v_extract rfl rfl) rfl <| w_val (v_extract rfl rfl) rfl <| wa rfl rfl <| wa rfl rfl <| w_nil <| e_seq <| e_seq ?_
 rcases hx with ⟨v, hv, hx⟩ | ⟨hno, tp, p, hx⟩
 ·injection hx with e1 e2
  subst e1; subst e2
  have hll := longL_ok hv
  by_cases h : Lib.itoa n = s
  ·rw [if_pos h] at hll
   refine e_region <| wm rfl rfl <| w_val (v_neqNilI uT72 rfl) rfl <| wm rfl rfl <| w_want rfl rfl <| wm rfl rfl <| w_want rfl rfl <| w_op rfl ?_
   refine x_call0 (v := strV (Lib.itoa n)) rfl rfl rfl Tryz.call61 rfl (fun w hw => fmt_spec n w (parse_in hv) (hL.chg hw.chg)) ?_
   refine w_want rfl rfl <| wm rfl rfl <| w_want rfl rfl ?_
   refine w_val (v_is (v' := .bool false) (v_strNeq rfl rfl) (by rw [decide_eq_false (fun hn => hn h)])) rfl ?_
   refine w_val (v_pickF rfl rfl) rfl <| w_nil <| e_condF rfl <| e_skip <| esr <| wm rfl rfl <| wa rfl rfl <| wa rfl rfl <| w_nil ?_
   refine e_retQ (q_ret2 rfl (.tmp rfl) (.tmp rfl) ?_)
   exact fun w' hw' => ⟨n, fun v hv2 => by rw [hll] at hv2; injection hv2, by rw [hll]; rfl, hw'.res.nil⟩
  ·rw [if_neg h] at hll
   refine e_region <| wm rfl rfl <| w_val (v_neqNilI uT72 rfl) rfl <| wm rfl rfl <| w_want rfl rfl <| wm rfl rfl <| w_want rfl rfl <| w_op rfl ?_
   refine x_call0 (v := strV (Lib.itoa n)) rfl rfl rfl Tryz.call61 rfl (fun w hw => fmt_spec n w (parse_in hv) (hL.chg hw.chg)) ?_
   refine w_want rfl rfl <| wm rfl rfl <| w_want rfl rfl ?_
   refine w_val (v_is (v' := .bool true) (v_strNeq rfl rfl) (by rw [decide_eq_true h])) rfl ?_
   refine w_val (v_pickF rfl rfl) rfl <| w_nil <| e_condT rfl <| esr <| wa rfl rfl <| wa rfl rfl <| w_nil ?_
   refine e_retQ (q_ret2 rfl (.tmp rfl) (.tmp rfl) ?_)
   exact fun w' hw' => ⟨0, fun v hv2 => (by rw [hll] at hv2; cases hv2), by rw [hll]; rfl, hw'.res.nil⟩
 ·have hll := longL_no hno
  subst hx
  refine e_region <| wm rfl rfl <| w_val (v_neqSomeI uT72 rfl) rfl <| wm rfl rfl <| w_skip rfl rfl rfl rfl <| w_skip rfl rfl rfl rfl <| w_skip rfl rfl rfl rfl <| w_skip rfl rfl rfl rfl <| w_val (v_pickT rfl rfl) rfl <| w_nil <| e_condT rfl <| esr <| wa rfl rfl <| wa rfl rfl <| w_nil ?_
  refine e_retQ (q_ret2 rfl (.tmp rfl) (.tmp rfl) ?_)
  exact fun w' hw' => ⟨0, fun v hv2 => (by rw [hll] at hv2; cases hv2), by rw [hll]; rfl, hw'.res.nil⟩
end Go.SL
end
section
open Go Go.Proofs Go.SL Go.RowKit
set_option maxRecDepth 100000
set_option maxHeartbeats 4000000
namespace Go.SL
def pad3 (ns : List Int) : List Int := [ns.getD 0 0, ns.getD 1 0, ns.getD 2 0]
theorem pad_set {ns : List Int} {v : Int} (h : ns.length < 3) : (intCells (pad3 ns)).set (0 + ((ns.length : Int)).toNat * 1) (.int .i64 v) = intCells (pad3 (ns ++ [v])) := by
 match ns, h with
 | [], _ => rfl
 | [a], _ => rfl
 | [a, b], _ => rfl
 | a :: b :: c :: t, h => simp at h; omega
theorem numsL_app : ∀ (a : List (List UInt8)) {ns : List Int} {x : List UInt8} {v : Int}, numsL a = some ns → longL x = some v → numsL (a ++ [x]) = some (ns ++ [v])
 | [], ns, x, v, h, hx => by
  simp only [numsL] at h
  injection h with h
  subst h
  simp [numsL, hx]
 | y :: a, ns, x, v, h, hx => by
  simp only [numsL] at h
  cases hy : longL y with
  | none => rw [hy] at h; cases h
  | some u =>
   cases hn : numsL a with
   | none => rw [hy, hn] at h; cases h
   | some us =>
    rw [hy, hn] at h
    injection h with h
    subst h
    have := numsL_app a hn hx
    simp [numsL, hy, this]
theorem numsL_bad : ∀ (a : List (List UInt8)) {i : Nat} (hi : i < a.length), longL a[i] = none → numsL a = none
 | [], i, hi, _ => by simp at hi
 | y :: a, 0, _, h => by
  simp only [List.getElem_cons_zero] at h
  simp [numsL, h]
 | y :: a, i + 1, hi, h => by
  have := numsL_bad a (i := i) (by simpa using hi) (by simpa using h)
  simp only [numsL, this]
  cases longL y <;> rfl
theorem counts_bound {k : Nat} (h : k ≤ 9) (h0 : k ≠ 0) : 1 ≤ kCounts.getD k 0 ∧ kCounts.getD k 0 ≤ 3 := by
 have : k = 1 ∨ k = 2 ∨ k = 3 ∨ k = 4 ∨ k = 5 ∨ k = 6 ∨ k = 7 ∨ k = 8 ∨ k = 9 := by omega
 rcases this with rfl | rfl | rfl | rfl | rfl | rfl | rfl | rfl | rfl <;> decide
theorem oneL_no {l : List (List UInt8)} (h : kindOf (l.headD []) = 0 ∨ (l.length : Int) ≠ 1 + kCounts.getD (kindOf (l.headD [])) 0) : oneL l = none := by unfold oneL; rw [if_pos h]
theorem oneL_nums {l : List (List UInt8)} (h : ¬ (kindOf (l.headD []) = 0 ∨ (l.length : Int) ≠ 1 + kCounts.getD (kindOf (l.headD [])) 0)) : oneL l = (numsL l.tail).map (opOf (kindOf (l.headD []))) := by unfold oneL; rw [if_neg h]
theorem txOne_spec (v : Value) (l : List (List UInt8)) (w : World) (h : IsStrs w.cell? v l) (hs : ∀ s ∈ l, s.length ≤ 4000000) (hl : l.length ≤ 4000001) (hL : LaidD w) : Calls Tryz.prog 72 #[v] w fun e w' => ∃ z : OpL, (∀ o, oneL l = some o → z = o) ∧ e = .returned (.tuple #[opV z, .bool (oneL l).isSome]) ∧ Res w [] [] w' := by
 rw [← off_none w] at h
 have h0 := h
 obtain ⟨A, kp, rfl, hle, _, _⟩ := h0
 refine enter0 (N := 83) Tryz.func72 rfl rfl rfl <| esr <| w_op rfl ?_
 refine x_alloc (z := .agg #[.int .i64 0, .int .i64 0, .int .i64 0, .int .i64 0, .int .i64 0]) (by intro w; exact Tryz.zeroValue109 w) rfl (fun b2 => ?_)
 refine wa rfl rfl <| wsr <| wa rfl rfl <| w_nil <| e_seq <| esr <| w_op rfl ?_
 refine x_call (dst := some 13) (mc := []) (σ := Nat) (fun _ => True) (fun b => .slice (some ⟨b, 0, none⟩) 10 10) (fun b => [.blk b 9 (strC kNames)]) rfl rfl rfl Tryz.call112 (fun w hw => words_spec w) rfl (fun b13 _ => ?_)
 refine w_val (v_lenS uT22 rfl) rfl <| wm rfl rfl <| w_nil <| e_block ?_
 generalize hx : l.headD [] = x at *
 refine e_loopK (σ := Nat) [0, 2, 13, 14] (.cons rfl (.cons rfl (.cons rfl (.cons rfl .nil)))) (fun k => [(15, .int .i64 (k : Int)), (4, .int .i64 (kindTo x k : Int))]) (fun k => k ≤ 10) (fun k => 10 - k) 0 (Nat.zero_le _) (by repeat first | exact .nil _ | refine .cons rfl ?_) ?_
 rintro k hk
 dsimp only at hk ⊢
 refine esr <| w_val (v_lss rfl rfl) rfl <| w_nil <| e_seq ?_
 refine e_condD rfl (fun hlt => ?_) (fun hlt => ?_)
 ·have hk' : k < 10 := by omega
  have hnm := name_at (k := (k : Int)) (by omega) (by omega)
  rw [show ((k : Int)).toNat = k from Int.toNat_natCast k] at hnm
  have hkt : kindTo x (k + 1) = if 0 < k ∧ kNames.getD k [] = x then k else kindTo x k := rfl
  generalize kNames.getD k [] = nm at *
  refine e_skip <| e_seq <| e_block <| esr <| wm rfl rfl ?_
  refine w_val (v_indexSB uT22 Tryz.hi9 Tryz.cz9 rfl rfl (by first | omega | decide)) rfl ?_
  refine w_val (v_loadB 0 rfl uT9 rfl rfl (by rw [show ((k : Int)).toNat = k from Int.toNat_natCast k]; exact hnm)) rfl ?_
  refine wa rfl rfl <| wa rfl rfl <| w_nil <| e_seq ?_
  by_cases hk0 : k = 0
  ·refine e_region <| wm rfl rfl ?_
   refine w_val (v_is (v' := .bool false) (v_gtr rfl rfl) (by rw [decide_eq_false (by omega)])) rfl ?_
   refine wm rfl rfl <| w_skip rfl rfl rfl rfl <| w_skip rfl rfl rfl rfl <| w_skip rfl rfl rfl rfl <| w_val (v_pickF rfl rfl) rfl <| wm rfl rfl <| w_skip rfl rfl rfl rfl <| w_skip rfl rfl rfl rfl <| w_skip rfl rfl rfl rfl <| w_skip rfl rfl rfl rfl <| w_skip rfl rfl rfl rfl <| w_val (v_pickF rfl rfl) rfl <| w_nil <| e_condF rfl <| e_skip <| e_blk <| e_region ?_
   refine w_val (v_add rfl rfl (by omega)) rfl ?_
   refine wm rfl rfl <| w_nil ?_
   rw [if_neg (fun h => by have := h.1; omega)] at hkt
   exact e_round (k + 1) (by omega) (by omega) (by (try dsimp only); rw [hkt]; repeat (first | exact Sub.nil _ | refine Sub.cons rfl ?_)) (fun _ hw => hw)
  ·cases l with
   | nil =>
    refine e_region <| wm rfl rfl ?_
    refine w_val (v_is (v' := .bool true) (v_gtr rfl rfl) (by rw [decide_eq_true (by omega)])) rfl ?_
    refine wm rfl rfl <| w_want rfl rfl <| wm rfl rfl <| w_want rfl rfl <| w_val (v_lenS uT22 rfl) rfl <| w_want rfl rfl ?_
    refine w_val (v_is (v' := .bool false) (v_gtr rfl rfl) (by rfl)) rfl ?_
    refine w_val (v_pickT rfl rfl) rfl <| wm rfl rfl <| w_skip rfl rfl rfl rfl <| w_skip rfl rfl rfl rfl <| w_skip rfl rfl rfl rfl <| w_skip rfl rfl rfl rfl <| w_skip rfl rfl rfl rfl <| w_val (v_pickF rfl rfl) rfl <| w_nil <| e_condF rfl <| e_skip <| e_blk <| e_region ?_
    refine w_val (v_add rfl rfl (by omega)) rfl ?_
    refine wm rfl rfl <| w_nil ?_
    have hx2 : x = [] := hx.symm
    have hkt : kindTo x (k + 1) = kindTo x k := by rw [hx2, kindTo_nil _ (by omega), kindTo_nil _ (by omega)]
    exact e_round (k + 1) (by omega) (by omega) (by (try dsimp only); rw [hkt]; repeat (first | exact Sub.nil _ | refine Sub.cons rfl ?_)) (fun _ hw => hw)
   | cons y r =>
    have hxy : y = x := hx
    have hpos : 0 < (y :: r).length := by simp
    obtain ⟨ad, rfl, hcell⟩ := h.cell (i := 0) (by simp)
    have hcell : off w (feet []) (ad.add (((0 : Nat) : Int).toNat * 1)) = some (strV y) := hcell
    by_cases he : y = nm
    ·refine e_region <| wm rfl rfl ?_
     refine w_val (v_is (v' := .bool true) (v_gtr rfl rfl) (by rw [decide_eq_true (by omega)])) rfl ?_
     refine wm rfl rfl <| w_want rfl rfl <| wm rfl rfl <| w_want rfl rfl <| w_val (v_lenS uT22 rfl) rfl <| w_want rfl rfl ?_
     refine w_val (v_is (v' := .bool true) (v_gtr rfl rfl) (by rw [decide_eq_true (by simp)])) rfl ?_
     refine w_val (v_pickT rfl rfl) rfl <| wm rfl rfl <| w_want rfl rfl <| wm rfl rfl <| w_want rfl rfl ?_
     refine w_val (v_indexS uT22 Tryz.hi9 Tryz.cz9 rfl rfl (by first | omega | decide)) rfl ?_
     refine w_want rfl rfl <| w_val (v_loadO uT9 rfl rfl (hcell)) rfl <| w_want rfl rfl <| wm rfl rfl <| w_want rfl rfl ?_
     refine w_val (v_is (v' := .bool true) (v_strEql rfl rfl) (by rw [decide_eq_true he])) rfl ?_
     refine w_val (v_pickT rfl rfl) rfl <| w_nil <| e_condT rfl <| e_region <| wm rfl rfl <| wa rfl rfl <| w_nil <| e_blk <| e_region ?_
     refine w_val (v_add rfl rfl (by omega)) rfl ?_
     refine wm rfl rfl <| w_nil ?_
     rw [if_pos ⟨by omega, by rw [← he, hxy]⟩] at hkt
     exact e_round (k + 1) (by omega) (by omega) (by (try dsimp only); rw [hkt]; repeat (first | exact Sub.nil _ | refine Sub.cons rfl ?_)) (fun _ hw => hw)
    ·refine e_region <| wm rfl rfl ?_
     refine w_val (v_is (v' := .bool true) (v_gtr rfl rfl) (by rw [decide_eq_true (by omega)])) rfl ?_
     refine wm rfl rfl <| w_want rfl rfl <| wm rfl rfl <| w_want rfl rfl <| w_val (v_lenS uT22 rfl) rfl <| w_want rfl rfl ?_
     refine w_val (v_is (v' := .bool true) (v_gtr rfl rfl) (by rw [decide_eq_true (by simp)])) rfl ?_
     refine w_val (v_pickT rfl rfl) rfl <| wm rfl rfl <| w_want rfl rfl <| wm rfl rfl <| w_want rfl rfl ?_
     refine w_val (v_indexS uT22 Tryz.hi9 Tryz.cz9 rfl rfl (by first | omega | decide)) rfl ?_
     refine w_want rfl rfl <| w_val (v_loadO uT9 rfl rfl (hcell)) rfl <| w_want rfl rfl <| wm rfl rfl <| w_want rfl rfl ?_
     refine w_val (v_is (v' := .bool false) (v_strEql rfl rfl) (by rw [decide_eq_false he])) rfl ?_
     refine w_val (v_pickT rfl rfl) rfl <| w_nil <| e_condF rfl <| e_skip <| e_blk <| e_region ?_
     refine w_val (v_add rfl rfl (by omega)) rfl ?_
     refine wm rfl rfl <| w_nil ?_
     rw [if_neg (fun h => he (hxy.trans h.2.symm))] at hkt
     exact e_round (k + 1) (by omega) (by omega) (by (try dsimp only); rw [hkt]; repeat (first | exact Sub.nil _ | refine Sub.cons rfl ?_)) (fun _ hw => hw)
 ·have e : k = 10 := by omega
  subst e
  have hko : kindTo x 10 = kindOf x := rfl
  have hk9 := kindOf_le x
  rw [hko]
  have hno := fun h => oneL_no (l := l) h
  have hnu := fun h => oneL_nums (l := l) h
  rw [hx] at hno hnu
  have hcb := fun h => counts_bound hk9 h
  generalize hkk : kindOf x = kk at *
  refine e_exit rfl <| e_seq <| e_seq ?_
  by_cases hk0 : kk = 0
  ·refine e_region <| wm rfl rfl ?_
   refine w_val (v_is (v' := .bool true) (v_eql rfl rfl) (by rw [decide_eq_true (by omega)])) rfl ?_
   refine wm rfl rfl <| w_skip rfl rfl rfl rfl <| w_skip rfl rfl rfl rfl <| w_skip rfl rfl rfl rfl <| w_skip rfl rfl rfl rfl <| w_skip rfl rfl rfl rfl <| w_skip rfl rfl rfl rfl <| w_val (v_pickT rfl rfl) rfl <| w_nil <| e_condT rfl <| esr ?_
   refine w_val (v_build (v := opV ⟨0, 0, 0, 0, 0⟩) _ rfl (by intro _; simp [Instr.build, Instr.fill, Tryz.zeroValue109, go_sem]; rfl)) rfl ?_
   refine w_op rfl ?_
   refine x_storeA 1 rfl rfl rfl Tryz.hi109 Tryz.cz109 rfl (by first | (simp [Value.oneCell', opCells]; done) | assumption | exact one_ints _ | exact one_resCells _ _ | exact one_slotC _) ?_
   refine wa rfl rfl <| w_nil ?_
   refine e_retQ (q_ret2 rfl (ResV.agg 1 rfl rfl (by rw [isAggD, uT109]; rfl) (Tryz.cz109) Tryz.hi109) (.tmp rfl) ?_)
   have := hno (.inl hk0)
   exact fun w' hw' => ⟨⟨0, 0, 0, 0, 0⟩, fun o ho => (by rw [this] at ho; cases ho), by rw [this]; rfl, hw'.res.nil⟩
  ·obtain ⟨hc1, hc2⟩ := hcb hk0
   have hparts := fun (w1 : World) => parts_spec (kk : Int) w1 (by omega) (by omega)
   rw [show ((kk : Int)).toNat = kk from Int.toNat_natCast kk] at hparts
   generalize hcc : kCounts.getD kk 0 = cc at *
   by_cases hlen : (l.length : Int) ≠ 1 + cc
   ·refine e_region <| wm rfl rfl ?_
    refine w_val (v_is (v' := .bool false) (v_eql rfl rfl) (by rw [decide_eq_false (by omega)])) rfl ?_
    refine wm rfl rfl <| w_want rfl rfl <| wm rfl rfl <| w_want rfl rfl <| w_val (v_lenS uT22 rfl) rfl <| w_want rfl rfl <| wm rfl rfl <| w_want rfl rfl <| w_op rfl ?_
    refine x_call0 (v := .int .i64 cc) rfl rfl rfl Tryz.call113 rfl (fun w hw => hparts w) ?_
    refine w_want rfl rfl ?_
    refine w_val (v_add rfl rfl (by omega)) rfl ?_
    refine w_want rfl rfl ?_
    refine w_val (v_is (v' := .bool true) (v_neq rfl rfl) (by rw [decide_eq_true hlen])) rfl ?_
    refine w_val (v_pickF rfl rfl) rfl <| w_nil <| e_condT rfl <| esr ?_
    refine w_val (v_build (v := opV ⟨0, 0, 0, 0, 0⟩) _ rfl (by intro _; simp [Instr.build, Instr.fill, Tryz.zeroValue109, go_sem]; rfl)) rfl ?_
    refine w_op rfl ?_
    refine x_storeA 1 rfl rfl rfl Tryz.hi109 Tryz.cz109 rfl (by first | (simp [Value.oneCell', opCells]; done) | assumption | exact one_ints _ | exact one_resCells _ _ | exact one_slotC _) ?_
    refine wa rfl rfl <| w_nil ?_
    refine e_retQ (q_ret2 rfl (ResV.agg 1 rfl rfl (by rw [isAggD, uT109]; rfl) (Tryz.cz109) Tryz.hi109) (.tmp rfl) ?_)
    have := hno (.inr hlen)
    exact fun w' hw' => ⟨⟨0, 0, 0, 0, 0⟩, fun o ho => (by rw [this] at ho; cases ho), by rw [this]; rfl, hw'.res.nil⟩
   ·refine e_region <| wm rfl rfl ?_
    refine w_val (v_is (v' := .bool false) (v_eql rfl rfl) (by rw [decide_eq_false (by omega)])) rfl ?_
    refine wm rfl rfl <| w_want rfl rfl <| wm rfl rfl <| w_want rfl rfl <| w_val (v_lenS uT22 rfl) rfl <| w_want rfl rfl <| wm rfl rfl <| w_want rfl rfl <| w_op rfl ?_
    refine x_call0 (v := .int .i64 cc) rfl rfl rfl Tryz.call113 rfl (fun w hw => hparts w) ?_
    refine w_want rfl rfl ?_
    refine w_val (v_add rfl rfl (by omega)) rfl ?_
    refine w_want rfl rfl ?_
    refine w_val (v_is (v' := .bool false) (v_neq rfl rfl) (by rw [decide_eq_false hlen])) rfl ?_
    refine w_val (v_pickF rfl rfl) rfl <| w_nil <| e_condF rfl ?_
    have hone := hnu (fun h => h.elim hk0 hlen)
    cases l with
    | nil => simp at hlen; omega
    | cons y r =>
     have hlr : (r.length : Int) = cc := by simp at hlen; omega
     have htl := h.tail
     obtain ⟨At, kt, he, hkt, _, _⟩ := id htl
     rw [he] at htl
     have hpos : 0 < (y :: r).length := by simp
     have hone : oneL (y :: r) = (numsL r).map (opOf kk) := hone
     have hsr : ∀ s ∈ r, s.length ≤ 4000000 := fun s hs' => hs s (List.mem_cons_of_mem _ hs')
     have hz3 : (pad3 []).length = 3 := rfl
     refine e_skip <| esr <| w_op rfl ?_
     refine x_alloc (z := .agg #[.int .i64 0, .int .i64 0, .int .i64 0]) (by intro w; exact Tryz.zeroValue158 w) rfl (fun b7 => ?_)
     refine w_nil <| e_seq <| esr <| wm rfl rfl ?_
     refine w_val (v_is (v' := .slice At r.length kt) (v_sliceL uT22 Tryz.hi9 Tryz.cz9 rfl rfl (by omega)) he) rfl ?_
     refine w_val (v_lenS uT22 rfl) rfl <| wm rfl rfl <| w_nil <| e_block ?_
     refine e_loopH (σ := Nat × List Int) [0, 2, 4, 7, 48, 49] (.cons rfl (.cons rfl (.cons rfl (.cons rfl (.cons rfl (.cons rfl .nil)))))) (fun x => [(50, .int .i64 (x.1 : Int))]) (fun x => [.blk b7 158 (intCells (pad3 x.2)), .blk b13 9 (strC kNames), .blk b2 109 (opCells ⟨0, 0, 0, 0, 0⟩)]) (fun x => x.1 ≤ r.length ∧ x.2.length = x.1 ∧ numsL (r.take x.1) = some x.2) (fun x => r.length - x.1) (0, []) ⟨Nat.zero_le _, rfl, rfl⟩ (by repeat first | exact .nil _ | refine .cons rfl ?_) (fun _ hw => hw) ?_
     rintro ⟨i, ns⟩ ⟨hi, hnl, hns⟩
     dsimp only at hi hnl hns ⊢
     refine esr <| w_val (v_lss rfl rfl) rfl <| w_nil <| e_seq ?_
     refine e_condD rfl (fun hlt3 => ?_) (fun hlt3 => ?_)
     ·have hi' : i < r.length := by omega
      obtain ⟨ad, rfl, hcell⟩ := htl.cell hi'
      have hlong := fun (w1 : World) hL1 => txLong_spec r[i] w1 (hsr _ (List.getElem_mem hi')) hL1
      have happ := fun (v : Int) (h : longL r[i] = some v) => numsL_app (r.take i) (x := r[i]) (v := v) hns h
      rw [← List.take_succ_eq_append_getElem hi'] at happ
      have hbad := numsL_bad r hi'
      generalize r[i] = s at *
      refine e_skip <| e_seq <| e_block <| esr <| wm rfl rfl ?_
      refine w_val (v_indexS uT22 Tryz.hi9 Tryz.cz9 rfl rfl (by first | omega | decide)) rfl ?_
      refine w_val (v_loadO uT9 rfl rfl (hcell)) rfl <| wa rfl rfl <| wa rfl rfl <| wsr <| wm rfl rfl <| w_op rfl ?_
      refine x_call (dst := some 57) (mc := []) (σ := Int) (fun n => ∀ v, longL s = some v → n = v) (fun n => .tuple #[.int .i64 n, .bool (longL s).isSome]) (fun _ => []) rfl rfl rfl Tryz.call114 (fun w hw => hlong w (hL.chg hw.chg)) rfl (fun n hn => ?_)
      cases hlo : longL s with
      | none =>
       refine wm rfl rfl <| w_val (v_extract rfl rfl) rfl <| w_val (v_extract rfl rfl) rfl <| wa rfl rfl <| wa rfl rfl <| w_nil <| e_seq <| esr <| wm rfl rfl <| w_val (v_not rfl) rfl <| w_nil <| e_condT rfl <| esr ?_
       refine w_val (v_build (v := opV ⟨0, 0, 0, 0, 0⟩) _ rfl (by intro _; simp [Instr.build, Instr.fill, Tryz.zeroValue109, go_sem]; rfl)) rfl ?_
       refine w_op rfl ?_
       refine x_storeA 2 rfl rfl rfl Tryz.hi109 Tryz.cz109 rfl (by first | (simp [Value.oneCell', opCells]; done) | assumption | exact one_ints _ | exact one_resCells _ _ | exact one_slotC _) ?_
       refine wa rfl rfl <| w_nil ?_
       refine e_retQ (q_ret2 rfl (ResV.agg 2 rfl rfl (by rw [isAggD, uT109]; rfl) (Tryz.cz109) Tryz.hi109) (.tmp rfl) ?_)
       have := hbad hlo
       rw [this] at hone
       exact fun w' hw' => ⟨⟨0, 0, 0, 0, 0⟩, fun o ho => (by rw [hone] at ho; cases ho), by rw [hone]; rfl, hw'.res.nil⟩
      | some v =>
       have hnv := hn v hlo
       subst hnv
       have hap := happ n hlo
       have hps := pad_set (ns := ns) (v := n) (by omega)
       rw [hnl] at hps
       refine wm rfl rfl <| w_val (v_extract rfl rfl) rfl <| w_val (v_extract rfl rfl) rfl <| wa rfl rfl <| wa rfl rfl <| w_nil <| e_seq <| esr <| wm rfl rfl <| w_val (v_not rfl) rfl <| w_nil <| e_condF rfl <| e_skip <| e_region <| wm rfl rfl <| wm rfl rfl ?_
       refine w_val (v_indexAB uT158 Tryz.hi2 Tryz.cz2 rfl rfl (by first | omega | decide)) rfl ?_
       refine w_op rfl ?_
       refine x_store1 (v := .int .i64 n) 0 rfl rfl rfl Tryz.hi2 Tryz.cz2 rfl (by rw [intCells_len]; show _ < 3; omega) rfl ?_; rw [hps]
       refine w_nil <| e_blk <| e_region ?_
       refine w_val (v_add rfl rfl (by omega)) rfl ?_
       refine wm rfl rfl <| w_nil ?_
       exact e_round ((i + 1, ns ++ [n])) (⟨by dsimp only; omega, by dsimp only; simp [hnl], hap⟩) (by dsimp only; omega) (by repeat first | exact .nil _ | refine .cons rfl ?_) (fun _ hw => hw)
     ·have e : i = r.length := by omega
      subst e
      rw [List.take_length] at hns
      rw [hns] at hone
      have p0 : (intCells (pad3 ns))[0 + ((0 : Int)).toNat * 1]? = some (.int .i64 (ns.getD 0 0)) := rfl
      have p1 : (intCells (pad3 ns))[0 + ((1 : Int)).toNat * 1]? = some (.int .i64 (ns.getD 1 0)) := rfl
      have p2 : (intCells (pad3 ns))[0 + ((2 : Int)).toNat * 1]? = some (.int .i64 (ns.getD 2 0)) := rfl
      generalize hn0 : ns.getD 0 0 = n0 at *
      generalize hn1 : ns.getD 1 0 = n1 at *
      generalize hn2 : ns.getD 2 0 = n2 at *
      refine e_exit rfl <| esr <| wm rfl rfl ?_
      refine w_val (v_indexAB uT158 Tryz.hi2 Tryz.cz2 rfl rfl (by first | omega | decide)) rfl ?_
      refine w_val (v_loadB 0 rfl uT2 rfl rfl p0) rfl ?_
      refine w_val (v_build (v := opV ⟨kk, n0, 0, 0, 0⟩) _ rfl (by intro _; simp [Instr.build, Instr.fill, Tryz.zeroValue109, go_sem]; rfl)) rfl ?_
      refine w_op rfl ?_
      refine x_alloc (z := .agg #[.int .i64 0, .int .i64 0, .int .i64 0, .int .i64 0, .int .i64 0]) (by intro w; exact Tryz.zeroValue109 w) rfl (fun b12 => ?_)
      refine w_op rfl ?_
      refine x_storeA 0 rfl rfl rfl Tryz.hi109 Tryz.cz109 rfl (by first | (simp [Value.oneCell', opCells]; done) | assumption | exact one_ints _ | exact one_resCells _ _ | exact one_slotC _) ?_
      refine w_nil <| e_seq <| esr <| wm rfl rfl <| w_val (v_eql rfl rfl) rfl <| w_nil ?_
      by_cases hk1 : kk = 1
      ·have ho : opOf kk ns = ⟨kk, n0, 0, 0, n1⟩ := by unfold opOf; rw [if_pos hk1, hn0, hn1, hk1]; rfl
       refine e_condDT rfl (by omega) ?_
       refine e_region ?_
       refine w_val (v_indexAB uT158 Tryz.hi2 Tryz.cz2 rfl rfl (by first | omega | decide)) rfl ?_
       refine w_val (v_loadB 1 rfl uT2 rfl rfl p1) rfl <| w_val (v_fieldAddrB (o := 4) uT109 rfl rfl Tryz.nz2 rfl) rfl <| w_op rfl ?_
       refine x_store1 0 rfl rfl rfl Tryz.hi2 Tryz.cz2 rfl (by first | (simp; done) | (simp [intCells_len]; omega) | exact Nat.zero_lt_succ _) rfl ?_
       refine wsr <| w_val (v_loadBA 0 rfl uT109 rfl Tryz.hi109 Tryz.cz109 rfl) rfl <| w_op rfl ?_
       refine x_storeA 3 rfl rfl rfl Tryz.hi109 Tryz.cz109 rfl (by first | (simp [Value.oneCell', opCells]; done) | assumption | exact one_ints _ | exact one_resCells _ _ | exact one_slotC _) ?_
       refine wa rfl rfl <| w_nil ?_
       refine e_retQ (q_ret2 rfl (ResV.agg 3 rfl rfl (by rw [isAggD, uT109]; rfl) (Tryz.cz109) Tryz.hi109) (.tmp rfl) ?_)
       rw [Option.map_some, ho] at hone
       exact fun w' hw' => ⟨⟨kk, n0, 0, 0, n1⟩, fun o ho => (by rw [hone] at ho; injection ho), by rw [hone]; rfl, hw'.res.nil⟩
      ·have ho : opOf kk ns = ⟨kk, n0, n1, n2, 0⟩ := by unfold opOf; rw [if_neg hk1, hn0, hn1, hn2]
       refine e_condDF rfl (by omega) ?_
       refine e_draw ([.blk b7 158 (intCells (pad3 ns))]) Tryz.mixed ?_
       refine tk 0 rfl (v_indexAB uT158 Tryz.hi2 Tryz.cz2 rfl rfl (by first | omega | decide)) rfl ?_
       refine tk 1 rfl (v_loadB 0 rfl uT2 rfl rfl p1) rfl ?_
       refine tk 2 rfl (v_indexAB uT158 Tryz.hi2 Tryz.cz2 rfl rfl (by first | omega | decide)) rfl ?_
       refine tk 3 rfl (v_loadB 0 rfl uT2 rfl rfl p2) rfl <| tk 4 rfl (v_fieldAddrB (o := 2) uT109 rfl rfl Tryz.nz3 rfl) rfl <| t1 5 rfl rfl ?_
       refine x_store1 0 rfl rfl rfl Tryz.hi3 Tryz.cz3 rfl (by first | (simp; done) | (simp [intCells_len]; omega) | exact Nat.zero_lt_succ _) rfl ?_
       refine tn <| tk 6 rfl (v_fieldAddrB (o := 3) uT109 rfl rfl Tryz.nz3 rfl) rfl <| t1 7 rfl rfl ?_
       refine x_store1 0 rfl rfl rfl Tryz.hi3 Tryz.cz3 rfl (by first | (simp; done) | (simp [intCells_len]; omega) | exact Nat.zero_lt_succ _) rfl ?_
       refine tn <| td <| esr <| w_val (v_loadBA 0 rfl uT109 rfl Tryz.hi109 Tryz.cz109 rfl) rfl <| w_op rfl ?_
       refine x_storeA 3 rfl rfl rfl Tryz.hi109 Tryz.cz109 rfl (by first | (simp [Value.oneCell', opCells]; done) | assumption | exact one_ints _ | exact one_resCells _ _ | exact one_slotC _) ?_
       refine wa rfl rfl <| w_nil ?_
       refine e_retQ (q_ret2 rfl (ResV.agg 3 rfl rfl (by rw [isAggD, uT109]; rfl) (Tryz.cz109) Tryz.hi109) (.tmp rfl) ?_)
       rw [Option.map_some, ho] at hone
       exact fun w' hw' => ⟨⟨kk, n0, n1, n2, 0⟩, fun o ho => (by rw [hone] at ho; injection ho), by rw [hone]; rfl, hw'.res.nil⟩
end Go.SL
end
