/- YtebdkaadbakhlaaGreatDoor: part RF2 of this seat's own texts: WHATEVER THE INPUT, the law F2 returns true and leaves what was there; no condition. -/
import Derived.Test.YtebdkaadbakhlaaGreatDoorRfB
import Derived.Test.YtebdkaadbakhlaaGreatDoorDK5
import Derived.Test.YtebdkaadbakhlaaGreatDoorP5
set_option linter.unusedVariables false
set_option linter.unusedSimpArgs false
section
open Go Go.Proofs Go.SL Go.RowKit
set_option maxRecDepth 100000
set_option maxHeartbeats 4000000
namespace Go.SL
theorem do_fault (d : DkL) (l : List (List UInt8)) : (doLs d l).2.2 = faultLs l := by
 unfold doLs
 split
 ·rfl
 ·rename_i h
  simp only [ne_eq, Decidable.not_not] at h
  have h150 : l.length ≤ 150 := by
   rcases Nat.lt_or_ge 150 l.length with h2 | h2
   ·unfold faultLs at h; rw [if_pos h2] at h; exact absurd h (by decide)
   ·exact h2
  exact (fault_pair h150 h).symm
theorem rLinesFault_spec (v : Value) (l : List (List UInt8)) (w : World) (hv : IsStrs w.cell? v l) (hs : ∀ s ∈ l, s.length ≤ 9000) (hl : l.length ≤ 1000) :
  Calls Tryz.prog 8 #[v] w fun e w' => e = .returned (faultV (faultLs l)) ∧ Res w [] [] w' := by
 rw [← off_none w] at hv
 obtain ⟨Al, kl, rfl, hkl, _, _⟩ := id hv
 refine enter0 (N := 34) Tryz.func8 rfl rfl rfl <| esr <| w_op rfl ?_
 refine x_alloc (z := .agg #[.int .i64 0, .int .i64 0]) (by intro w; exact Tryz.zeroValue42 w) rfl (fun b2 => ?_)
 refine w_nil <| e_seq <| esr <| wm rfl rfl <| w_val (v_lenS uT22 rfl) rfl <| w_val (v_gtr rfl rfl) rfl <| w_nil ?_
 by_cases h150 : 150 < l.length
 ·rw [show faultLs l = (4, -1) from by unfold faultLs; rw [if_pos h150]]
  refine e_condDT rfl (by omega) ?_
  refine esr <| w_op rfl ?_
  refine x_call0 (v := faultV (4, -1)) rfl rfl rfl Tryz.call15 rfl (fun w hw => F_spec _ _ w) ?_
  refine w_op rfl ?_
  refine x_storeA (vs := #[.int .i64 4, .int .i64 (-1)]) 0 rfl rfl rfl Tryz.hi42 Tryz.cz42 rfl (by simp [Value.oneCell']) ?_
  refine w_nil ?_
  refine e_retQ (q_ret1 rfl (ResV.agg 0 rfl rfl (by rw [isAggD, uT42]; rfl) (Tryz.cz42) Tryz.hi42) ?_)
  exact fun w' hw' => ⟨rfl, hw'.res.nil⟩
 ·rw [show faultLs l = nlAt 0 l from by unfold faultLs; rw [if_neg h150]]
  refine e_condDF rfl (by omega) ?_
  refine e_skip <| e_seq <| esr <| wa rfl rfl <| w_nil <| e_block ?_
  refine e_loopK (σ := Nat) [0, 2] (.cons rfl (.cons rfl .nil)) (fun i => [(3, .int .i64 (i : Int))]) (fun i => i ≤ l.length ∧ nlAt i (l.drop i) = nlAt 0 l) (fun i => l.length - i) 0 ⟨Nat.zero_le _, rfl⟩ (by repeat first | exact .nil _ | refine .cons rfl ?_) ?_
  rintro i ⟨hi, hnl⟩
  refine e_seq <| esr <| wm rfl rfl <| wm rfl rfl <| w_val (v_lenS uT22 rfl) rfl <| w_val (v_lss rfl rfl) rfl <| w_nil ?_
  refine e_condD rfl (fun hlt => ?_) (fun hlt => ?_)
  ·have hi' : i < l.length := by omega
   rw [nlAt_at hi'] at hnl
   have hsl := hs _ (List.getElem_mem hi')
   obtain ⟨ad, rfl, hcell⟩ := IsStrs.cell hv hi'
   generalize l[i] = t at *
   refine e_skip <| e_seq <| e_block <| esr <| wa rfl rfl <| w_nil <| e_block ?_
   refine e_loopK (σ := Nat) [0, 2, 3] (.cons rfl (.cons rfl (.cons rfl .nil))) (fun k => [(4, .int .i64 (k : Int))]) (fun k => k ≤ t.length ∧ ∀ j (hj : j < k), t[j]? ≠ some 10) (fun k => t.length - k) 0 ⟨Nat.zero_le _, fun j hj => absurd hj (Nat.not_lt_zero j)⟩ (by repeat first | exact .nil _ | refine .cons rfl ?_) ?_
   rintro k ⟨hk, hno⟩
   refine e_seq <| esr <| wm rfl rfl <| wm rfl rfl <| wm rfl rfl ?_
   refine w_val (v_indexS uT22 Tryz.hi9 Tryz.cz9 rfl rfl (by first | omega | decide)) rfl ?_
   refine w_val (v_loadO uT9 rfl rfl (hcell)) rfl <| w_val (v_strLen uT9 rfl) rfl <| w_val (v_lss rfl rfl) rfl <| w_nil ?_
   refine e_condD rfl (fun hlt2 => ?_) (fun hlt2 => ?_)
   ·have hk' : k < t.length := by omega
    have hat : t[((k : Int)).toNat]? = some t[k] := by rw [Int.toNat_natCast]; exact List.getElem?_eq_getElem hk'
    refine e_skip <| e_seq <| e_block <| esr <| wm rfl rfl <| wm rfl rfl ?_
    refine w_val (v_indexS uT22 Tryz.hi9 Tryz.cz9 rfl rfl (by first | omega | decide)) rfl ?_
    refine w_val (v_loadO uT9 rfl rfl (hcell)) rfl <| wm rfl rfl ?_
    refine w_val (v_strAt uT9 rfl rfl (by omega) hat) rfl ?_
    by_cases hb : t[k] = 10
    ·have hmem : 10 ∈ t := hb ▸ List.getElem_mem hk'
     rw [if_pos hmem] at hnl
     rw [← hnl]
     refine w_val (v_is (v' := .bool true) (v_eql rfl rfl) (by rw [decide_eq_true (by rw [hb]; rfl)])) rfl ?_
     refine w_nil <| e_condT rfl <| esr <| wm rfl rfl <| w_op rfl ?_
     refine x_call0 (v := faultV (11, (i : Int))) rfl rfl rfl Tryz.call15 rfl (fun w hw => F_spec _ _ w) ?_
     refine w_op rfl ?_
     refine x_storeA (vs := #[.int .i64 11, .int .i64 (i : Int)]) 0 rfl rfl rfl Tryz.hi42 Tryz.cz42 rfl (by simp [Value.oneCell']) ?_
     refine w_nil ?_
     refine e_retQ (q_ret1 rfl (ResV.agg 0 rfl rfl (by rw [isAggD, uT42]; rfl) (Tryz.cz42) Tryz.hi42) ?_)
     exact fun w' hw' => ⟨rfl, hw'.res.nil⟩
    ·have hb2 : ¬ ((t[k].toNat : Nat) : Int) = 10 := fun h => hb ((byte_eq' _ 10).1 h)
     refine w_val (v_is (v' := .bool false) (v_eql rfl rfl) (by rw [decide_eq_false hb2])) rfl ?_
     refine w_nil <| e_condF rfl <| e_skip <| e_blk <| e_region <| wm rfl rfl ?_
     refine w_val (v_add rfl rfl (by omega)) rfl ?_
     refine wa rfl rfl <| w_nil ?_
     exact e_round (k + 1) (⟨by omega, fun j hj => by rcases Nat.lt_or_ge j k with h | h; exact hno j h; rw [show j = k from by omega, List.getElem?_eq_getElem hk']; exact fun e => hb (Option.some.inj e)⟩) (by omega) (by repeat first | exact .nil _ | refine .cons rfl ?_) (fun _ hw => hw)
   ·have e : k = t.length := by omega
    subst e
    have hnm : 10 ∉ t := fun hm => by
     obtain ⟨j, hj, e⟩ := List.getElem_of_mem hm
     exact hno j hj (by rw [List.getElem?_eq_getElem hj, e])
    rw [if_neg hnm] at hnl
    refine e_exit rfl <| e_blk <| e_region <| wm rfl rfl ?_
    refine w_val (v_add rfl rfl (by omega)) rfl ?_
    refine wa rfl rfl <| w_nil ?_
    exact e_round (i + 1) (⟨by omega, hnl⟩) (by omega) (by repeat first | exact .nil _ | refine .cons rfl ?_) (fun _ hw => hw)
  ·have e : i = l.length := by omega
   subst e
   rw [List.drop_length] at hnl
   rw [← hnl]
   refine e_exit rfl <| esr ?_
   refine w_val (v_build (v := faultV (0, 0)) _ rfl (by intro _; simp [Instr.build, Instr.fill, Tryz.zeroValue42, go_sem]; rfl)) rfl ?_
   refine w_op rfl ?_
   refine x_storeA 0 rfl rfl rfl Tryz.hi42 Tryz.cz42 rfl (by first | (simp [Value.oneCell', opCells]; done) | assumption | exact one_ints _ | exact one_resCells _ _ | exact one_slotC _) ?_
   refine w_nil ?_
   refine e_retQ (q_ret1 rfl (ResV.agg 0 rfl rfl (by rw [isAggD, uT42]; rfl) (Tryz.cz42) Tryz.hi42) ?_)
   exact fun w' hw' => ⟨rfl, hw'.res.nil⟩
theorem rDo_spec (s : Nat) (x : RdS) (d : DkL) (told : List UInt8) (v : Value) (l : List (List UInt8)) (N : Nat) (w : World) (h : ∀ c ∈ rdH s x d told, c.holds w) (hsep : (rdH s x d told).Pairwise Disj) (hv : IsStrs (SL.off w (feet (rdH s x d told))) v l) (hd : d.Ok N) (hN : N ≤ 500) (hL : LF w (feet (rdH s x d told))) (hNm : NamesV (SL.off w (feet (rdH s x d told)))) (hl : l.length ≤ 300) (hs : ∀ s ∈ l, s.length ≤ 9000) :
  Calls Tryz.prog 9 #[.pointer (some ⟨s, 0, none⟩), v] w fun e w' => ∃ x' : RdS, True ∧ e = .returned (strV (linesL d l).2) ∧ Res w (rdH s x d told) (rdH s x' (linesL d l).1 (linesL d l).2) w' := by
 obtain ⟨Al, kl, rfl, hkl, _, _⟩ := id hv
 have hz := stL_len d.q.L d.q.dn
 refine enter (mc := rdH s x d told) (N := 25) Tryz.func9 rfl rfl rfl ?_ ?_ ?_
 ·exact h
 ·exact hsep
 refine esr <| wa rfl rfl <| wsr <| wm rfl rfl <| wn rfl rfl <| w_val (v_fieldAddrB (o := 0) uT39 rfl rfl Tryz.nz9 rfl) rfl <| w_op rfl ?_
 refine x_store1 (v := strV []) 0 rfl rfl rfl Tryz.hi9 Tryz.cz9 rfl (by rw [chRd_len hz]; decide) rfl ?_
 refine w_nil <| e_seq <| esr <| wa rfl rfl <| w_nil <| e_block ?_
 refine e_loopH (σ := Nat × RdS) [0, 1] (.cons rfl (.cons rfl .nil)) (fun z => [(5, .int .i64 (z.1 : Int))]) (fun z => rdH s z.2 (linesL d (l.take z.1)).1 (linesL d (l.take z.1)).2) (fun z => z.1 ≤ l.length) (fun z => l.length - z.1) (0, x) (Nat.zero_le _) (by repeat first | exact .nil _ | refine .cons rfl ?_) (fun _ hw => hw) ?_
 rintro ⟨i, z⟩ hi
 dsimp only at hi ⊢
 refine e_seq <| esr <| wm rfl rfl <| wm rfl rfl <| w_val (v_lenS uT22 rfl) rfl <| w_val (v_lss rfl rfl) rfl <| w_nil ?_
 refine e_condD rfl (fun hlt => ?_) (fun hlt => ?_)
 ·have hi' : i < l.length := by omega
  obtain ⟨ad, rfl, hcell⟩ := IsStrs.cell hv hi'
  have hsl := hs _ (List.getElem_mem hi')
  have hsn := linesL_snoc d (l.take i) l[i]
  rw [← List.take_succ_eq_append_getElem hi'] at hsn
  have hok := lines_ok (l.take i) hd
  have hll := lines_len (l.take i) hd (fun s hs' => by have := hs s (List.mem_of_mem_take hs'); omega)
  rw [List.length_take] at hok hll
  have hmn : min i l.length ≤ 300 := by omega
  have hml : 20000 * min i l.length ≤ 20000 * 300 := Nat.mul_le_mul_left _ hmn
  generalize l[i] = t at *
  generalize linesL d (l.take i) = dt at *
  obtain ⟨di, ti⟩ := dt
  dsimp only at hok hll hsn ⊢
  refine e_skip <| e_seq <| e_block <| e_region <| wm rfl rfl <| wm rfl rfl <| wm rfl rfl ?_
  refine w_val (v_indexS uT22 Tryz.hi9 Tryz.cz9 rfl rfl (by first | omega | decide)) rfl ?_
  refine w_val (v_loadO uT9 rfl rfl (hcell)) rfl <| w_op rfl ?_
  refine g_heap (m' := rdH s z di ti ++ []) (fun _ hw => hw) ?_; refine x_call (dst := some 20) (mc := rdH s z di ti) (mr := []) (σ := RdS) (fun _ => True) (fun _ => .tuple #[]) (fun x' => rdH s x' (lineL di t).1 (ti ++ (lineL di t).2)) rfl rfl rfl Tryz.call16 (fun w hw => rLine_spec s z di ti t _ w (res_part hw).1 (res_part hw).2 hok (by omega) (hL.part hw) (NamesV.mono (hw.offm (fun c hc => List.mem_append_left _ hc)) hNm) (by omega) hsl) rfl (fun x' _ => ?_)
  refine w_nil <| e_blk <| e_region <| wm rfl rfl ?_
  refine w_val (v_add rfl rfl (by omega)) rfl ?_
  refine wa rfl rfl <| w_nil ?_
  exact e_round ((i + 1, x')) (by dsimp only; omega) (by dsimp only; omega) (by repeat first | exact .nil _ | refine .cons rfl ?_) (fun _ hw => by dsimp only; rw [hsn]; exact hw)
 ·have e : i = l.length := by omega
  subst e
  rw [List.take_length]
  generalize linesL d l = dt at *
  obtain ⟨di, ti⟩ := dt
  dsimp only
  refine e_exit rfl <| esr <| wm rfl rfl <| wn rfl rfl <| w_val (v_fieldAddrB (o := 0) uT39 rfl rfl Tryz.nz9 rfl) rfl <| w_val (v_loadB 0 rfl uT9 rfl rfl rfl) rfl <| wa rfl rfl <| w_nil ?_
  refine e_retQ (q_ret1 rfl (.tmp rfl) ?_)
  exact fun w' hw' => ⟨z, trivial, rfl, hw'.res⟩
end Go.SL
end
section
open Go Go.Proofs Go.SL Go.RowKit
set_option maxRecDepth 100000
set_option maxHeartbeats 8000000
namespace Go.SL
theorem do_none {d : DkL} {l : List (List UInt8)} (h : (doLs d l).2.2.1 ≠ 0) : doLs d l = (d, [], (doLs d l).2.2) := by
 rw [do_fault] at h ⊢
 unfold doLs
 rw [if_pos h]
theorem do_some {d : DkL} {l : List (List UInt8)} (h : (doLs d l).2.2.1 = 0) : doLs d l = ((linesL d l).1, (linesL d l).2, (0, 0)) := by
 rw [do_fault] at h
 unfold doLs
 rw [if_neg (fun e => e h)]
theorem St.rd0 {w0 w : World} {F : Nat → Prop} {m : Hp} {b : Nat} (h : St w0 F (.blk b 39 (chRd (strV []) (.slice none 0 0) (.slice none 0 0) 0 0 zero10 (.slice none 0 0)) :: m) w) : St w0 F (rdH b ⟨.slice none 0 0, [], feet [], .slice none 0 0, [], feet [], .slice none 0 0⟩ dk0 [] ++ m) w := by
 have h1 := ((((h.keep0 (Deeds [] []) Deeds.nil).rowNil 80 1).ownNil 96 5).keep0 (Rounds [] []) Rounds.nil).rowNil 37 1
 refine h1.perm ?_
 simp only [List.append, List.cons_append, List.nil_append]
 have e := List.perm_append_comm (l₁ := [Rw (.slice none 0 0) 37 1 0 [], Keep (feet []) (Rounds [] []), Own (.slice none 0 0) 96 5 0 [], Rw (.slice none 0 0) 80 1 0 [], Keep (feet []) (Deeds [] [])]) (l₂ := [Chunk.blk b 39 (chRd (strV []) (.slice none 0 0) (.slice none 0 0) 0 0 zero10 (.slice none 0 0))])
 exact e.append_right m
structure DdS where
 y : DkS
 x : RdS
 d : DkL
 told : List UInt8
theorem DeskDoes_spec (v1 v2 : Value) (a b : List (List UInt8)) (w : World) (hv1 : IsStrs w.cell? v1 a) (hv2 : IsStrs w.cell? v2 b) (hs1 : ∀ s ∈ a, s.length ≤ 140737488355328) (hs2 : ∀ s ∈ b, s.length ≤ 140737488355328) (hL : LF w (feet [])) (hN : NamesV w.cell?) :
  Calls Tryz.prog 3 #[v1, v2] w fun e w' => e = .returned (.bool true) ∧ Res w [] [] w' := by
 rw [← off_none w] at hv1 hv2 hN
 obtain ⟨Aa, ka, rfl, hka, _, _⟩ := id hv1
 obtain ⟨Ab, kb, rfl, hkb, _, _⟩ := id hv2
 refine enter0 (N := 79) Tryz.func3 rfl rfl rfl <| esr <| wa rfl rfl <| w_nil <| e_seq <| esr <| w_op rfl ?_
 refine x_call0 (v := .bool true) rfl rfl rfl Tryz.call4 rfl (fun w hw => deskBegun_spec w (hL.at hw (fun c hc => by cases hc))) ?_
 refine w_val (v_is (v' := .bool false) (v_not rfl) (by rfl)) rfl ?_
 refine w_nil <| e_condF rfl <| e_skip <| e_seq <| e_seq ?_
 by_cases h1 : 200 < a.length
 ·refine e_region <| wm rfl rfl <| w_val (v_lenS uT22 rfl) rfl ?_
  refine w_val (v_is (v' := .bool true) (v_gtr rfl rfl) (by rw [decide_eq_true (by omega)])) rfl ?_
  refine wm rfl rfl <| w_skip rfl rfl rfl rfl <| w_skip rfl rfl rfl rfl <| w_skip rfl rfl rfl rfl <| w_val (v_pickT rfl rfl) rfl <| wm rfl rfl <| w_skip rfl rfl rfl rfl <| w_skip rfl rfl rfl rfl <| w_val (v_pickT rfl rfl) rfl <| wm rfl rfl <| w_skip rfl rfl rfl rfl <| w_skip rfl rfl rfl rfl <| w_val (v_pickT rfl rfl) rfl <| w_nil <| e_condT rfl <| esr <| wa rfl rfl <| w_nil ?_
  refine e_retQ (q_ret1 rfl (.tmp rfl) ?_)
  exact fun w' hw' => ⟨rfl, hw'.res.nil⟩
 by_cases h2 : 200 < b.length
 ·refine e_region <| wm rfl rfl <| w_val (v_lenS uT22 rfl) rfl ?_
  refine w_val (v_is (v' := .bool false) (v_gtr rfl rfl) (by rw [decide_eq_false (by omega)])) rfl ?_
  refine wm rfl rfl <| w_want rfl rfl <| wm rfl rfl <| w_want rfl rfl <| w_val (v_lenS uT22 rfl) rfl <| w_want rfl rfl ?_
  refine w_val (v_is (v' := .bool true) (v_gtr rfl rfl) (by rw [decide_eq_true (by omega)])) rfl ?_
  refine w_val (v_pickF rfl rfl) rfl <| wm rfl rfl <| w_skip rfl rfl rfl rfl <| w_skip rfl rfl rfl rfl <| w_val (v_pickT rfl rfl) rfl <| wm rfl rfl <| w_skip rfl rfl rfl rfl <| w_skip rfl rfl rfl rfl <| w_val (v_pickT rfl rfl) rfl <| w_nil <| e_condT rfl <| esr <| wa rfl rfl <| w_nil ?_
  refine e_retQ (q_ret1 rfl (.tmp rfl) ?_)
  exact fun w' hw' => ⟨rfl, hw'.res.nil⟩
 refine e_region <| wm rfl rfl <| w_val (v_lenS uT22 rfl) rfl ?_
 refine w_val (v_is (v' := .bool false) (v_gtr rfl rfl) (by rw [decide_eq_false (by omega)])) rfl ?_
 refine wm rfl rfl <| w_want rfl rfl <| wm rfl rfl <| w_want rfl rfl <| w_val (v_lenS uT22 rfl) rfl <| w_want rfl rfl ?_
 refine w_val (v_is (v' := .bool false) (v_gtr rfl rfl) (by rw [decide_eq_false (by omega)])) rfl ?_
 refine w_val (v_pickF rfl rfl) rfl <| wm rfl rfl <| w_want rfl rfl <| wm rfl rfl <| w_want rfl rfl <| w_op rfl ?_
 refine x_call (dst := some 24) (mc := []) (σ := Bool) (fun b => b = false → ∀ s ∈ a, s.length ≤ 9000) (fun b => .bool b) (fun _ => []) rfl rfl rfl Tryz.call5 (fun w hw => slow_spec _ a w (Rds.mono hw.off hv1) hs1 (by omega)) rfl (fun c1 hc1 => ?_)
 refine w_val (v_pickF rfl rfl) rfl <| wm rfl rfl ?_
 cases c1 with
 | true =>
  refine w_skip rfl rfl rfl rfl <| w_skip rfl rfl rfl rfl <| w_val (v_pickT rfl rfl) rfl <| w_nil ?_
  refine e_condDT rfl (by omega) ?_
  refine esr <| wa rfl rfl <| w_nil ?_
  refine e_retQ (q_ret1 rfl (.tmp rfl) ?_)
  exact fun w' hw' => ⟨rfl, hw'.res.nil⟩
 | false =>
 refine w_want rfl rfl <| wm rfl rfl <| w_want rfl rfl <| w_op rfl ?_
 refine x_call (dst := some 28) (mc := []) (σ := Bool) (fun c => c = false → ∀ s ∈ b, s.length ≤ 9000) (fun c => .bool c) (fun _ => []) rfl rfl rfl Tryz.call5 (fun w hw => slow_spec _ b w (Rds.mono hw.off hv2) hs2 (by omega)) rfl (fun c2 hc2 => ?_)
 refine w_val (v_pickF rfl rfl) rfl <| w_nil ?_
 cases c2 with
 | true =>
  refine e_condT rfl <| esr <| wa rfl rfl <| w_nil ?_
  refine e_retQ (q_ret1 rfl (.tmp rfl) ?_)
  exact fun w' hw' => ⟨rfl, hw'.res.nil⟩
 | false =>
 have ha9 := hc1 rfl
 have hb9 := hc2 rfl
 refine e_condF rfl <| e_skip <| esr <| w_op rfl ?_
 refine x_call (dst := some 30) (mc := []) (σ := Nat × DkS) (fun _ => True) (fun z => .pointer (some ⟨z.1, 0, none⟩)) (fun z => dkI z.1 z.2 dk0) rfl rfl rfl Tryz.call6 (fun w _ => dkNew_spec w) rfl (fun z _ => ?_); obtain ⟨p1, x1⟩ := z; dsimp only
 refine wa rfl rfl <| wsr ?_
 refine w_val (v_build (v := .agg (chRd (strV []) (.slice none 0 0) (.slice none 0 0) 0 0 zero10 (.slice none 0 0)).toArray) _ rfl (by intro _; simp [Instr.build, Instr.fill, Tryz.zeroValue39, go_sem]; rfl)) rfl ?_
 refine w_op rfl ?_
 refine x_box rfl rfl (fun b32 => ?_)
 refine wa rfl rfl <| wsr <| wm rfl rfl <| wm rfl rfl <| w_op rfl ?_
 refine x_buildSlice _ ([.slice Aa a.length ka, .slice Ab b.length kb]) rfl (run_buildSlice uT40 Tryz.hi22 Tryz.cz22 Tryz.zeroValue22 rfl (by kernel_rfl)) rfl (fun b35 => ?_)
 refine wa rfl rfl <| w_nil <| e_seq <| esr <| wa rfl rfl <| w_nil ?_
 refine g_heap (m' := Chunk.blk b35 22 [.slice Aa a.length ka, .slice Ab b.length kb] :: (rdH b32 ⟨.slice none 0 0, [], feet [], .slice none 0 0, [], feet [], .slice none 0 0⟩ dk0 [] ++ dkI p1 x1 dk0)) (fun _ hw => by
  have h1 : St _ _ (.blk b32 39 (chRd (strV []) (.slice none 0 0) (.slice none 0 0) 0 0 zero10 (.slice none 0 0)) :: (dkI p1 x1 dk0 ++ [Chunk.blk b35 22 [.slice Aa a.length ka, .slice Ab b.length kb]])) _ := hw.pick [1, 2, 3, 4, 5, 6, 7, 8, 9, 0] (by decide)
  exact h1.rd0.pick [14, 0, 1, 2, 3, 4, 5, 6, 7, 8, 9, 10, 11, 12, 13] (by decide)) ?_
 refine e_block ?_
 refine e_loopH (σ := Nat × DdS) [5, 6, 7] (.cons rfl (.cons rfl (.cons rfl .nil))) (fun z => [(8, .int .i64 (z.1 : Int))]) (fun z => Chunk.blk b35 22 [.slice Aa a.length ka, .slice Ab b.length kb] :: (rdH b32 z.2.x z.2.d z.2.told ++ dkI p1 z.2.y z.2.d)) (fun z => z.1 ≤ 2 ∧ z.2.d.Ok (200 * z.1)) (fun z => 2 - z.1) (0, ⟨x1, ⟨.slice none 0 0, [], feet [], .slice none 0 0, [], feet [], .slice none 0 0⟩, dk0, []⟩) ⟨Nat.zero_le _, dk0_ok⟩ (by repeat first | exact .nil _ | refine .cons rfl ?_) (fun _ hw => hw) ?_
 rintro ⟨i, z⟩ ⟨hi, hok⟩
 dsimp only at hi hok ⊢
 obtain ⟨y, x, d, told⟩ := z
 dsimp only at hok ⊢
 refine e_seq <| esr <| wm rfl rfl <| w_val (v_lss rfl rfl) rfl <| w_nil ?_
 refine e_condD rfl (fun hlt => ?_) (fun hlt => ?_)
 ·obtain ⟨vv, ll, hcell, hvv, hll, hl9⟩ : ∃ (vv : Value) (ll : List (List UInt8)), [Value.slice Aa a.length ka, Value.slice Ab b.length kb][0 + ((i : Int)).toNat * 1]? = some vv ∧ IsStrs (SL.off w (feet [])) vv ll ∧ ll.length ≤ 200 ∧ ∀ s ∈ ll, s.length ≤ 9000 := by
   have : i = 0 ∨ i = 1 := by omega
   rcases this with rfl | rfl
   ·exact ⟨_, a, rfl, hv1, by omega, ha9⟩
   ·exact ⟨_, b, rfl, hv2, by omega, hb9⟩
  have hfl := do_fault d ll
  have hdo := fun (w1 : World) h1 h2 (h3 : IsStrs (SL.off w1 (feet (dkI p1 y d))) vv ll) h4 => dkDo_spec p1 y d vv ll (200 * i) w1 h1 h2 h3 hok (by omega) h4 (by omega) hl9
  have hrdo := fun (w1 : World) h1 h2 (h3 : IsStrs (SL.off w1 (feet (rdH b32 x d told))) vv ll) h4 h5 => rDo_spec b32 x d told vv ll (200 * i) w1 h1 h2 h3 hok (by omega) h4 h5 (by omega) hl9
  have hok1 := (doLs_ok hok ll).mono (M := 200 * (i + 1)) (by omega)
  have hnone := fun h => do_none (d := d) (l := ll) h
  have hsome := fun h => do_some (d := d) (l := ll) h
  have hlf := fun (w1 : World) h3 => rLinesFault_spec vv ll w1 h3 hl9 (by omega)
  rw [← hfl] at hlf
  clear hfl
  generalize doLs d ll = R at *
  obtain ⟨d2, t2, f⟩ := R
  dsimp only at hdo hok1 hnone hsome hlf
  refine e_skip <| e_seq <| e_block <| esr <| wm rfl rfl <| wm rfl rfl <| wm rfl rfl ?_
  refine w_val (v_indexSB uT40 Tryz.hi22 Tryz.cz22 rfl rfl (by omega)) rfl ?_
  refine w_val (v_loadB 0 rfl uT22 rfl rfl hcell) rfl <| w_op rfl ?_
  refine g_heap (m' := dkI p1 y d ++ (Chunk.blk b35 22 [.slice Aa a.length ka, .slice Ab b.length kb] :: rdH b32 x d told)) (fun _ hw => hw.pick [7, 8, 9, 10, 11, 12, 13, 14, 0, 1, 2, 3, 4, 5, 6] (by decide)) ?_; refine x_call (dst := some 46) (mc := dkI p1 y d) (mr := Chunk.blk b35 22 [.slice Aa a.length ka, .slice Ab b.length kb] :: rdH b32 x d told) (σ := DkS) (fun x' => x'.y.p = y.y.p) (fun _ => .tuple #[strV t2, .agg #[.int .i64 f.1, .int .i64 f.2]]) (fun x' => dkI p1 x' d2) rfl rfl rfl Tryz.call7 (fun w hw => hdo w (res_part hw).1 (res_part hw).2 (Rds.mono (hw.offm (fun c hc => List.mem_append_left _ hc)) hvv) (hL.part hw)) rfl (fun y2 _ => ?_)
  refine wm rfl rfl <| w_val (v_extract rfl rfl) rfl <| w_val (v_extract rfl rfl) rfl <| w_op rfl ?_
  refine x_alloc (z := .agg #[.int .i64 0, .int .i64 0]) (by intro w; exact Tryz.zeroValue42 w) rfl (fun b10 => ?_)
  refine wa rfl rfl <| w_op rfl ?_
  refine x_storeA (vs := #[.int .i64 f.1, .int .i64 f.2]) 0 rfl rfl rfl Tryz.hi42 Tryz.cz42 rfl (by simp [Value.oneCell']) ?_
  refine wsr <| wm rfl rfl <| wm rfl rfl ?_
  refine w_val (v_indexSB uT40 Tryz.hi22 Tryz.cz22 rfl rfl (by omega)) rfl ?_
  refine w_val (v_loadB 9 rfl uT22 rfl rfl hcell) rfl <| w_op rfl ?_
  refine x_call0 (v := .agg #[.int .i64 f.1, .int .i64 f.2]) rfl rfl rfl Tryz.call8 rfl (fun w hw => hlf w (Rds.mono hw.off hvv)) ?_
  refine w_op rfl ?_
  refine x_alloc (z := .agg #[.int .i64 0, .int .i64 0]) (by intro w; exact Tryz.zeroValue42 w) rfl (fun b11 => ?_)
  refine w_op rfl ?_
  refine x_storeA (vs := #[.int .i64 f.1, .int .i64 f.2]) 0 rfl rfl rfl Tryz.hi42 Tryz.cz42 rfl (by simp [Value.oneCell']) ?_
  refine w_nil <| e_seq <| e_seq ?_
  by_cases hf : f.1 = 0
  ·have hs := hsome hf
   injection hs with e1 e2
   injection e2 with e2 e3
   refine e_region <| w_val (v_loadBA 1 rfl uT42 rfl Tryz.hi42 Tryz.cz42 rfl) rfl <| w_val (v_loadBA 0 rfl uT42 rfl Tryz.hi42 Tryz.cz42 rfl) rfl ?_
   refine w_val (v_is (v' := .bool false) (v_neqTwo (ti := 3) uT42 (by kernel_rfl) (by kernel_rfl) (by kernel_rfl) rfl rfl uT3 (o := (f.1, f.2)) (o' := (f.1, f.2)) rfl rfl) (by simp)) rfl ?_
   refine wm rfl rfl <| w_want rfl rfl <| w_val (v_fieldAddrB (o := 0) uT42 rfl rfl Tryz.nz3 rfl) rfl <| w_want rfl rfl <| w_val (v_loadB 0 rfl uT3 rfl rfl rfl) rfl <| w_want rfl rfl ?_
   refine w_val (v_is (v' := .bool false) (v_neq rfl rfl) (by rw [decide_eq_false (fun h => h hf)])) rfl ?_
   refine w_want rfl rfl <| wm rfl rfl <| w_skip rfl rfl rfl rfl <| w_skip rfl rfl rfl rfl <| w_want rfl rfl <| w_val (v_pickF rfl rfl) rfl <| w_val (v_pickF rfl rfl) rfl <| w_nil <| e_condF rfl <| e_skip <| e_seq <| e_region <| w_val (v_fieldAddrB (o := 0) uT42 rfl rfl Tryz.nz3 rfl) rfl <| w_val (v_loadB 0 rfl uT3 rfl rfl rfl) rfl ?_
   refine w_val (v_is (v' := .bool true) (v_eql rfl rfl) (by rw [decide_eq_true hf])) rfl ?_
   refine wm rfl rfl <| w_want rfl rfl <| wm rfl rfl <| w_want rfl rfl <| wm rfl rfl <| w_want rfl rfl <| wm rfl rfl <| w_want rfl rfl <| wm rfl rfl <| w_want rfl rfl ?_
   refine w_val (v_indexSB uT40 Tryz.hi22 Tryz.cz22 rfl rfl (by omega)) rfl ?_
   refine w_want rfl rfl <| w_val (v_loadB 10 rfl uT22 rfl rfl hcell) rfl <| w_want rfl rfl <| w_op rfl ?_
   refine g_heap (m' := rdH b32 x d told ++ (Chunk.blk b11 42 [.int .i64 f.1, .int .i64 f.2] :: Chunk.blk b10 42 [.int .i64 f.1, .int .i64 f.2] :: Chunk.blk b35 22 [.slice Aa a.length ka, .slice Ab b.length kb] :: dkI p1 y2 d2)) (fun _ hw => hw.pick [11, 12, 13, 14, 15, 16, 0, 1, 10, 2, 3, 4, 5, 6, 7, 8, 9] (by decide)) ?_; refine x_call (dst := some 76) (mc := rdH b32 x d told) (mr := Chunk.blk b11 42 [.int .i64 f.1, .int .i64 f.2] :: Chunk.blk b10 42 [.int .i64 f.1, .int .i64 f.2] :: Chunk.blk b35 22 [.slice Aa a.length ka, .slice Ab b.length kb] :: dkI p1 y2 d2) (σ := RdS) (fun _ => True) (fun _ => strV (linesL d ll).2) (fun x' => rdH b32 x' (linesL d ll).1 (linesL d ll).2) rfl rfl rfl Tryz.call9 (fun w hw => hrdo w (res_part hw).1 (res_part hw).2 (Rds.mono (hw.offm (fun c hc => List.mem_append_left _ hc)) hvv) (hL.part hw) (NamesV.mono (hw.offm (fun c hc => List.mem_append_left _ hc)) hN)) rfl (fun x2 _ => ?_)
   refine w_want rfl rfl ?_
   refine w_val (v_is (v' := .bool false) (v_strNeq rfl rfl) (by rw [decide_eq_false (fun h => h e2)])) rfl ?_
   refine w_val (v_pickT rfl rfl) rfl <| w_nil <| e_condF rfl <| e_skip <| e_blk <| e_region <| wm rfl rfl ?_
   refine w_val (v_add rfl rfl (by omega)) rfl ?_
   refine wa rfl rfl <| w_nil ?_
   rw [← e1]
   exact e_round ((i + 1, ⟨y2, x2, d2, (linesL d ll).2⟩)) (⟨by dsimp only; omega, hok1⟩) (by dsimp only; omega) (by repeat first | exact .nil _ | refine .cons rfl ?_) (fun _ hw => hw.pick [8, 0, 1, 2, 3, 4, 5, 9, 10, 11, 12, 13, 14, 15, 16] (by decide))
  ·have hs := hnone hf
   injection hs with e1 e2
   injection e2 with e2 e3
   subst e1
   subst e2
   refine e_region <| w_val (v_loadBA 1 rfl uT42 rfl Tryz.hi42 Tryz.cz42 rfl) rfl <| w_val (v_loadBA 0 rfl uT42 rfl Tryz.hi42 Tryz.cz42 rfl) rfl ?_
   refine w_val (v_is (v' := .bool false) (v_neqTwo (ti := 3) uT42 (by kernel_rfl) (by kernel_rfl) (by kernel_rfl) rfl rfl uT3 (o := (f.1, f.2)) (o' := (f.1, f.2)) rfl rfl) (by simp)) rfl ?_
   refine wm rfl rfl <| w_want rfl rfl <| w_val (v_fieldAddrB (o := 0) uT42 rfl rfl Tryz.nz3 rfl) rfl <| w_want rfl rfl <| w_val (v_loadB 0 rfl uT3 rfl rfl rfl) rfl <| w_want rfl rfl ?_
   refine w_val (v_is (v' := .bool true) (v_neq rfl rfl) (by rw [decide_eq_true hf])) rfl ?_
   refine w_want rfl rfl <| wm rfl rfl <| w_want rfl rfl <| wm rfl rfl <| w_want rfl rfl ?_
   refine w_val (v_is (v' := .bool false) (v_strNeq rfl rfl) (by rfl)) rfl ?_
   refine w_want rfl rfl <| w_val (v_pickT rfl rfl) rfl <| w_val (v_pickF rfl rfl) rfl <| w_nil <| e_condF rfl <| e_skip <| e_seq <| e_region <| w_val (v_fieldAddrB (o := 0) uT42 rfl rfl Tryz.nz3 rfl) rfl <| w_val (v_loadB 0 rfl uT3 rfl rfl rfl) rfl ?_
   refine w_val (v_is (v' := .bool false) (v_eql rfl rfl) (by rw [decide_eq_false hf])) rfl ?_
   refine wm rfl rfl <| w_skip rfl rfl rfl rfl <| w_skip rfl rfl rfl rfl <| w_skip rfl rfl rfl rfl <| w_skip rfl rfl rfl rfl <| w_skip rfl rfl rfl rfl <| w_skip rfl rfl rfl rfl <| w_skip rfl rfl rfl rfl <| w_skip rfl rfl rfl rfl <| w_val (v_pickF rfl rfl) rfl <| w_nil <| e_condF rfl <| e_skip <| e_blk <| e_region <| wm rfl rfl ?_
   refine w_val (v_add rfl rfl (by omega)) rfl ?_
   refine wa rfl rfl <| w_nil ?_
   exact e_round ((i + 1, ⟨y2, x, d2, told⟩)) (⟨by dsimp only; omega, hok1⟩) (by dsimp only; omega) (by repeat first | exact .nil _ | refine .cons rfl ?_) (fun _ hw => hw.pick [10, 11, 12, 13, 14, 15, 16, 2, 3, 4, 5, 6, 7, 8, 9] (by decide))
 ·refine e_exit rfl <| esr <| wa rfl rfl <| w_nil ?_
  refine e_retQ (q_ret1 rfl (.tmp rfl) ?_)
  exact fun w' hw' => ⟨rfl, hw'.res.nil⟩
end Go.SL
end
