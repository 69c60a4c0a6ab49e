/- YtebdkaadbakhlaaGreatDoor: part WF of this seat's own texts. -/
import Derived.Test.YtebdkaadbakhlaaGreatDoorWE
import Derived.Test.YtebdkaadbakhlaaGreatDoorP5
set_option linter.unusedVariables false
set_option linter.unusedSimpArgs false
section
open Go Go.Proofs Go.SL
set_option maxRecDepth 100000
namespace Go.SL
theorem tabBefore_spec (p : Nat) (hs : Nat → Value) (T : TabL) (k by_ : Int) (w : World) (h : TbV w.cell? p hs T) (hn : ∀ k, k < 10 → (T k).length ≤ 1000) :
  Calls Tryz.prog 185 #[.pointer (some ⟨p, 0, none⟩), .int .i64 k, .int .i64 by_] w fun e w' => e = .returned (.tuple #[.int .i64 (befT T k by_).1, .int .i64 (befT T k by_).2]) ∧ Res w [] [] w' := by
 rw [← off_none w] at h
 refine enter0 (N := 50) Tryz.func185 rfl rfl rfl ?_
 by_cases hk : 0 ≤ k ∧ k < 10
 ·have hbt : befT T k by_ = befL (T k.toNat) by_ := by unfold befT; rw [if_pos hk]
  obtain ⟨k, rfl⟩ : ∃ n : Nat, k = n := ⟨k.toNat, by omega⟩
  have hk' : k < 10 := by omega
  have hl := hn k hk'
  obtain ⟨A, cap, _, hle, hhdr, hrow⟩ := h.at hk'
  rw [Int.toNat_natCast] at hbt
  rw [hbt]
  generalize T k = l at *
  refine esr <| wa rfl rfl <| wa rfl rfl <| w_nil <| e_seq <| esr <| wm rfl rfl <| w_op rfl ?_
  refine x_call0 (v := .bool true) rfl rfl rfl Tryz.call191 rfl (fun w hw => by have := tabKey_spec (k : Int) w; rwa [decide_eq_true hk] at this) ?_
  refine w_val (v_is (v' := .bool false) (v_not rfl) (by rfl)) rfl ?_
  refine w_nil <| e_condF rfl <| e_skip <| e_seq <| esr <| wm rfl rfl <| wm rfl rfl <| wn rfl rfl <| w_val (v_fieldAddrB (o := 0) uT228 rfl rfl Tryz.nz226 rfl) rfl ?_
  refine w_val (v_indexAB uT226 Tryz.hi225 Tryz.cz225 rfl rfl (by first | omega | decide)) rfl ?_
  refine w_val (v_loadO uT225 rfl rfl (hhdr)) rfl <| w_val (v_lenS uT225 rfl) rfl ?_
  refine w_val (v_sub rfl rfl (by omega)) rfl ?_
  refine wa rfl rfl <| w_nil <| e_block ?_
  refine e_loopK (σ := Nat) [0, 1, 2] (.cons rfl (.cons rfl (.cons rfl .nil))) (fun j => [(8, .int .i64 ((j : Int) - 1))]) (fun j => j ≤ l.length ∧ befL l by_ = befL (l.take j) by_) (fun j => j) l.length ⟨Nat.le_refl _, by rw [List.take_length]⟩ (by repeat first | exact .nil _ | refine .cons rfl ?_) ?_
  rintro j ⟨hj, hbef⟩
  refine e_seq <| esr <| wm rfl rfl <| w_val (v_geq rfl rfl) rfl <| w_nil ?_
  refine e_condD rfl (fun hge => ?_) (fun hge => ?_)
  ·obtain ⟨m, rfl⟩ : ∃ m, j = m + 1 := ⟨j - 1, by omega⟩
   have hm : m < l.length := by omega
   have hnext : l.take (m + 1) = l.take m ++ [l[m]] := List.take_succ_eq_append_getElem hm
   obtain ⟨ad, rfl, hcell⟩ := hrow m hm
   rw [hnext, befL_snoc] at hbef
   generalize l[m] = s at *
   unfold befStep at hbef
   refine e_skip <| e_seq <| e_block <| esr <| wm rfl rfl <| wm rfl rfl <| wn rfl rfl <| w_val (v_fieldAddrB (o := 0) uT228 rfl rfl Tryz.nz226 rfl) rfl ?_
   refine w_val (v_indexAB uT226 Tryz.hi225 Tryz.cz225 rfl rfl (by first | omega | decide)) rfl ?_
   refine w_val (v_loadO uT225 rfl rfl (hhdr)) rfl ?_
   refine w_val (v_is (v' := .int .i64 (m : Int)) (v_move rfl) (by congr 1; omega)) rfl ?_
   refine w_val (v_indexS uT225 Tryz.hi230 Tryz.cz230 rfl rfl (by first | omega | decide)) rfl ?_
   refine w_val (v_loadON uT230 rfl Tryz.hi230 rfl (hcell) Tryz.cz230) rfl <| w_op rfl ?_
   refine x_alloc (z := .agg #[.int .i64 0, .bool false, .bool false, .int .i64 0]) (by intro w; exact Tryz.zeroValue230 w) rfl (fun b9 => ?_)
   refine w_op rfl ?_
   refine x_storeA 0 rfl rfl rfl Tryz.hi230 Tryz.cz230 rfl (by first | (simp [Value.oneCell', opCells]; done) | assumption | exact one_ints _ | exact one_resCells _ _ | exact one_slotC _) ?_
   refine w_nil ?_
   by_cases hb : s.by_ < by_
   ·cases hv : s.vd with
    | true =>
     rw [if_neg (by rw [hv]; simp)] at hbef
     refine e_block <| e_seq <| e_region <| w_val (v_fieldAddrB (o := 0) uT230 rfl rfl Tryz.nz3 rfl) rfl <| w_val (v_loadB 0 rfl uT3 rfl rfl rfl) rfl <| wm rfl rfl ?_
     refine w_val (v_is (v' := .bool false) (v_geq rfl rfl) (by rw [decide_eq_false (by omega)])) rfl ?_
     refine wm rfl rfl <| w_want rfl rfl <| w_val (v_fieldAddrB (o := 2) uT230 rfl rfl Tryz.nz4 rfl) rfl <| w_want rfl rfl ?_
     refine w_val (v_is (v' := .bool true) (v_loadB 0 rfl uT4 rfl rfl rfl) (by rw [hv])) rfl ?_
     refine w_val (v_pickF rfl rfl) rfl <| wa rfl rfl <| w_nil <| e_condT rfl <| e_skip <| e_blk <| e_blk <| e_region <| wm rfl rfl ?_
     refine w_val (v_is (v' := .int .i64 ((m : Int) - 1)) (v_sub rfl rfl (by omega)) (by congr 1; omega)) rfl ?_
     refine wa rfl rfl <| w_nil ?_
     exact e_round (m) (⟨by omega, hbef⟩) (by omega) (by repeat first | exact .nil _ | refine .cons rfl ?_) (fun _ hw => hw.sub (List.sublist_cons_self _ _))
    | false =>
     rw [if_pos ⟨hb, hv⟩] at hbef
     cases ho : s.opn with
     | true =>
      rw [if_pos ho] at hbef
      refine e_block <| e_seq <| e_region <| w_val (v_fieldAddrB (o := 0) uT230 rfl rfl Tryz.nz3 rfl) rfl <| w_val (v_loadB 0 rfl uT3 rfl rfl rfl) rfl <| wm rfl rfl ?_
      refine w_val (v_is (v' := .bool false) (v_geq rfl rfl) (by rw [decide_eq_false (by omega)])) rfl ?_
      refine wm rfl rfl <| w_want rfl rfl <| w_val (v_fieldAddrB (o := 2) uT230 rfl rfl Tryz.nz4 rfl) rfl <| w_want rfl rfl ?_
      refine w_val (v_is (v' := .bool false) (v_loadB 0 rfl uT4 rfl rfl rfl) (by rw [hv])) rfl ?_
      refine w_val (v_pickF rfl rfl) rfl <| wa rfl rfl <| w_nil <| e_condF rfl <| esr <| w_val (v_fieldAddrB (o := 1) uT230 rfl rfl Tryz.nz4 rfl) rfl ?_
      refine w_val (v_is (v' := .bool true) (v_loadB 0 rfl uT4 rfl rfl rfl) (by rw [ho])) rfl ?_
      refine wa rfl rfl <| w_nil <| e_condT rfl <| e_seq <| e_draw ([.blk b9 230 (slotC s)]) Tryz.mixed <| tk 0 rfl (v_fieldAddrB (o := 0) uT230 rfl rfl Tryz.nz3 rfl) rfl <| tk 1 rfl (v_loadB 0 rfl uT3 rfl rfl rfl) rfl <| tk 2 rfl (v_assign rfl) rfl <| tk 3 rfl (v_assign rfl) rfl <| td ?_
      refine e_retQ (q_ret2 rfl (.tmp rfl) (.tmp rfl) ?_)
      exact fun w' hw' => ⟨by rw [hbef], hw'.res.nil⟩
     | false =>
      rw [if_neg (by simp [ho])] at hbef
      refine e_block <| e_seq <| e_region <| w_val (v_fieldAddrB (o := 0) uT230 rfl rfl Tryz.nz3 rfl) rfl <| w_val (v_loadB 0 rfl uT3 rfl rfl rfl) rfl <| wm rfl rfl ?_
      refine w_val (v_is (v' := .bool false) (v_geq rfl rfl) (by rw [decide_eq_false (by omega)])) rfl ?_
      refine wm rfl rfl <| w_want rfl rfl <| w_val (v_fieldAddrB (o := 2) uT230 rfl rfl Tryz.nz4 rfl) rfl <| w_want rfl rfl ?_
      refine w_val (v_is (v' := .bool false) (v_loadB 0 rfl uT4 rfl rfl rfl) (by rw [hv])) rfl ?_
      refine w_val (v_pickF rfl rfl) rfl <| wa rfl rfl <| w_nil <| e_condF rfl <| esr <| w_val (v_fieldAddrB (o := 1) uT230 rfl rfl Tryz.nz4 rfl) rfl ?_
      refine w_val (v_is (v' := .bool false) (v_loadB 0 rfl uT4 rfl rfl rfl) (by rw [ho])) rfl ?_
      refine wa rfl rfl <| w_nil <| e_condF rfl <| esr <| w_val (v_fieldAddrB (o := 3) uT230 rfl rfl Tryz.nz2 rfl) rfl <| w_val (v_loadB 0 rfl uT2 rfl rfl rfl) rfl <| wa rfl rfl <| wa rfl rfl <| w_nil ?_
      refine e_retQ (q_ret2 rfl (.tmp rfl) (.tmp rfl) ?_)
      exact fun w' hw' => ⟨by rw [hbef], hw'.res.nil⟩
   ·rw [if_neg (fun h => hb h.1)] at hbef
    refine e_block <| e_seq <| e_region <| w_val (v_fieldAddrB (o := 0) uT230 rfl rfl Tryz.nz3 rfl) rfl <| w_val (v_loadB 0 rfl uT3 rfl rfl rfl) rfl <| wm rfl rfl ?_
    refine w_val (v_is (v' := .bool true) (v_geq rfl rfl) (by rw [decide_eq_true (by omega)])) rfl ?_
    refine wm rfl rfl <| w_skip rfl rfl rfl rfl <| w_skip rfl rfl rfl rfl <| w_val (v_pickT rfl rfl) rfl <| wa rfl rfl <| w_nil <| e_condT rfl <| e_skip <| e_blk <| e_blk <| e_region <| wm rfl rfl ?_
    refine w_val (v_is (v' := .int .i64 ((m : Int) - 1)) (v_sub rfl rfl (by omega)) (by congr 1; omega)) rfl ?_
    refine wa rfl rfl <| w_nil ?_
    exact e_round (m) (⟨by omega, hbef⟩) (by omega) (by repeat first | exact .nil _ | refine .cons rfl ?_) (fun _ hw => hw.sub (List.sublist_cons_self _ _))
  ·have : j = 0 := by omega
   subst this
   rw [List.take_zero] at hbef
   refine e_exit rfl <| esr <| wa rfl rfl <| wa rfl rfl <| w_nil ?_
   refine e_retQ (q_ret2 rfl (.tmp rfl) (.tmp rfl) ?_)
   exact fun w' hw' => ⟨by rw [hbef]; rfl, hw'.res.nil⟩
 ·have hbt : befT T k by_ = (0, -1) := by unfold befT; rw [if_neg hk]
  rw [hbt]
  refine esr <| wa rfl rfl <| wa rfl rfl <| w_nil <| e_seq <| esr <| wm rfl rfl <| w_op rfl ?_
  refine x_call0 (v := .bool false) rfl rfl rfl Tryz.call191 rfl (fun w hw => by have := tabKey_spec (k : Int) w; rwa [decide_eq_false hk] at this) ?_
  refine w_val (v_is (v' := .bool true) (v_not rfl) (by rfl)) rfl ?_
  refine w_nil <| e_condT rfl <| esr <| wa rfl rfl <| wa rfl rfl <| w_nil ?_
  refine e_retQ (q_ret2 rfl (.tmp rfl) (.tmp rfl) ?_)
  exact fun w' hw' => ⟨rfl, hw'.res.nil⟩
end Go.SL
end
section
open Go Go.Proofs Go.SL
set_option maxRecDepth 100000
namespace Go.SL
def slotP (hs : Nat → Value) (T : TabL) (k by_ : Int) : Option Addr := if hasT T k by_ = true then (match hs k.toNat with | .slice A _ _ => A.map (fun a => a.add ((T k.toNat).findIdx (isO by_) * 4)) | _ => none) else none
theorem tabSlot_spec (p : Nat) (hs : Nat → Value) (T : TabL) (k by_ : Int) (w : World) (h : TbV w.cell? p hs T) (hn : ∀ k, k < 10 → (T k).length ≤ 1000) :
  Calls Tryz.prog 190 #[.pointer (some ⟨p, 0, none⟩), .int .i64 k, .int .i64 by_] w fun e w' => e = .returned (.pointer (slotP hs T k by_)) ∧ Res w [] [] w' := by
 rw [← off_none w] at h
 refine enter0 (N := 29) Tryz.func190 rfl rfl rfl ?_
 by_cases hk : 0 ≤ k ∧ k < 10
 ·have hht : hasT T k by_ = (T k.toNat).any (isO by_) := by unfold hasT; rw [decide_eq_true hk, Bool.true_and]
  obtain ⟨k, rfl⟩ : ∃ n : Nat, k = n := ⟨k.toNat, by omega⟩
  have hk' : k < 10 := by omega
  have hl := hn k hk'
  obtain ⟨A, cap, hhk, hle, hhdr, hrow⟩ := h.at hk'
  have hrw := h.row k hk'
  rw [hhk] at hrw
  unfold slotP
  rw [hht]
  rw [Int.toNat_natCast]
  rw [hhk]
  generalize T k = l at *
  refine esr <| w_op rfl ?_
  refine x_box rfl rfl (fun b5 => ?_)
  refine wa rfl rfl <| w_nil <| e_seq <| esr <| wm rfl rfl <| w_op rfl ?_
  refine x_call0 (v := .bool true) rfl rfl rfl Tryz.call191 rfl (fun w hw => by have := tabKey_spec (k : Int) w; rwa [decide_eq_true hk] at this) ?_
  refine w_val (v_is (v' := .bool false) (v_not rfl) (by rfl)) rfl ?_
  refine w_nil <| e_condF rfl <| e_skip <| esr <| wm rfl rfl <| wm rfl rfl <| wn rfl rfl <| w_val (v_fieldAddrB (o := 0) uT228 rfl rfl Tryz.nz226 rfl) rfl ?_
  refine w_val (v_indexAB uT226 Tryz.hi225 Tryz.cz225 rfl rfl (by first | omega | decide)) rfl ?_
  refine w_val (v_loadO uT225 rfl rfl (hhdr)) rfl <| w_val (v_makeFunc rfl) rfl ?_
  have hcl := fun (w : World) (hb : (Chunk.blk b5 3 [.int .i64 by_]).holds w) (hv : IsSlots w.cell? (.slice A l.length cap) l) => slIndexFunc_spec (.slice A l.length cap) l 203 [.pointer (some ⟨b5, 0, none⟩)] (isO by_) w hv hl Tryz.call203 (fun s _ w' hl => slot1_spec s b5 by_ w' (hl _ _ (by rw [off_none, blk_cell hb]; rfl)))
  refine w_op rfl ?_
  cases ha : l.any (isO by_) with
  | true =>
   have hne : 0 < l.length := by
    cases l with
    | nil => simp at ha
    | cons x t => simp
   obtain ⟨ad, rfl, _⟩ := hrow 0 hne
   rw [ha] at hcl
   simp only [if_true] at hcl
   have hfi : l.findIdx (isO by_) < l.length := List.findIdx_lt_length.2 (List.any_eq_true.1 ha)
   refine x_call0 (v := .int .i64 ((l.findIdx (isO by_) : Nat) : Int)) rfl rfl rfl Tryz.call202 rfl (fun w hw => hcl w (hw.mem (i := 0) rfl) (hrw.mono hw.off)) ?_
   refine wa rfl rfl <| w_nil <| e_seq <| esr <| wm rfl rfl ?_
   refine w_val (v_is (v' := .bool false) (v_lss rfl rfl) (by rw [decide_eq_false (by omega)])) rfl ?_
   refine w_nil <| e_condF rfl <| e_skip <| esr <| wm rfl rfl <| wm rfl rfl <| wn rfl rfl <| w_val (v_fieldAddrB (o := 0) uT228 rfl rfl Tryz.nz226 rfl) rfl ?_
   refine w_val (v_indexAB uT226 Tryz.hi225 Tryz.cz225 rfl rfl (by first | omega | decide)) rfl ?_
   refine w_val (v_loadO uT225 rfl rfl (hhdr)) rfl <| wm rfl rfl ?_
   refine w_val (v_indexS uT225 Tryz.hi230 Tryz.cz230 rfl rfl (by first | omega | decide)) rfl ?_
   refine wa rfl rfl <| w_nil ?_
   refine e_retQ (q_ret1 rfl (.tmp rfl) ?_)
   exact fun w' hw' => ⟨rfl, hw'.res.nil⟩
  | false =>
   rw [ha] at hcl
   refine x_call0 (v := .int .i64 (-1)) rfl rfl rfl Tryz.call202 rfl (fun w hw => hcl w (hw.mem (i := 0) rfl) (hrw.mono hw.off)) ?_
   refine wa rfl rfl <| w_nil <| e_seq <| esr <| wm rfl rfl ?_
   refine w_val (v_is (v' := .bool true) (v_lss rfl rfl) (by rfl)) rfl ?_
   refine w_nil <| e_condT rfl <| esr <| wa rfl rfl <| w_nil ?_
   refine e_retQ (q_ret1 rfl (.tmp rfl) ?_)
   exact fun w' hw' => ⟨rfl, hw'.res.nil⟩
 ·have hht : hasT T k by_ = false := by unfold hasT; rw [decide_eq_false hk, Bool.false_and]
  unfold slotP
  rw [hht]
  refine esr <| w_op rfl ?_
  refine x_box rfl rfl (fun b5 => ?_)
  refine wa rfl rfl <| w_nil <| e_seq <| esr <| wm rfl rfl <| w_op rfl ?_
  refine x_call0 (v := .bool false) rfl rfl rfl Tryz.call191 rfl (fun w hw => by have := tabKey_spec (k : Int) w; rwa [decide_eq_false hk] at this) ?_
  refine w_val (v_is (v' := .bool true) (v_not rfl) (by rfl)) rfl ?_
  refine w_nil <| e_condT rfl <| esr <| wa rfl rfl <| w_nil ?_
  refine e_retQ (q_ret1 rfl (.tmp rfl) ?_)
  exact fun w' hw' => ⟨rfl, hw'.res.nil⟩
end Go.SL
end
