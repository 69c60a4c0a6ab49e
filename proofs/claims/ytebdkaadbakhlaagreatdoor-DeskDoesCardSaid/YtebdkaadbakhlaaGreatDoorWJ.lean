/- YtebdkaadbakhlaaGreatDoor: part WJ of this seat's own texts. -/
import Derived.Test.YtebdkaadbakhlaaGreatDoorWM
set_option linter.unusedVariables false
set_option linter.unusedSimpArgs false
section
open Go Go.Proofs Go.SL
set_option maxRecDepth 100000
namespace Go.SL
theorem wkEnd_spec (p : Nat) (dv : Value) (x : WkL) (pt : Nat) (hs : Nat → Value) (T : TabL) (c : Int) (w : World) (h : ∀ k ∈ wkH p dv x ++ tbH pt 228 hs T, k.holds w) (hsep : (wkH p dv x ++ tbH pt 228 hs T).Pairwise Disj)
  (hn : ∀ k, k < 10 → (T k).length ≤ 1000) (hg : GoodT T) (hck : (checkL x.d).1 = 0) (hg4 : x.g.length = 4) (hr4 : x.rg.length = 4) :
  Calls Tryz.prog 176 #[.pointer (some ⟨p, 0, none⟩), .pointer (some ⟨pt, 0, none⟩), .int .i64 c] w fun e w' => ∃ _ : Unit, True ∧ e = .returned (.tuple #[]) ∧ Res w (wkH p dv x ++ tbH pt 228 hs T) (wkH p dv (endX x c) ++ tbH pt 228 hs (endT x c T)) w' := by
 have hd14 := (checked hck).1
 obtain ⟨g0, g1, g2, g3, hge⟩ := list4 hg4
 have hKr : ∀ y ∈ keysL x.d, 0 ≤ y ∧ y < 10 := fun y hy => key_rng hck hy
 have hKn := keysL_nodup x.d
 have hKl := keysL_le x.d
 refine enter (mc := wkH p dv x ++ tbH pt 228 hs T) (N := 61) Tryz.func176 rfl rfl rfl ?_ ?_ ?_
 ·exact h
 ·exact hsep
 refine esr <| wm rfl rfl <| wn rfl rfl <| w_val (v_fieldAddrB (o := 7) uT243 rfl rfl Tryz.nz4 rfl) rfl <| w_op rfl ?_
 refine x_store1 0 rfl rfl rfl Tryz.hi4 Tryz.cz4 rfl (by rw [wkC_len hg4 hr4]; decide) rfl ?_; rw [wk_ov_set hg4]
 refine wsr <| wm rfl rfl <| wm rfl rfl <| wm rfl rfl <| wn rfl rfl <| w_val (v_fieldAddrB (o := 3) uT243 rfl rfl Tryz.nz94 rfl) rfl ?_
 refine w_val (v_loadBN 0 rfl uT94 rfl Tryz.hi94 Tryz.cz94 rfl (cs' := intCells [g0, g1, g2, g3]) (by rw [← hge]; exact wk_regs (x := { x with ov := true }) hg4) rfl) rfl ?_
 refine w_val (v_build (v := .agg (resCells c [g0, g1, g2, g3]).toArray) _ rfl (by intro _; simp [Instr.build, Instr.fill, Tryz.zeroValue96, intCells, go_sem]; rfl)) rfl ?_
 refine wn rfl rfl <| w_val (v_fieldAddrB (o := 8) uT243 rfl rfl Tryz.nz96 rfl) rfl <| w_op rfl ?_
 refine x_store 0 rfl rfl rfl Tryz.hi96 Tryz.cz96 (by rw [wkC_len (x := { x with ov := true }) hg4 hr4]; exact (by decide : 0 + 8 + 5 ≤ 33)) (one_resCells c [g0, g1, g2, g3]) (wkC (endX x c) dv) (by rw [show endX x c = { ({ x with ov := true } : WkL) with rc := c, rg := [g0, g1, g2, g3] } from by rw [← hge]; rfl]; exact wk_res_set (x := { x with ov := true }) hg4 hr4 c rfl) ?_
 refine wsr <| wm rfl rfl <| wn rfl rfl <| w_val (v_fieldAddrB (o := 0) uT243 rfl rfl Tryz.nz80 rfl) rfl <| w_val (v_loadB 0 rfl uT80 rfl rfl rfl) rfl <| w_op rfl ?_
 refine x_call (dst := some 24) (mc := []) (σ := Value) (fun _ => True) (fun sl => sl) (fun sl => [Own sl 3 1 (keysL x.d).length (intsC (keysL x.d))]) rfl rfl rfl Tryz.call175 (fun w hw => codeKeys_spec dv x.d w (own_rds (hw.hold (Own dv 109 5 x.d.length (deedCells x.d)) (List.mem_cons_of_mem _ List.mem_cons_self))) (by omega)) rfl (fun sl _ => ?_)
 refine g_heap (m' := Own sl 3 1 (keysL x.d).length (intsC (keysL x.d)) :: (wkH p dv (endX x c) ++ tbH pt 228 hs T)) (fun _ hw => hw) ?_
 have hT0 : T = endTo x c T ((keysL x.d).take 0) := by rw [List.take_zero, endTo_nil]
 have hall : endTo x c T ((keysL x.d).take (keysL x.d).length) = endT x c T := by rw [List.take_length, endTo_all]
 generalize hK : keysL x.d = K at *
 refine g_shape2 0 rfl fun A1 k1 hv1 hk1 hA1 => ?_
 subst hv1
 refine w_val (v_lenS uT70 rfl) rfl <| wm rfl rfl <| w_nil <| e_block ?_
 refine e_loopH (σ := Nat) [0, 1, 2, 24, 25] (.cons rfl (.cons rfl (.cons rfl (.cons rfl (.cons rfl .nil))))) (fun j => [(26, .int .i64 (j : Int))]) (fun j => Own (.slice A1 K.length k1) 3 1 K.length (intsC K) :: (wkH p dv (endX x c) ++ tbH pt 228 hs (endTo x c T (K.take j)))) (fun j => j ≤ K.length) (fun j => K.length - j) 0 (Nat.zero_le _) (by repeat first | exact .nil _ | refine .cons rfl ?_) (fun _ hw => by rw [hT0] at hw; exact hw) ?_
 rintro j hj
 refine esr <| w_val (v_lss rfl rfl) rfl <| w_nil <| e_seq ?_
 refine e_condD rfl (fun hlt => ?_) (fun hlt => ?_)
 ·have hj' : j < K.length := by omega
  have hget := ints_get hj'
  have hrng := hKr _ (List.getElem_mem hj')
  have hnot : K[j] ∉ K.take j := fun h => by
   rw [List.mem_take_iff_getElem] at h
   obtain ⟨m, hm, he⟩ := h
   exact List.pairwise_iff_getElem.1 hKn m j (by omega) hj' (by omega) he
  have htk : K.take (j + 1) = K.take j ++ [K[j]] := List.take_succ_eq_append_getElem hj'
  obtain ⟨ad2, rfl⟩ := hA1 (by omega)
  obtain ⟨kk, hkk⟩ : ∃ n : Nat, K[j] = n := ⟨K[j].toNat, by omega⟩
  rw [hkk] at hget hrng hnot htk
  have hkk' : kk < 10 := by omega
  have hstep := endTo_step (x := x) (c := c) (T := T) hkk' hnot
  rw [← htk] at hstep
  have hnT : ∀ k, k < 10 → (endTo x c T (K.take j) k).length ≤ 1000 := fun k hk => by rw [endTo_len]; exact hn k hk
  have hgT : GoodT (endTo x c T (K.take j)) := endTo_good hg
  generalize endTo x c T (K.take j) = T1 at *
  refine e_skip <| e_seq <| e_block <| esr ?_
  refine w_val (v_indexS uT70 Tryz.hi3 Tryz.cz3 rfl rfl (by first | omega | decide)) rfl ?_
  refine w_val (v_loadW 0 rfl (by omega) hget uT3 rfl rfl) rfl ?_
  refine wa rfl rfl <| w_nil <| e_seq ?_
  have hput := wk_put (x := endX x c) (dv := dv) hg4 hg4 hrng.1 hrng.2
  have hhas := wk_has (x := endX x c) (dv := dv) hg4 hg4 hrng.1 hrng.2
  rw [Int.toNat_natCast] at hput hhas
  by_cases hsp : c = 0 ∧ x.put kk = true
  ·have he : endSlot x c kk = ⟨x.by_, false, false, x.has kk⟩ := by unfold endSlot; rw [if_pos hsp]
   rw [he] at hstep
   obtain ⟨hc0, hp⟩ := hsp
   refine e_region <| wm rfl rfl ?_
   refine w_val (v_is (v' := .bool true) (v_eql rfl rfl) (by rw [decide_eq_true hc0])) rfl ?_
   refine wm rfl rfl <| w_want rfl rfl <| wm rfl rfl <| w_want rfl rfl <| wm rfl rfl <| w_want rfl rfl <| wn rfl rfl <| w_want rfl rfl <| w_val (v_fieldAddrB (o := 13) uT243 rfl rfl Tryz.nz241 rfl) rfl <| w_want rfl rfl ?_
   refine w_val (v_indexAB uT241 Tryz.hi4 Tryz.cz4 rfl rfl (by first | omega | decide)) rfl ?_
   refine w_want rfl rfl <| w_val (v_is (v' := .bool true) (v_loadB 1 rfl uT4 rfl rfl hput) (congrArg Value.bool hp)) rfl <| w_val (v_pickT rfl rfl) rfl <| w_nil <| e_condT rfl <| e_draw ([wkB p dv (endX x c)]) Tryz.mixed <| tk 0 rfl (v_move rfl) rfl <| tk 1 rfl (v_move rfl) rfl <| tk 2 rfl (v_move rfl) rfl <| tk 3 rfl (v_nilCheck rfl) rfl <| tk 4 rfl (v_fieldAddrB (o := 1) uT243 rfl rfl Tryz.nz3 rfl) rfl <| tk 5 rfl (v_loadB 0 rfl uT3 rfl rfl rfl) rfl <| tk 6 rfl (v_move rfl) rfl <| tk 7 rfl (v_move rfl) rfl <| tk 8 rfl (v_nilCheck rfl) rfl <| tk 9 rfl (v_fieldAddrB (o := 23) uT243 rfl rfl Tryz.nz32 rfl) rfl ?_
   refine tk 10 rfl (v_indexAB uT32 Tryz.hi2 Tryz.cz2 rfl rfl (by first | omega | decide)) rfl ?_
   refine tk 11 rfl (v_loadB 0 rfl uT2 rfl rfl hhas) rfl <| t1 12 rfl rfl ?_
   refine x_callM (dst := some 52) (tbH pt 228 hs T1) [Own (.slice (some ad2) K.length k1) 3 1 K.length (intsC K), wkB p dv (endX x c), Own dv 109 5 x.d.length (deedCells x.d)] (σ := Unit) (fun _ => True) (fun _ => .bool (hasT T1 kk x.by_)) (fun _ => tbH pt 228 hs (chgT T1 kk x.by_ ⟨x.by_, false, false, x.has kk⟩)) (List.perm_append_comm (l₁ := [_, _, _])) rfl rfl rfl Tryz.call183 (fun w hw => tabSet_spec pt hs T1 kk x.by_ (x.has kk) w (res_part hw).1 (res_part hw).2 hnT hgT) rfl (fun _ _ => ?_)
   refine tn <| td ?_
   rw [hstep]
   refine e_blk <| e_region ?_
   refine w_val (v_add rfl rfl (by omega)) rfl ?_
   refine wm rfl rfl <| w_nil ?_
   exact e_round (j + 1) (by omega) (by omega) (by repeat first | exact .nil _ | refine .cons rfl ?_) (fun _ hw => hw.perm (List.perm_append_comm (l₂ := [_, _, _])))
  ·have he : endSlot x c kk = ⟨x.by_, false, true, 0⟩ := by unfold endSlot; rw [if_neg hsp]
   rw [he] at hstep
   by_cases hc0 : c = 0
   ·have hp : x.put kk = false := by
     cases hpp : x.put kk with
     | true => exact absurd ⟨hc0, hpp⟩ hsp
     | false => rfl
    refine e_region <| wm rfl rfl ?_
    refine w_val (v_is (v' := .bool true) (v_eql rfl rfl) (by rw [decide_eq_true hc0])) rfl ?_
    refine wm rfl rfl <| w_want rfl rfl <| wm rfl rfl <| w_want rfl rfl <| wm rfl rfl <| w_want rfl rfl <| wn rfl rfl <| w_want rfl rfl <| w_val (v_fieldAddrB (o := 13) uT243 rfl rfl Tryz.nz241 rfl) rfl <| w_want rfl rfl ?_
    refine w_val (v_indexAB uT241 Tryz.hi4 Tryz.cz4 rfl rfl (by first | omega | decide)) rfl ?_
    refine w_want rfl rfl <| w_val (v_is (v' := .bool false) (v_loadB 1 rfl uT4 rfl rfl hput) (congrArg Value.bool hp)) rfl <| w_val (v_pickT rfl rfl) rfl <| w_nil <| e_condF rfl <| e_region <| wm rfl rfl <| wm rfl rfl <| wm rfl rfl <| wn rfl rfl <| w_val (v_fieldAddrB (o := 1) uT243 rfl rfl Tryz.nz3 rfl) rfl <| w_val (v_loadB 1 rfl uT3 rfl rfl rfl) rfl <| w_op rfl ?_
    refine x_callM (dst := some 59) (tbH pt 228 hs T1) [Own (.slice (some ad2) K.length k1) 3 1 K.length (intsC K), wkB p dv (endX x c), Own dv 109 5 x.d.length (deedCells x.d)] (σ := Unit) (fun _ => True) (fun _ => .bool (hasT T1 kk x.by_)) (fun _ => tbH pt 228 hs (chgT T1 kk x.by_ ⟨x.by_, false, true, 0⟩)) (List.perm_append_comm (l₁ := [_, _, _])) rfl rfl rfl Tryz.call184 (fun w hw => tabVoid_spec pt hs T1 kk x.by_ w (res_part hw).1 (res_part hw).2 hnT hgT) rfl (fun _ _ => ?_); rw [hstep]
    refine w_nil <| e_blk <| e_region ?_
    refine w_val (v_add rfl rfl (by omega)) rfl ?_
    refine wm rfl rfl <| w_nil ?_
    exact e_round (j + 1) (by omega) (by omega) (by repeat first | exact .nil _ | refine .cons rfl ?_) (fun _ hw => hw.perm (List.perm_append_comm (l₂ := [_, _, _])))
   ·refine e_region <| wm rfl rfl ?_
    refine w_val (v_is (v' := .bool false) (v_eql rfl rfl) (by rw [decide_eq_false hc0])) rfl ?_
    refine wm rfl rfl <| w_skip rfl rfl rfl rfl <| w_skip rfl rfl rfl rfl <| w_skip rfl rfl rfl rfl <| w_skip rfl rfl rfl rfl <| w_skip rfl rfl rfl rfl <| w_skip rfl rfl rfl rfl <| w_val (v_pickF rfl rfl) rfl <| w_nil <| e_condF rfl <| e_region <| wm rfl rfl <| wm rfl rfl <| wm rfl rfl <| wn rfl rfl <| w_val (v_fieldAddrB (o := 1) uT243 rfl rfl Tryz.nz3 rfl) rfl <| w_val (v_loadB 1 rfl uT3 rfl rfl rfl) rfl <| w_op rfl ?_
    refine x_callM (dst := some 59) (tbH pt 228 hs T1) [Own (.slice (some ad2) K.length k1) 3 1 K.length (intsC K), wkB p dv (endX x c), Own dv 109 5 x.d.length (deedCells x.d)] (σ := Unit) (fun _ => True) (fun _ => .bool (hasT T1 kk x.by_)) (fun _ => tbH pt 228 hs (chgT T1 kk x.by_ ⟨x.by_, false, true, 0⟩)) (List.perm_append_comm (l₁ := [_, _, _])) rfl rfl rfl Tryz.call184 (fun w hw => tabVoid_spec pt hs T1 kk x.by_ w (res_part hw).1 (res_part hw).2 hnT hgT) rfl (fun _ _ => ?_); rw [hstep]
    refine w_nil <| e_blk <| e_region ?_
    refine w_val (v_add rfl rfl (by omega)) rfl ?_
    refine wm rfl rfl <| w_nil ?_
    exact e_round (j + 1) (by omega) (by omega) (by repeat first | exact .nil _ | refine .cons rfl ?_) (fun _ hw => hw.perm (List.perm_append_comm (l₂ := [_, _, _])))
 ·have e : j = K.length := by omega
  subst e
  rw [hall]
  refine e_exit rfl ?_
  refine e_endQ (q_ret0 rfl ?_)
  exact fun w' hw' => ⟨(), trivial, rfl, (hw'.sub (List.sublist_cons_self _ _)).res⟩
end Go.SL
end
section
open Go Go.Proofs Go.SL
set_option maxRecDepth 100000
namespace Go.SL
def ldX (x : WkL) (T : TabL) (o : OpL) : WkL := if 0 ≤ (seen x T o.b).2 then x else { x with g := st x.g o.a (seen x T o.b).1 }
def ldV (x : WkL) (T : TabL) (o : OpL) : Value := if 0 ≤ (seen x T o.b).2 then .tuple #[.int .i64 (seen x T o.b).2, .bool false] else .tuple #[.int .i64 (-1), .bool true]
theorem wkLoad_spec (p : Nat) (dv : Value) (x : WkL) (pt : Nat) (hs : Nat → Value) (T : TabL) (o : OpL) (w : World) (h : ∀ k ∈ wkH p dv x ++ tbH pt 228 hs T, k.holds w) (hsep : (wkH p dv x ++ tbH pt 228 hs T).Pairwise Disj)
  (hn : ∀ k, k < 10 → (T k).length ≤ 1000) (hg4 : x.g.length = 4) (hr4 : x.rg.length = 4) (ha : 0 ≤ o.a ∧ o.a < 4) (hb : 0 ≤ o.b ∧ o.b < 10) :
  Calls Tryz.prog 177 #[.pointer (some ⟨p, 0, none⟩), .pointer (some ⟨pt, 0, none⟩), opV o] w fun e w' => ∃ _ : Unit, True ∧ e = .returned (ldV x T o) ∧ Res w (wkH p dv x ++ tbH pt 228 hs T) (wkH p dv (ldX x T o) ++ tbH pt 228 hs T) w' := by
 have hput := wk_put (x := x) (dv := dv) hg4 hr4 hb.1 hb.2
 have hhas := wk_has (x := x) (dv := dv) hg4 hr4 hb.1 hb.2
 refine enter (mc := wkH p dv x ++ tbH pt 228 hs T) (N := 48) Tryz.func177 rfl rfl rfl ?_ ?_ ?_
 ·exact h
 ·exact hsep
 refine esr <| w_op rfl ?_
 refine x_box rfl rfl (fun b5 => ?_); refine w_heap (m' := .blk b5 109 (opCells o) :: (wkH p dv x ++ tbH pt 228 hs T)) (fun _ hw => hw) ?_
 refine wa rfl rfl <| wa rfl rfl <| w_nil <| e_seq <| e_draw ([.blk b5 109 (opCells o), wkB p dv x]) Tryz.mixed <| tk 0 rfl (v_move rfl) rfl <| tk 1 rfl (v_fieldAddrB (o := 2) uT109 rfl rfl Tryz.nz3 rfl) rfl <| tk 2 rfl (v_loadB 0 rfl uT3 rfl rfl rfl) rfl <| tk 3 rfl (v_nilCheck rfl) rfl <| tk 4 rfl (v_fieldAddrB (o := 23) uT243 rfl rfl Tryz.nz32 rfl) rfl ?_
 refine tk 5 rfl (v_indexAB uT32 Tryz.hi2 Tryz.cz2 rfl rfl (by first | omega | decide)) rfl ?_
 refine tk 6 rfl (v_loadB 1 rfl uT2 rfl rfl hhas) rfl <| tk 7 rfl (v_assign rfl) rfl <| td <| e_seq <| e_seq <| e_draw ([.blk b5 109 (opCells o), wkB p dv x]) Tryz.mixed <| tk 0 rfl (v_move rfl) rfl <| tk 1 rfl (v_fieldAddrB (o := 2) uT109 rfl rfl Tryz.nz3 rfl) rfl <| tk 2 rfl (v_loadB 0 rfl uT3 rfl rfl rfl) rfl <| tk 3 rfl (v_nilCheck rfl) rfl <| tk 4 rfl (v_fieldAddrB (o := 13) uT243 rfl rfl Tryz.nz241 rfl) rfl ?_
 refine tk 5 rfl (v_indexAB uT241 Tryz.hi4 Tryz.cz4 rfl rfl (by omega)) rfl ?_
 refine tk 6 rfl (v_loadB 1 rfl uT4 rfl rfl hput) rfl <| tk 7 rfl (v_not rfl) rfl <| td ?_
 cases hp : x.put o.b.toNat with
 | true =>
  have hsn : seen x T o.b = (x.has o.b.toNat, -1) := by unfold seen; rw [if_pos hp]
  have h1 : ldX x T o = { x with g := st x.g o.a (x.has o.b.toNat) } := by unfold ldX; rw [hsn, if_neg (by simp)]
  have h2 : ldV x T o = .tuple #[.int .i64 (-1), .bool true] := by unfold ldV; rw [hsn, if_neg (by simp)]
  rw [h1, h2]
  refine e_condF rfl <| e_skip <| e_seq <| e_draw ([.blk b5 109 (opCells o)]) Tryz.mixed <| tk 0 rfl (v_move rfl) rfl <| tk 1 rfl (v_fieldAddrB (o := 1) uT109 rfl rfl Tryz.nz3 rfl) rfl <| tk 2 rfl (v_loadB 0 rfl uT3 rfl rfl rfl) rfl <| tk 3 rfl (v_move rfl) rfl <| tk 4 rfl (v_nilCheck rfl) rfl <| tk 5 rfl (v_fieldAddrB (o := 3) uT243 rfl rfl Tryz.nz94 rfl) rfl ?_
  refine tk 6 rfl (v_indexAB uT94 Tryz.hi2 Tryz.cz2 rfl rfl (by omega)) rfl ?_
  refine t1 7 rfl rfl ?_
  refine x_store1 1 rfl rfl rfl Tryz.hi2 Tryz.cz2 rfl (by rw [wkC_len hg4 hr4]; omega) rfl ?_; rw [wk_g_set hg4 _ ha.1 ha.2]
  refine tn <| td <| esr <| wa rfl rfl <| wa rfl rfl <| w_nil ?_
  refine e_retQ (q_ret2 rfl (.tmp rfl) (.tmp rfl) ?_)
  exact fun w' hw' => ⟨(), trivial, rfl, (hw'.sub (List.sublist_cons_self _ _)).res⟩
 | false =>
  have hsn : seen x T o.b = befT T o.b x.by_ := by unfold seen; rw [if_neg (by simp [hp])]
  refine e_condT rfl <| e_seq <| e_draw ([.blk b5 109 (opCells o), wkB p dv x]) Tryz.mixed <| tk 0 rfl (v_move rfl) rfl <| tk 1 rfl (v_fieldAddrB (o := 2) uT109 rfl rfl Tryz.nz3 rfl) rfl <| tk 2 rfl (v_loadB 0 rfl uT3 rfl rfl rfl) rfl <| tk 3 rfl (v_move rfl) rfl <| tk 4 rfl (v_nilCheck rfl) rfl <| tk 5 rfl (v_fieldAddrB (o := 1) uT243 rfl rfl Tryz.nz3 rfl) rfl <| tk 6 rfl (v_loadB 1 rfl uT3 rfl rfl rfl) rfl <| t1 7 rfl rfl ?_
  refine x_call0 (v := .tuple #[.int .i64 (befT T o.b x.by_).1, .int .i64 (befT T o.b x.by_).2]) rfl rfl rfl Tryz.call185 rfl (fun w hw => tabBefore_spec pt hs T o.b x.by_ w (hw.tbV 3 rfl rfl) hn) ?_
  refine tn <| tk 8 rfl (v_move rfl) rfl <| tk 9 rfl (v_is (v' := .int .i64 (befT T o.b x.by_).1) (v_extract rfl rfl) rfl) rfl <| tk 10 rfl (v_is (v' := .int .i64 (befT T o.b x.by_).2) (v_extract rfl rfl) rfl) rfl <| tk 11 rfl (v_assign rfl) rfl <| tk 12 rfl (v_assign rfl) rfl <| td <| e_seq <| esr <| wm rfl rfl <| w_val (v_geq rfl rfl) rfl <| w_nil ?_
  refine e_condD rfl (fun hw0 => ?_) (fun hw0 => ?_)
  ·have hw0' : 0 ≤ (seen x T o.b).2 := by rw [hsn]; exact hw0
   have h1 : ldX x T o = x := by unfold ldX; rw [if_pos hw0']
   have h2 : ldV x T o = .tuple #[.int .i64 (befT T o.b x.by_).2, .bool false] := by unfold ldV; rw [if_pos hw0', hsn]
   rw [h1, h2]
   refine esr <| wm rfl rfl <| wa rfl rfl <| wa rfl rfl <| w_nil ?_
   refine e_retQ (q_ret2 rfl (.tmp rfl) (.tmp rfl) ?_)
   exact fun w' hw' => ⟨(), trivial, rfl, (hw'.sub (List.sublist_cons_self _ _)).res⟩
  ·have hw0' : ¬ 0 ≤ (seen x T o.b).2 := by rw [hsn]; exact hw0
   have h1 : ldX x T o = { x with g := st x.g o.a (befT T o.b x.by_).1 } := by unfold ldX; rw [if_neg hw0', hsn]
   have h2 : ldV x T o = .tuple #[.int .i64 (-1), .bool true] := by unfold ldV; rw [if_neg hw0']
   rw [h1, h2]
   refine e_skip <| e_region <| wm rfl rfl <| wa rfl rfl <| w_nil <| e_seq <| e_draw ([.blk b5 109 (opCells o)]) Tryz.mixed <| tk 0 rfl (v_move rfl) rfl <| tk 1 rfl (v_fieldAddrB (o := 1) uT109 rfl rfl Tryz.nz3 rfl) rfl <| tk 2 rfl (v_loadB 0 rfl uT3 rfl rfl rfl) rfl <| tk 3 rfl (v_move rfl) rfl <| tk 4 rfl (v_nilCheck rfl) rfl <| tk 5 rfl (v_fieldAddrB (o := 3) uT243 rfl rfl Tryz.nz94 rfl) rfl ?_
   refine tk 6 rfl (v_indexAB uT94 Tryz.hi2 Tryz.cz2 rfl rfl (by omega)) rfl ?_
   refine t1 7 rfl rfl ?_
   refine x_store1 1 rfl rfl rfl Tryz.hi2 Tryz.cz2 rfl (by rw [wkC_len hg4 hr4]; omega) rfl ?_; rw [wk_g_set hg4 _ ha.1 ha.2]
   refine tn <| td <| esr <| wa rfl rfl <| wa rfl rfl <| w_nil ?_
   refine e_retQ (q_ret2 rfl (.tmp rfl) (.tmp rfl) ?_)
   exact fun w' hw' => ⟨(), trivial, rfl, (hw'.sub (List.sublist_cons_self _ _)).res⟩
end Go.SL
end
section
open Go Go.Proofs Go.SL
set_option maxRecDepth 100000
set_option maxHeartbeats 1000000
namespace Go.SL
theorem own_op {w : World} {ad : Addr} {k e j n : Nat} {d : DeedL} {o : OpL} (h : (Own (.slice (some ad) n k) e 5 n (deedCells d)).holds w) (hn : n = d.length) (ho : d[j]? = some o) : Cells w.cell? (ad.add (((j : Nat) : Int).toNat * 5)) (opCells o) := by
 subst hn
 obtain ⟨A, kp, h1, _, _, h2⟩ := own_rds h
 injection h1 with h1 _ _
 subst h1
 have hlt := (List.getElem?_eq_some_iff.1 ho).1
 obtain ⟨ad', h3, h4⟩ := h2 (by omega)
 injection h3 with h3
 subst h3
 rw [Int.toNat_natCast]
 exact deed_op h4 ho
theorem wk_lt2 {x : WkL} {dv : Value} : 0 + 2 < (wkC x dv).length := by unfold wkC; simp only [List.length_append, List.length_cons]; omega
theorem wkStep_spec (p : Nat) (dv : Value) (x : WkL) (pt : Nat) (hs : Nat → Value) (T : TabL) (w : World) (h : ∀ k ∈ wkH p dv x ++ tbH pt 228 hs T, k.holds w) (hsep : (wkH p dv x ++ tbH pt 228 hs T).Pairwise Disj)
  (hn : ∀ k, k < 10 → (T k).length ≤ 1000) (hg : GoodT T) (hck : (checkL x.d).1 = 0) (hg4 : x.g.length = 4) (hr4 : x.rg.length = 4) :
  Calls Tryz.prog 165 #[.pointer (some ⟨p, 0, none⟩), .pointer (some ⟨pt, 0, none⟩)] w fun e w' => ∃ _ : Unit, True ∧ e = .returned (.tuple #[.int .i64 (stepW x T).1.1, .int .i64 (stepW x T).1.2]) ∧ Res w (wkH p dv x ++ tbH pt 228 hs T) (wkH p dv (stepW x T).2.1 ++ tbH pt 228 hs (stepW x T).2.2) w' := by
 obtain ⟨hd14, hchk⟩ := checked hck
 refine enter (mc := wkH p dv x ++ tbH pt 228 hs T) (N := 143) Tryz.func165 rfl rfl rfl ?_ ?_ ?_
 ·exact h
 ·exact hsep
 refine esr <| wa rfl rfl <| wa rfl rfl <| w_nil <| e_seq <| esr <| wm rfl rfl <| wn rfl rfl <| w_val (v_fieldAddrB (o := 7) uT243 rfl rfl Tryz.nz4 rfl) rfl ?_
 cases ho : x.ov with
 | true =>
  rw [step_over ho]
  refine w_val (v_is (v' := .bool true) (v_loadB 0 rfl uT4 rfl rfl (wk_ov hg4)) (by rw [ho])) rfl ?_
  refine w_nil <| e_condT rfl <| esr <| wa rfl rfl <| wa rfl rfl <| w_nil ?_
  refine e_retQ (q_ret2 rfl (.tmp rfl) (.tmp rfl) ?_)
  exact fun w' hw' => ⟨(), trivial, rfl, hw'.res⟩
 | false =>
  refine w_val (v_is (v' := .bool false) (v_loadB 0 rfl uT4 rfl rfl (wk_ov hg4)) (by rw [ho])) rfl ?_
  refine w_nil <| e_condF rfl <| e_skip <| e_seq <| e_seq ?_
  refine g_heap (m' := wkH p dv x ++ tbH pt 228 hs T) (fun _ hw => hw) ?_
  refine g_shape2 1 rfl fun A kp hv hk hA => ?_
  subst hv
  refine e_draw ([wkB p (.slice A x.d.length kp) x]) Tryz.mixed <| tk 0 rfl (v_move rfl) rfl <| tk 1 rfl (v_nilCheck rfl) rfl <| tk 2 rfl (v_fieldAddrB (o := 2) uT243 rfl rfl Tryz.nz3 rfl) rfl <| tk 3 rfl (v_loadB 0 rfl uT3 rfl rfl rfl) rfl <| tk 4 rfl (v_move rfl) rfl <| tk 5 rfl (v_nilCheck rfl) rfl <| tk 6 rfl (v_fieldAddrB (o := 0) uT243 rfl rfl Tryz.nz80 rfl) rfl <| tk 7 rfl (v_loadB 0 rfl uT80 rfl rfl rfl) rfl <| tk 8 rfl (v_lenS uT80 rfl) rfl <| tk 9 rfl (v_geq rfl rfl) rfl <| td ?_
  refine e_condD rfl (fun hge => ?_) (fun hge => ?_)
  ·have hR := step_end (T := T) ho (by omega : x.d.length ≤ x.at_)
   rw [hR]
   refine esr <| wm rfl rfl <| wm rfl rfl <| w_op rfl ?_
   refine x_callM (dst := some 25) (wkH p (.slice A x.d.length kp) x ++ tbH pt 228 hs T) [] (σ := Unit) (fun _ => True) (fun _ => .tuple #[]) (fun _ => wkH p (.slice A x.d.length kp) (endX x 0) ++ tbH pt 228 hs (endT x 0 T)) (List.Perm.refl _) rfl rfl rfl Tryz.call176 (fun w hw => wkEnd_spec p _ x pt hs T 0 w (res_part hw).1 (res_part hw).2 hn hg hck hg4 hr4) rfl (fun _ _ => ?_)
   refine wsr <| wa rfl rfl <| wa rfl rfl <| w_nil ?_
   refine e_retQ (q_ret2 rfl (.tmp rfl) (.tmp rfl) ?_)
   exact fun w' hw' => ⟨(), trivial, rfl, hw'.res⟩
  ·have ha : x.at_ < x.d.length := by omega
   have hR := step_op (T := T) ho (List.getElem?_eq_getElem ha)
   obtain ⟨hf, h9⟩ := hchk _ ha
   have hob : ∀ w, (Own (.slice A x.d.length kp) 109 5 x.d.length (deedCells x.d)).holds w → ∃ ad, A = some ad ∧ Cells w.cell? (ad.add (((x.at_ : Nat) : Int).toNat * 5)) (opCells x.d[x.at_]) := fun w hw => by
    obtain ⟨ad, rfl⟩ := hA (by omega)
    exact ⟨ad, rfl, own_op hw rfl (List.getElem?_eq_getElem ha)⟩
   obtain ⟨ad, rfl⟩ := hA (by omega)
   generalize x.d[x.at_] = o at *
   unfold opW at hR
   refine e_skip <| e_seq <| e_draw ([wkB p (.slice (some ad) x.d.length kp) x, Own (.slice (some ad) x.d.length kp) 109 5 x.d.length (deedCells x.d)]) Tryz.mixed <| tk 0 rfl (v_move rfl) rfl <| tk 1 rfl (v_nilCheck rfl) rfl <| tk 2 rfl (v_fieldAddrB (o := 0) uT243 rfl rfl Tryz.nz80 rfl) rfl <| tk 3 rfl (v_loadB 0 rfl uT80 rfl rfl rfl) rfl <| tk 4 rfl (v_move rfl) rfl <| tk 5 rfl (v_nilCheck rfl) rfl <| tk 6 rfl (v_fieldAddrB (o := 2) uT243 rfl rfl Tryz.nz3 rfl) rfl <| tk 7 rfl (v_loadB 0 rfl uT3 rfl rfl rfl) rfl ?_
   refine tk 8 rfl (v_indexS uT80 Tryz.hi109 Tryz.cz109 rfl rfl (by first | omega | decide)) rfl ?_
   refine tk 9 rfl (v_loadN (cs := opCells o) uT109 rfl Tryz.hi109 Tryz.cz109 rfl (fun w hw => by obtain ⟨ad', h1, h2⟩ := hob w (hw.hold (Own (.slice (some ad) x.d.length kp) 109 5 x.d.length (deedCells x.d)) (List.mem_cons_of_mem _ List.mem_cons_self)); injection h1 with h1; subst h1; exact h2)) rfl ?_
   refine t1 10 rfl rfl ?_
   refine x_alloc (z := .agg #[.int .i64 0, .int .i64 0, .int .i64 0, .int .i64 0, .int .i64 0]) (by intro w; exact Tryz.zeroValue109 w) rfl (fun b6 => ?_)
   refine tn <| t1 11 rfl rfl ?_
   refine x_storeA 0 rfl rfl rfl Tryz.hi109 Tryz.cz109 rfl (by first | (simp [Value.oneCell', opCells]; done) | assumption | exact one_ints _ | exact one_resCells _ _ | exact one_slotC _) ?_
   refine tn <| td ?_
   refine g_heap (m' := .blk b6 109 (opCells o) :: (wkH p (.slice (some ad) x.d.length kp) x ++ tbH pt 228 hs T)) (fun _ hw => hw) ?_
   generalize hdv : Value.slice (some ad) x.d.length kp = dv at *
   have hlen := wkC_len (x := x) (dv := dv) hg4 hr4
   refine e_seq <| esr <| w_val (v_fieldAddrB (o := 0) uT109 rfl rfl Tryz.nz3 rfl) rfl <| w_val (v_loadB 0 rfl uT3 rfl rfl rfl) rfl <| w_nil <| e_block <| esr <| w_val (v_eql rfl rfl) rfl <| wa rfl rfl <| w_nil ?_
   rcases rng_all hf with ⟨hk, ha1⟩ | ⟨hk, ha1⟩ | ⟨hk, ha1, ha2, hb1⟩ | ⟨hk, ha1, ha2, hb1⟩ | ⟨hk, ha1, ha2, hb1⟩ | ⟨hk, ha1, ha2, hb1, hb2, hc2⟩
   ·rw [if_pos hk] at hR
    rw [hR]
    refine e_condDT rfl (by omega) ?_
    refine e_draw ([.blk b6 109 (opCells o)]) Tryz.mixed <| tk 0 rfl (v_move rfl) rfl <| tk 1 rfl (v_fieldAddrB (o := 1) uT109 rfl rfl Tryz.nz3 rfl) rfl <| tk 2 rfl (v_loadB 0 rfl uT3 rfl rfl rfl) rfl <| tk 3 rfl (v_fieldAddrB (o := 4) uT109 rfl rfl Tryz.nz2 rfl) rfl <| tk 4 rfl (v_loadB 0 rfl uT2 rfl rfl rfl) rfl <| tk 5 rfl (v_nilCheck rfl) rfl <| tk 6 rfl (v_fieldAddrB (o := 3) uT243 rfl rfl Tryz.nz94 rfl) rfl ?_
    refine tk 7 rfl (v_indexAB uT94 Tryz.hi2 Tryz.cz2 rfl rfl (by first | omega | decide)) rfl ?_
    refine t1 8 rfl rfl ?_
    refine x_store1 1 rfl rfl rfl Tryz.hi2 Tryz.cz2 rfl (by rw [hlen]; omega) rfl ?_; rw [wk_g_set hg4 _ (by omega) (by omega)]
    refine tn <| td ?_
    refine g_heap (m' := .blk b6 109 (opCells o) :: (wkH p dv { x with g := st x.g o.a o.n } ++ tbH pt 228 hs T)) (fun _ hw => hw) ?_
    refine e_blk <| esr <| wm rfl rfl <| wn rfl rfl <| w_val (v_fieldAddrB (o := 2) uT243 rfl rfl Tryz.nz3 rfl) rfl <| w_val (v_loadB 1 rfl uT3 rfl rfl rfl) rfl ?_
    refine w_val (v_is (v' := .int .i64 ((x.at_ + 1 : Nat) : Int)) (v_add (p := (x.at_ : Int)) (q := 1) rfl rfl (by omega)) (congrArg (Value.int .i64) (by omega))) rfl ?_
    refine wn rfl rfl <| w_val (v_fieldAddrB (o := 2) uT243 rfl rfl Tryz.nz3 rfl) rfl <| w_op rfl <| x_store1 1 rfl rfl rfl Tryz.hi3 Tryz.cz3 rfl wk_lt2 rfl <| wsr <| wa rfl rfl <| wa rfl rfl <| w_nil ?_
    refine e_retQ (q_ret2 rfl (.tmp rfl) (.tmp rfl) ?_)
    exact fun w' hw' => ⟨(), trivial, rfl, (hw'.sub (List.sublist_cons_self _ _)).res⟩
   ·rw [if_neg (by omega), if_neg (by omega), if_neg (by omega), if_pos hk] at hR
    refine e_condDF rfl (by omega) ?_
    refine esr <| w_val (v_eql rfl rfl) rfl <| wa rfl rfl <| w_nil ?_
    refine e_condDF rfl (by omega) ?_
    refine esr <| w_val (v_eql rfl rfl) rfl <| wa rfl rfl <| w_nil ?_
    refine e_condDF rfl (by omega) ?_
    refine esr <| w_val (v_eql rfl rfl) rfl <| wa rfl rfl <| w_nil ?_
    refine e_condDT rfl (by omega) ?_
    refine e_seq <| e_draw ([.blk b6 109 (opCells o), wkB p dv x]) Tryz.mixed <| tk 0 rfl (v_move rfl) rfl <| tk 1 rfl (v_fieldAddrB (o := 1) uT109 rfl rfl Tryz.nz3 rfl) rfl <| tk 2 rfl (v_loadB 0 rfl uT3 rfl rfl rfl) rfl <| tk 3 rfl (v_nilCheck rfl) rfl <| tk 4 rfl (v_fieldAddrB (o := 3) uT243 rfl rfl Tryz.nz94 rfl) rfl ?_
    refine tk 5 rfl (v_indexAB uT94 Tryz.hi2 Tryz.cz2 rfl rfl (by omega)) rfl ?_
    refine tk 6 rfl (v_loadB 1 rfl uT2 rfl rfl (wk_g hg4 (by omega) (by omega))) rfl ?_
    refine tk 7 rfl (v_neq rfl rfl) rfl <| td ?_
    refine e_condD rfl (fun hz => ?_) (fun hz => ?_)
    ·rw [if_pos hz] at hR
     rw [hR]
     refine esr <| wm rfl rfl <| wm rfl rfl <| w_op rfl ?_
     refine x_callM (dst := some 116) (wkH p dv x ++ tbH pt 228 hs T) [.blk b6 109 (opCells o)] (σ := Unit) (fun _ => True) (fun _ => .tuple #[]) (fun _ => wkH p dv (endX x 9) ++ tbH pt 228 hs (endT x 9 T)) (List.perm_append_comm (l₁ := [_])) rfl rfl rfl Tryz.call176 (fun w hw => wkEnd_spec p _ x pt hs T 9 w (res_part hw).1 (res_part hw).2 hn hg hck hg4 hr4) rfl (fun _ _ => ?_)
     refine wsr <| wa rfl rfl <| wa rfl rfl <| w_nil ?_
     refine e_retQ (q_ret2 rfl (.tmp rfl) (.tmp rfl) ?_)
     exact fun w' hw' => ⟨(), trivial, rfl, (hw'.sub (List.sublist_append_left _ _)).res⟩
    ·rw [if_neg hz] at hR
     rw [hR]
     refine e_skip <| e_blk <| esr <| wm rfl rfl <| wn rfl rfl <| w_val (v_fieldAddrB (o := 2) uT243 rfl rfl Tryz.nz3 rfl) rfl <| w_val (v_loadB 1 rfl uT3 rfl rfl rfl) rfl ?_
     refine w_val (v_is (v' := .int .i64 ((x.at_ + 1 : Nat) : Int)) (v_add (p := (x.at_ : Int)) (q := 1) rfl rfl (by omega)) (congrArg (Value.int .i64) (by omega))) rfl ?_
     refine wn rfl rfl <| w_val (v_fieldAddrB (o := 2) uT243 rfl rfl Tryz.nz3 rfl) rfl <| w_op rfl <| x_store1 1 rfl rfl rfl Tryz.hi3 Tryz.cz3 rfl wk_lt2 rfl <| wsr <| wa rfl rfl <| wa rfl rfl <| w_nil ?_
     refine e_retQ (q_ret2 rfl (.tmp rfl) (.tmp rfl) ?_)
     exact fun w' hw' => ⟨(), trivial, rfl, (hw'.sub (List.sublist_cons_self _ _)).res⟩
   ·rw [if_neg (by omega), if_pos hk] at hR
    refine e_condDF rfl (by omega) ?_
    refine esr <| w_val (v_eql rfl rfl) rfl <| wa rfl rfl <| w_nil ?_
    refine e_condDT rfl (by omega) ?_
    refine esr <| wm rfl rfl <| wm rfl rfl <| w_val (v_loadBA 0 rfl uT109 rfl Tryz.hi109 Tryz.cz109 rfl) rfl <| w_op rfl ?_
    refine x_callM (dst := some 77) (wkH p dv x ++ tbH pt 228 hs T) [.blk b6 109 (opCells o)] (σ := Unit) (fun _ => True) (fun _ => ldV x T o) (fun _ => wkH p dv (ldX x T o) ++ tbH pt 228 hs T) (List.perm_append_comm (l₁ := [_])) rfl rfl rfl Tryz.call177 (fun w hw => wkLoad_spec p _ x pt hs T o w (res_part hw).1 (res_part hw).2 hn hg4 hr4 (by omega) (by omega)) rfl (fun _ _ => ?_)
    by_cases hw0 : 0 ≤ (seen x T o.b).2
    ·rw [if_pos hw0] at hR
     rw [hR]
     have h1 : ldX x T o = x := by unfold ldX; rw [if_pos hw0]
     have h2 : ldV x T o = .tuple #[.int .i64 (seen x T o.b).2, .bool false] := by unfold ldV; rw [if_pos hw0]
     rw [h1, h2]
     refine wm rfl rfl <| w_val (v_is (v' := .int .i64 (seen x T o.b).2) (v_extract rfl rfl) rfl) rfl <| w_val (v_is (v' := .bool false) (v_extract rfl rfl) rfl) rfl <| wa rfl rfl <| wa rfl rfl <| wsr <| wm rfl rfl <| w_val (v_not rfl) rfl <| w_nil <| e_condT rfl <| esr <| wm rfl rfl <| wa rfl rfl <| wa rfl rfl <| w_nil ?_
     refine e_retQ (q_ret2 rfl (.tmp rfl) (.tmp rfl) ?_)
     exact fun w' hw' => ⟨(), trivial, rfl, (hw'.sub (List.sublist_append_left _ _)).res⟩
    ·rw [if_neg hw0] at hR
     rw [hR]
     have h1 : ldX x T o = { x with g := st x.g o.a (seen x T o.b).1 } := by unfold ldX; rw [if_neg hw0]
     have h2 : ldV x T o = .tuple #[.int .i64 (-1), .bool true] := by unfold ldV; rw [if_neg hw0]
     rw [h1, h2]
     refine wm rfl rfl <| w_val (v_is (v' := .int .i64 (-1)) (v_extract rfl rfl) rfl) rfl <| w_val (v_is (v' := .bool true) (v_extract rfl rfl) rfl) rfl <| wa rfl rfl <| wa rfl rfl <| wsr <| wm rfl rfl <| w_val (v_not rfl) rfl <| w_nil <| e_condF rfl <| e_skip <| e_blk <| esr <| wm rfl rfl <| wn rfl rfl <| w_val (v_fieldAddrB (o := 2) uT243 rfl rfl Tryz.nz3 rfl) rfl <| w_val (v_loadB 0 rfl uT3 rfl rfl rfl) rfl ?_
     refine w_val (v_is (v' := .int .i64 ((x.at_ + 1 : Nat) : Int)) (v_add (p := (x.at_ : Int)) (q := 1) rfl rfl (by omega)) (congrArg (Value.int .i64) (by omega))) rfl ?_
     refine wn rfl rfl <| w_val (v_fieldAddrB (o := 2) uT243 rfl rfl Tryz.nz3 rfl) rfl <| w_op rfl <| x_store1 0 rfl rfl rfl Tryz.hi3 Tryz.cz3 rfl wk_lt2 rfl <| wsr <| wa rfl rfl <| wa rfl rfl <| w_nil ?_
     refine e_retQ (q_ret2 rfl (.tmp rfl) (.tmp rfl) ?_)
     exact fun w' hw' => ⟨(), trivial, rfl, (hw'.sub (List.sublist_append_left _ _)).res⟩
   ·rw [if_neg (by omega), if_neg (by omega), if_pos hk] at hR
    rw [hR]
    refine e_condDF rfl (by omega) ?_
    refine esr <| w_val (v_eql rfl rfl) rfl <| wa rfl rfl <| w_nil ?_
    refine e_condDF rfl (by omega) ?_
    refine esr <| w_val (v_eql rfl rfl) rfl <| wa rfl rfl <| w_nil ?_
    refine e_condDT rfl (by omega) ?_
    refine e_draw ([.blk b6 109 (opCells o)]) Tryz.mixed <| tk 0 rfl (v_move rfl) rfl <| tk 1 rfl (v_fieldAddrB (o := 1) uT109 rfl rfl Tryz.nz3 rfl) rfl <| tk 2 rfl (v_loadB 0 rfl uT3 rfl rfl rfl) rfl <| tk 3 rfl (v_move rfl) rfl <| tk 4 rfl (v_fieldAddrB (o := 1) uT109 rfl rfl Tryz.nz3 rfl) rfl <| tk 5 rfl (v_loadB 0 rfl uT3 rfl rfl rfl) rfl <| tk 6 rfl (v_move rfl) rfl <| tk 7 rfl (v_fieldAddrB (o := 2) uT109 rfl rfl Tryz.nz3 rfl) rfl <| tk 8 rfl (v_loadB 0 rfl uT3 rfl rfl rfl) rfl <| tk 9 rfl (v_nilCheck rfl) rfl <| tk 10 rfl (v_fieldAddrB (o := 3) uT243 rfl rfl Tryz.nz94 rfl) rfl ?_
    refine tk 11 rfl (v_indexAB uT94 Tryz.hi2 Tryz.cz2 rfl rfl (by omega)) rfl ?_
    refine tk 13 rfl (v_nilCheck rfl) rfl <| tk 14 rfl (v_fieldAddrB (o := 13) uT243 rfl rfl Tryz.nz241 rfl) rfl <| tk 17 rfl (v_nilCheck rfl) rfl <| tk 18 rfl (v_fieldAddrB (o := 23) uT243 rfl rfl Tryz.nz32 rfl) rfl <| t1 12 rfl rfl ?_
    refine x_val (v_loadB 1 rfl uT2 rfl rfl (wk_g hg4 (by omega) (by omega))) rfl ?_
    refine tn ?_
    refine tk 15 rfl (v_indexAB uT241 Tryz.hi4 Tryz.cz4 rfl rfl (by omega)) rfl ?_
    refine t1 16 rfl rfl ?_
    refine x_store1 1 rfl rfl rfl Tryz.hi4 Tryz.cz4 rfl (by rw [hlen]; omega) rfl ?_; rw [wk_put_set hg4 hr4 _ (by omega) (by omega)]
    refine tn ?_
    refine tk 19 rfl (v_indexAB uT32 Tryz.hi2 Tryz.cz2 rfl rfl (by omega)) rfl ?_
    refine t1 20 rfl rfl ?_
    refine x_store1 1 rfl rfl rfl Tryz.hi2 Tryz.cz2 rfl (by rw [wkC_len (x := { x with put := upd x.put o.a.toNat true }) hg4 hr4]; omega) rfl ?_; rw [wk_has_set (x := { x with put := upd x.put o.a.toNat true }) hg4 hr4 _ (by omega) (by omega)]
    refine tn <| td ?_
    refine g_heap (m' := .blk b6 109 (opCells o) :: (wkH p dv { x with put := upd x.put o.a.toNat true, has := upd x.has o.a.toNat (gt x.g o.b) } ++ tbH pt 228 hs T)) (fun _ hw => hw) ?_
    refine e_blk <| esr <| wm rfl rfl <| wn rfl rfl <| w_val (v_fieldAddrB (o := 2) uT243 rfl rfl Tryz.nz3 rfl) rfl <| w_val (v_loadB 1 rfl uT3 rfl rfl rfl) rfl ?_
    refine w_val (v_is (v' := .int .i64 ((x.at_ + 1 : Nat) : Int)) (v_add (p := (x.at_ : Int)) (q := 1) rfl rfl (by omega)) (congrArg (Value.int .i64) (by omega))) rfl ?_
    refine wn rfl rfl <| w_val (v_fieldAddrB (o := 2) uT243 rfl rfl Tryz.nz3 rfl) rfl <| w_op rfl <| x_store1 1 rfl rfl rfl Tryz.hi3 Tryz.cz3 rfl wk_lt2 rfl <| wsr <| wa rfl rfl <| wa rfl rfl <| w_nil ?_
    refine e_retQ (q_ret2 rfl (.tmp rfl) (.tmp rfl) ?_)
    exact fun w' hw' => ⟨(), trivial, rfl, (hw'.sub (List.sublist_cons_self _ _)).res⟩
   ·rw [if_neg (by omega), if_neg (by omega), if_neg (by omega), if_neg (by omega), if_pos hk] at hR
    refine e_condDF rfl (by omega) ?_
    refine esr <| w_val (v_eql rfl rfl) rfl <| wa rfl rfl <| w_nil ?_
    refine e_condDF rfl (by omega) ?_
    refine esr <| w_val (v_eql rfl rfl) rfl <| wa rfl rfl <| w_nil ?_
    refine e_condDF rfl (by omega) ?_
    refine esr <| w_val (v_eql rfl rfl) rfl <| wa rfl rfl <| w_nil ?_
    refine e_condDF rfl (by omega) ?_
    refine esr <| w_val (v_eql rfl rfl) rfl <| wa rfl rfl <| w_nil ?_
    refine e_condDT rfl (by omega) ?_
    refine e_seq <| e_draw ([.blk b6 109 (opCells o), wkB p dv x]) Tryz.mixed <| tk 0 rfl (v_move rfl) rfl <| tk 1 rfl (v_fieldAddrB (o := 1) uT109 rfl rfl Tryz.nz3 rfl) rfl <| tk 2 rfl (v_loadB 0 rfl uT3 rfl rfl rfl) rfl <| tk 3 rfl (v_nilCheck rfl) rfl <| tk 4 rfl (v_fieldAddrB (o := 3) uT243 rfl rfl Tryz.nz94 rfl) rfl ?_
    refine tk 5 rfl (v_indexAB uT94 Tryz.hi2 Tryz.cz2 rfl rfl (by omega)) rfl ?_
    refine tk 6 rfl (v_loadB 1 rfl uT2 rfl rfl (wk_g hg4 (by omega) (by omega))) rfl ?_
    refine tk 7 rfl (v_eql rfl rfl) rfl <| td ?_
    refine e_condD rfl (fun hz => ?_) (fun hz => ?_)
    ·rw [if_pos hz] at hR
     rw [hR]
     obtain ⟨bb, hbb⟩ : ∃ bb : Nat, o.b = bb := ⟨o.b.toNat, by omega⟩
     rw [hbb, Int.toNat_natCast]
     refine e_draw ([.blk b6 109 (opCells o)]) Tryz.mixed <| tk 0 rfl (v_move rfl) rfl <| tk 1 rfl (v_nilCheck rfl) rfl <| tk 2 rfl (v_fieldAddrB (o := 2) uT243 rfl rfl Tryz.nz3 rfl) rfl <| tk 4 rfl (v_fieldAddrB (o := 2) uT109 rfl rfl Tryz.nz3 rfl) rfl <| tk 5 rfl (v_loadB 0 rfl uT3 rfl rfl rfl) rfl <| t1 3 rfl rfl <| x_val (v_loadB 1 rfl uT3 rfl rfl rfl) rfl <| tn ?_
     refine tk 6 rfl (v_is (v' := .int .i64 ((x.at_ + bb : Nat) : Int)) (v_add (p := (x.at_ : Int)) (q := o.b) rfl rfl (by omega)) (congrArg (Value.int .i64) (by omega))) rfl ?_
     refine tk 7 rfl (v_nilCheck rfl) rfl <| tk 8 rfl (v_fieldAddrB (o := 2) uT243 rfl rfl Tryz.nz3 rfl) rfl <| t1 9 rfl rfl <| x_store1 1 rfl rfl rfl Tryz.hi3 Tryz.cz3 rfl wk_lt2 rfl <| tn <| td ?_
     refine g_heap (m' := .blk b6 109 (opCells o) :: (wkH p dv { x with at_ := x.at_ + bb } ++ tbH pt 228 hs T)) (fun _ hw => hw) ?_
     refine e_blk <| esr <| wm rfl rfl <| wn rfl rfl <| w_val (v_fieldAddrB (o := 2) uT243 rfl rfl Tryz.nz3 rfl) rfl <| w_val (v_loadB 1 rfl uT3 rfl rfl rfl) rfl ?_
     refine w_val (v_is (v' := .int .i64 ((x.at_ + 1 + bb : Nat) : Int)) (v_add (p := ((x.at_ + bb : Nat) : Int)) (q := 1) rfl rfl (by omega)) (congrArg (Value.int .i64) (by omega))) rfl ?_
     refine wn rfl rfl <| w_val (v_fieldAddrB (o := 2) uT243 rfl rfl Tryz.nz3 rfl) rfl <| w_op rfl <| x_store1 1 rfl rfl rfl Tryz.hi3 Tryz.cz3 rfl wk_lt2 rfl <| wsr <| wa rfl rfl <| wa rfl rfl <| w_nil ?_
     refine e_retQ (q_ret2 rfl (.tmp rfl) (.tmp rfl) ?_)
     exact fun w' hw' => ⟨(), trivial, rfl, (hw'.sub (List.sublist_cons_self _ _)).res⟩
    ·rw [if_neg hz] at hR
     rw [hR]
     refine e_skip <| e_blk <| esr <| wm rfl rfl <| wn rfl rfl <| w_val (v_fieldAddrB (o := 2) uT243 rfl rfl Tryz.nz3 rfl) rfl <| w_val (v_loadB 1 rfl uT3 rfl rfl rfl) rfl ?_
     refine w_val (v_is (v' := .int .i64 ((x.at_ + 1 : Nat) : Int)) (v_add (p := (x.at_ : Int)) (q := 1) rfl rfl (by omega)) (congrArg (Value.int .i64) (by omega))) rfl ?_
     refine wn rfl rfl <| w_val (v_fieldAddrB (o := 2) uT243 rfl rfl Tryz.nz3 rfl) rfl <| w_op rfl <| x_store1 1 rfl rfl rfl Tryz.hi3 Tryz.cz3 rfl wk_lt2 rfl <| wsr <| wa rfl rfl <| wa rfl rfl <| w_nil ?_
     refine e_retQ (q_ret2 rfl (.tmp rfl) (.tmp rfl) ?_)
     exact fun w' hw' => ⟨(), trivial, rfl, (hw'.sub (List.sublist_cons_self _ _)).res⟩
   ·rw [if_neg (by omega), if_neg (by omega), if_neg (by omega), if_neg (by omega), if_neg (by omega)] at hR
    rw [hR]
    refine e_condDF rfl (by omega) ?_
    refine esr <| w_val (v_eql rfl rfl) rfl <| wa rfl rfl <| w_nil ?_
    refine e_condDF rfl (by omega) ?_
    refine esr <| w_val (v_eql rfl rfl) rfl <| wa rfl rfl <| w_nil ?_
    refine e_condDF rfl (by omega) ?_
    refine esr <| w_val (v_eql rfl rfl) rfl <| wa rfl rfl <| w_nil ?_
    refine e_condDF rfl (by omega) ?_
    refine esr <| w_val (v_eql rfl rfl) rfl <| wa rfl rfl <| w_nil ?_
    refine e_condDF rfl (by omega) ?_
    refine e_cutH (σ := Unit) [0, 1, 6] (.cons rfl (.cons rfl (.cons rfl .nil))) (fun _ => []) (fun _ => .blk b6 109 (opCells o) :: (wkH p dv { x with g := st x.g o.a (arithL o.kind (gt x.g o.b) (gt x.g o.c)) } ++ tbH pt 228 hs T)) (fun _ => True) ?_ ?_
    ·refine e_draw ([.blk b6 109 (opCells o)]) Tryz.mixed <| tk 0 rfl (v_move rfl) rfl <| tk 1 rfl (v_fieldAddrB (o := 1) uT109 rfl rfl Tryz.nz3 rfl) rfl <| tk 2 rfl (v_loadB 0 rfl uT3 rfl rfl rfl) rfl <| tk 3 rfl (v_fieldAddrB (o := 0) uT109 rfl rfl Tryz.nz3 rfl) rfl <| tk 4 rfl (v_loadB 0 rfl uT3 rfl rfl rfl) rfl <| tk 5 rfl (v_move rfl) rfl <| tk 6 rfl (v_fieldAddrB (o := 2) uT109 rfl rfl Tryz.nz3 rfl) rfl <| tk 7 rfl (v_loadB 0 rfl uT3 rfl rfl rfl) rfl <| tk 8 rfl (v_nilCheck rfl) rfl <| tk 9 rfl (v_fieldAddrB (o := 3) uT243 rfl rfl Tryz.nz94 rfl) rfl ?_
     refine tk 10 rfl (v_indexAB uT94 Tryz.hi2 Tryz.cz2 rfl rfl (by omega)) rfl ?_
     refine tk 12 rfl (v_move rfl) rfl <| tk 13 rfl (v_fieldAddrB (o := 3) uT109 rfl rfl Tryz.nz3 rfl) rfl <| tk 14 rfl (v_loadB 0 rfl uT3 rfl rfl rfl) rfl <| tk 15 rfl (v_nilCheck rfl) rfl <| tk 16 rfl (v_fieldAddrB (o := 3) uT243 rfl rfl Tryz.nz94 rfl) rfl ?_
     refine tk 17 rfl (v_indexAB uT94 Tryz.hi2 Tryz.cz2 rfl rfl (by omega)) rfl ?_
     refine tk 20 rfl (v_nilCheck rfl) rfl <| tk 21 rfl (v_fieldAddrB (o := 3) uT243 rfl rfl Tryz.nz94 rfl) rfl ?_
     refine a_all [11, 18] (by kernel_rfl) rfl ?_
     intro i hi
     simp only [List.mem_cons, List.not_mem_nil, or_false] at hi
     rcases hi with rfl | rfl
     ·refine a_op rfl rfl ?_
      refine x_val (v_loadB 1 rfl uT2 rfl rfl (wk_g hg4 (by omega) (by omega))) rfl ?_
      refine tn <| t1 18 rfl rfl ?_
      refine x_val (v_loadB 1 rfl uT2 rfl rfl (wk_g hg4 (by omega) (by omega))) rfl ?_
      refine tn <| t1 19 rfl rfl ?_
      refine x_call0 (v := .int .i64 (arithL o.kind (gt x.g o.b) (gt x.g o.c))) rfl rfl rfl Tryz.call178 rfl (fun w hw => arith_spec _ _ _ w) ?_
      refine tn ?_
      refine tk 22 rfl (v_indexAB uT94 Tryz.hi2 Tryz.cz2 rfl rfl (by omega)) rfl ?_
      refine t1 23 rfl rfl ?_
      refine x_store1 1 rfl rfl rfl Tryz.hi2 Tryz.cz2 rfl (by rw [hlen]; omega) rfl ?_; rw [wk_g_set hg4 _ (by omega) (by omega)]
      refine tn <| td ?_
      exact e_cutEnd () trivial (by repeat first | exact .nil _ | refine .cons rfl ?_) (fun _ hw => hw)
     ·refine a_op rfl rfl ?_
      refine x_val (v_loadB 1 rfl uT2 rfl rfl (wk_g hg4 (by omega) (by omega))) rfl ?_
      refine tn <| t1 11 rfl rfl ?_
      refine x_val (v_loadB 1 rfl uT2 rfl rfl (wk_g hg4 (by omega) (by omega))) rfl ?_
      refine tn <| t1 19 rfl rfl ?_
      refine x_call0 (v := .int .i64 (arithL o.kind (gt x.g o.b) (gt x.g o.c))) rfl rfl rfl Tryz.call178 rfl (fun w hw => arith_spec _ _ _ w) ?_
      refine tn ?_
      refine tk 22 rfl (v_indexAB uT94 Tryz.hi2 Tryz.cz2 rfl rfl (by omega)) rfl ?_
      refine t1 23 rfl rfl ?_
      refine x_store1 1 rfl rfl rfl Tryz.hi2 Tryz.cz2 rfl (by rw [hlen]; omega) rfl ?_; rw [wk_g_set hg4 _ (by omega) (by omega)]
      refine tn <| td ?_
      exact e_cutEnd () trivial (by repeat first | exact .nil _ | refine .cons rfl ?_) (fun _ hw => hw)
    ·rintro - -
     refine e_blk <| esr <| wm rfl rfl <| wn rfl rfl <| w_val (v_fieldAddrB (o := 2) uT243 rfl rfl Tryz.nz3 rfl) rfl <| w_val (v_loadB 1 rfl uT3 rfl rfl rfl) rfl ?_
     refine w_val (v_is (v' := .int .i64 ((x.at_ + 1 : Nat) : Int)) (v_add (p := (x.at_ : Int)) (q := 1) rfl rfl (by omega)) (congrArg (Value.int .i64) (by omega))) rfl ?_
     refine wn rfl rfl <| w_val (v_fieldAddrB (o := 2) uT243 rfl rfl Tryz.nz3 rfl) rfl <| w_op rfl <| x_store1 1 rfl rfl rfl Tryz.hi3 Tryz.cz3 rfl wk_lt2 rfl <| wsr <| wa rfl rfl <| wa rfl rfl <| w_nil ?_
     refine e_retQ (q_ret2 rfl (.tmp rfl) (.tmp rfl) ?_)
     exact fun w' hw' => ⟨(), trivial, rfl, (hw'.sub (List.sublist_cons_self _ _)).res⟩
end Go.SL
end
