/- Ytebdkaadbakhlac: part WJ of this seat's own texts. -/
import Derived.Test.YtebdkaadbakhlacWM
set_option linter.unusedVariables false
set_option linter.unusedSimpArgs false
section

open Go Go.Proofs Go.SL
set_option maxRecDepth 100000
namespace Go.SL
theorem wkEnd_spec (p : Nat) (dv : Value) (x : WkL) (pt : Nat) (hs : Nat → Value) (T : TabL) (c : Int) (w : World) (h : ∀ k ∈ wkH p dv x ++ tbH pt 137 hs T, k.holds w) (hsep : (wkH p dv x ++ tbH pt 137 hs T).Pairwise Disj)
    (hn : ∀ k, k < 10 → (T k).length ≤ 1000) (hg : GoodT T) (hck : (checkL x.d).1 = 0) (hg4 : x.g.length = 4) (hr4 : x.rg.length = 4) :
    Calls Try.prog 67 #[.pointer (some ⟨p, 0, none⟩), .pointer (some ⟨pt, 0, none⟩), .int .i64 c] w fun e w' => ∃ _ : Unit, True ∧ e = .returned (.tuple #[]) ∧ Res w (wkH p dv x ++ tbH pt 137 hs T) (wkH p dv (endX x c) ++ tbH pt 137 hs (endT x c T)) w' := by
  have hd14 := (checked hck).1
  obtain ⟨g0, g1, g2, g3, hge⟩ := list4 hg4
  have hKr : ∀ y ∈ keysL x.d, 0 ≤ y ∧ y < 10 := fun y hy => key_rng hck hy
  have hKn := keysL_nodup x.d
  have hKl := keysL_le x.d
  refine enter (mc := wkH p dv x ++ tbH pt 137 hs T) (N := 61) Try.func67 rfl rfl rfl ?_ ?_ ?_
  · exact h
  · exact hsep
  refine e_seq ?_
  refine e_region ?_
  refine w_val (v_move rfl) rfl ?_
  refine w_val (v_nilCheck rfl) rfl ?_
  refine w_val (v_fieldAddrB (o := 7) Try.underlying130 rfl rfl Try.nz4 rfl) rfl ?_
  refine w_op rfl ?_
  refine x_store1 0 rfl rfl rfl Try.hi4 Try.cz4 rfl (by rw [wkC_len hg4 hr4]; decide) rfl ?_; rw [wk_ov_set hg4]
  refine w_nil ?_
  refine e_seq ?_
  refine e_region ?_
  refine w_val (v_move rfl) rfl ?_
  refine w_val (v_move rfl) rfl ?_
  refine w_val (v_move rfl) rfl ?_
  refine w_val (v_nilCheck rfl) rfl ?_
  refine w_val (v_fieldAddrB (o := 3) Try.underlying130 rfl rfl Try.nz28 rfl) rfl ?_
  refine w_val (v_loadBN 0 rfl Try.underlying28 rfl Try.hi28 Try.cz28 rfl (cs' := intCells [g0, g1, g2, g3]) (by rw [← hge]; exact wk_regs (x := { x with ov := true }) hg4) rfl) rfl ?_
  refine w_val (v_build (v := .agg (resCells c [g0, g1, g2, g3]).toArray) _ rfl (by intro _; simp [Instr.build, Instr.fill, Try.zeroValue30, intCells, go_sem]; rfl)) rfl ?_
  refine w_val (v_nilCheck rfl) rfl ?_
  refine w_val (v_fieldAddrB (o := 8) Try.underlying130 rfl rfl Try.nz30 rfl) rfl ?_
  refine w_op rfl ?_
  refine x_store 0 rfl rfl rfl Try.hi30 Try.cz30 (by rw [wkC_len (x := { x with ov := true }) hg4 hr4]; exact (by decide : 0 + 8 + 5 ≤ 33)) (one_resCells c [g0, g1, g2, g3]) (wkC (endX x c) dv) (by rw [show endX x c = { ({ x with ov := true } : WkL) with rc := c, rg := [g0, g1, g2, g3] } from by rw [← hge]; rfl]; exact wk_res_set (x := { x with ov := true }) hg4 hr4 c rfl) ?_
  refine w_nil ?_
  refine e_seq ?_
  refine e_region ?_
  refine w_val (v_move rfl) rfl ?_
  refine w_val (v_nilCheck rfl) rfl ?_
  refine w_val (v_fieldAddrB (o := 0) Try.underlying130 rfl rfl Try.nz25 rfl) rfl ?_
  refine w_val (v_loadB 0 rfl Try.underlying25 rfl rfl rfl) rfl ?_
  refine w_op rfl ?_
  refine x_call (dst := some 24) (mc := []) (σ := Value) (fun _ => True) (fun sl => sl) (fun sl => [Own sl 3 1 (keysL x.d).length (intsC (keysL x.d))]) rfl rfl rfl Try.call95 (fun w hw => codeKeys_spec dv x.d w (own_rds (hw.hold (Own dv 118 5 x.d.length (deedCells x.d)) (List.mem_cons_of_mem _ List.mem_cons_self))) (by omega)) rfl (fun sl _ => ?_)
  refine g_heap (m' := Own sl 3 1 (keysL x.d).length (intsC (keysL x.d)) :: (wkH p dv (endX x c) ++ tbH pt 137 hs T)) (fun _ hw => hw) ?_
  have hT0 : T = endTo x c T ((keysL x.d).take 0) := by rw [List.take_zero, endTo_nil]
  have hall : endTo x c T ((keysL x.d).take (keysL x.d).length) = endT x c T := by rw [List.take_length, endTo_all]
  generalize hK : keysL x.d = K at *
  refine g_shape2 0 rfl fun A1 k1 hv1 hk1 hA1 => ?_
  subst hv1
  refine w_val (v_lenS Try.underlying51 rfl) rfl ?_
  refine w_val (v_move rfl) rfl ?_
  refine w_nil ?_
  refine e_block ?_
  refine e_loopH (σ := Nat) [0, 1, 2, 24, 25] (.cons rfl (.cons rfl (.cons rfl (.cons rfl (.cons rfl .nil))))) (fun j => [(26, .int .i64 (j : Int))]) (fun j => Own (.slice A1 K.length k1) 3 1 K.length (intsC K) :: (wkH p dv (endX x c) ++ tbH pt 137 hs (endTo x c T (K.take j)))) (fun j => j ≤ K.length) (fun j => K.length - j) 0 (Nat.zero_le _) (by repeat (first | exact Sub.nil _ | refine Sub.cons rfl ?_)) (fun _ hw => by rw [hT0] at hw; exact hw) ?_
  rintro j hj
  refine e_seq ?_
  refine e_region ?_
  refine w_val (v_lss rfl rfl) rfl ?_
  refine w_nil ?_
  refine e_seq ?_
  refine e_condD rfl (fun hlt => ?_) (fun hlt => ?_)
  · have hj' : j < K.length := by omega
    have hget := ints_get hj'
    have hrng := hKr _ (List.getElem_mem hj')
    have hnot : K[j] ∉ K.take j := fun h => by
      rw [List.mem_take_iff_getElem] at h
      obtain ⟨m, hm, he⟩ := h
      exact List.pairwise_iff_getElem.1 hKn m j (by omega) hj' (by omega) he
    have htk : K.take (j + 1) = K.take j ++ [K[j]] := List.take_succ_eq_append_getElem hj'
    obtain ⟨ad2, rfl⟩ := hA1 (by omega)
    obtain ⟨kk, hkk⟩ : ∃ n : Nat, K[j] = n := ⟨K[j].toNat, by omega⟩
    rw [hkk] at hget hrng hnot htk
    have hkk' : kk < 10 := by omega
    have hstep := endTo_step (x := x) (c := c) (T := T) hkk' hnot
    rw [← htk] at hstep
    have hnT : ∀ k, k < 10 → (endTo x c T (K.take j) k).length ≤ 1000 := fun k hk => by rw [endTo_len]; exact hn k hk
    have hgT : GoodT (endTo x c T (K.take j)) := endTo_good hg
    generalize endTo x c T (K.take j) = T1 at *
    refine e_skip ?_
    refine e_seq ?_
    refine e_block ?_
    refine e_seq ?_
    refine e_region ?_
    refine w_val (v_indexS Try.underlying51 Try.hi3 Try.cz3 rfl rfl (by first | omega | decide)) rfl ?_
    refine w_val (v_loadW 0 rfl (by omega) hget Try.underlying3 rfl rfl) rfl ?_
    refine w_val (v_assign rfl) rfl ?_
    refine w_nil ?_
    refine e_seq ?_
    have hput := wk_put (x := endX x c) (dv := dv) hg4 hg4 hrng.1 hrng.2
    have hhas := wk_has (x := endX x c) (dv := dv) hg4 hg4 hrng.1 hrng.2
    rw [Int.toNat_natCast] at hput hhas
    by_cases hsp : c = 0 ∧ x.put kk = true
    · have he : endSlot x c kk = ⟨x.by_, false, false, x.has kk⟩ := by unfold endSlot; rw [if_pos hsp]
      rw [he] at hstep
      obtain ⟨hc0, hp⟩ := hsp
      refine e_region ?_
      refine w_val (v_move rfl) rfl ?_
      refine w_val (v_is (v' := .bool true) (v_eql rfl rfl) (by rw [decide_eq_true hc0])) rfl ?_
      refine w_val (v_move rfl) rfl ?_
      refine w_want rfl rfl ?_
      refine w_val (v_move rfl) rfl ?_
      refine w_want rfl rfl ?_
      refine w_val (v_move rfl) rfl ?_
      refine w_want rfl rfl ?_
      refine w_val (v_nilCheck rfl) rfl ?_
      refine w_want rfl rfl ?_
      refine w_val (v_fieldAddrB (o := 13) Try.underlying130 rfl rfl Try.nz128 rfl) rfl ?_
      refine w_want rfl rfl ?_
      refine w_val (v_indexAB Try.underlying128 Try.hi4 Try.cz4 rfl rfl (by first | omega | decide)) rfl ?_
      refine w_want rfl rfl ?_
      refine w_val (v_is (v' := .bool true) (v_loadB 1 rfl Try.underlying4 rfl rfl hput) (congrArg Value.bool hp)) rfl ?_
      refine w_val (v_pickT rfl rfl) rfl ?_
      refine w_nil ?_
      refine e_condT rfl ?_
      refine e_draw ([wkB p dv (endX x c)]) Try.mixed ?_
      refine a_take 0 pan_cx (by kernel_rfl) (fun _ hw => hw.sub (by repeat (first | exact List.Sublist.slnil | exact List.Sublist.refl _ | apply List.Sublist.cons_cons | apply List.Sublist.cons))) rfl (by kernel_rfl) (by kernel_rfl) (v_move rfl) rfl ?_
      refine a_take 1 pan_cx (by kernel_rfl) (fun _ hw => hw.sub (by repeat (first | exact List.Sublist.slnil | exact List.Sublist.refl _ | apply List.Sublist.cons_cons | apply List.Sublist.cons))) rfl (by kernel_rfl) (by kernel_rfl) (v_move rfl) rfl ?_
      refine a_take 2 pan_cx (by kernel_rfl) (fun _ hw => hw.sub (by repeat (first | exact List.Sublist.slnil | exact List.Sublist.refl _ | apply List.Sublist.cons_cons | apply List.Sublist.cons))) rfl (by kernel_rfl) (by kernel_rfl) (v_move rfl) rfl ?_
      refine a_take 3 pan_cx (by kernel_rfl) (fun _ hw => hw.sub (by repeat (first | exact List.Sublist.slnil | exact List.Sublist.refl _ | apply List.Sublist.cons_cons | apply List.Sublist.cons))) rfl (by kernel_rfl) (by kernel_rfl) (v_nilCheck rfl) rfl ?_
      refine a_take 4 pan_cx (by kernel_rfl) (fun _ hw => hw.sub (by repeat (first | exact List.Sublist.slnil | exact List.Sublist.refl _ | apply List.Sublist.cons_cons | apply List.Sublist.cons))) rfl (by kernel_rfl) (by kernel_rfl) (v_fieldAddrB (o := 1) Try.underlying130 rfl rfl Try.nz3 rfl) rfl ?_
      refine a_take 5 pan_cx (by kernel_rfl) (fun _ hw => hw.sub (by repeat (first | exact List.Sublist.slnil | exact List.Sublist.refl _ | apply List.Sublist.cons_cons | apply List.Sublist.cons))) rfl (by kernel_rfl) (by kernel_rfl) (v_loadB 0 rfl Try.underlying3 rfl rfl rfl) rfl ?_
      refine a_take 6 pan_cx (by kernel_rfl) (fun _ hw => hw.sub (by repeat (first | exact List.Sublist.slnil | exact List.Sublist.refl _ | apply List.Sublist.cons_cons | apply List.Sublist.cons))) rfl (by kernel_rfl) (by kernel_rfl) (v_move rfl) rfl ?_
      refine a_take 7 pan_cx (by kernel_rfl) (fun _ hw => hw.sub (by repeat (first | exact List.Sublist.slnil | exact List.Sublist.refl _ | apply List.Sublist.cons_cons | apply List.Sublist.cons))) rfl (by kernel_rfl) (by kernel_rfl) (v_move rfl) rfl ?_
      refine a_take 8 pan_cx (by kernel_rfl) (fun _ hw => hw.sub (by repeat (first | exact List.Sublist.slnil | exact List.Sublist.refl _ | apply List.Sublist.cons_cons | apply List.Sublist.cons))) rfl (by kernel_rfl) (by kernel_rfl) (v_nilCheck rfl) rfl ?_
      refine a_take 9 pan_cx (by kernel_rfl) (fun _ hw => hw.sub (by repeat (first | exact List.Sublist.slnil | exact List.Sublist.refl _ | apply List.Sublist.cons_cons | apply List.Sublist.cons))) rfl (by kernel_rfl) (by kernel_rfl) (v_fieldAddrB (o := 23) Try.underlying130 rfl rfl Try.nz23 rfl) rfl ?_
      refine a_take 10 pan_cx (by kernel_rfl) (fun _ hw => hw.sub (by repeat (first | exact List.Sublist.slnil | exact List.Sublist.refl _ | apply List.Sublist.cons_cons | apply List.Sublist.cons))) rfl (by kernel_rfl) (by kernel_rfl) (v_indexAB Try.underlying23 Try.hi2 Try.cz2 rfl rfl (by first | omega | decide)) rfl ?_
      refine a_take 11 pan_cx (by kernel_rfl) (fun _ hw => hw.sub (by repeat (first | exact List.Sublist.slnil | exact List.Sublist.refl _ | apply List.Sublist.cons_cons | apply List.Sublist.cons))) rfl (by kernel_rfl) (by kernel_rfl) (v_loadB 0 rfl Try.underlying2 rfl rfl hhas) rfl ?_
      refine a_one 12 (by kernel_rfl) rfl rfl ?_
      refine x_callM (dst := some 52) (tbH pt 137 hs T1) [Own (.slice (some ad2) K.length k1) 3 1 K.length (intsC K), wkB p dv (endX x c), Own dv 118 5 x.d.length (deedCells x.d)] (σ := Unit) (fun _ => True) (fun _ => .bool (hasT T1 kk x.by_)) (fun _ => tbH pt 137 hs (chgT T1 kk x.by_ ⟨x.by_, false, false, x.has kk⟩)) (List.perm_append_comm (l₁ := [_, _, _])) rfl rfl rfl Try.call97 (fun w hw => tabSet_spec pt hs T1 kk x.by_ (x.has kk) w (res_part hw).1 (res_part hw).2 hnT hgT) rfl (fun _ _ => ?_)
      refine a_and (fun _ hw => hw.sub (by repeat (first | exact List.Sublist.slnil | exact List.Sublist.refl _ | apply List.Sublist.cons_cons | apply List.Sublist.cons))) ?_
      refine a_done (by kernel_rfl) ?_
      rw [hstep]
      refine e_blk ?_
      refine e_region ?_
      refine w_val (v_add rfl rfl (by omega)) rfl ?_
      refine w_val (v_move rfl) rfl ?_
      refine w_nil ?_
      exact e_round (j + 1) (by omega) (by omega) (by repeat (first | exact Sub.nil _ | refine Sub.cons rfl ?_)) (fun _ hw => hw.perm (List.perm_append_comm (l₂ := [_, _, _])))
    · have he : endSlot x c kk = ⟨x.by_, false, true, 0⟩ := by unfold endSlot; rw [if_neg hsp]
      rw [he] at hstep
      by_cases hc0 : c = 0
      · have hp : x.put kk = false := by
          cases hpp : x.put kk with
          | true => exact absurd ⟨hc0, hpp⟩ hsp
          | false => rfl
        refine e_region ?_
        refine w_val (v_move rfl) rfl ?_
        refine w_val (v_is (v' := .bool true) (v_eql rfl rfl) (by rw [decide_eq_true hc0])) rfl ?_
        refine w_val (v_move rfl) rfl ?_
        refine w_want rfl rfl ?_
        refine w_val (v_move rfl) rfl ?_
        refine w_want rfl rfl ?_
        refine w_val (v_move rfl) rfl ?_
        refine w_want rfl rfl ?_
        refine w_val (v_nilCheck rfl) rfl ?_
        refine w_want rfl rfl ?_
        refine w_val (v_fieldAddrB (o := 13) Try.underlying130 rfl rfl Try.nz128 rfl) rfl ?_
        refine w_want rfl rfl ?_
        refine w_val (v_indexAB Try.underlying128 Try.hi4 Try.cz4 rfl rfl (by first | omega | decide)) rfl ?_
        refine w_want rfl rfl ?_
        refine w_val (v_is (v' := .bool false) (v_loadB 1 rfl Try.underlying4 rfl rfl hput) (congrArg Value.bool hp)) rfl ?_
        refine w_val (v_pickT rfl rfl) rfl ?_
        refine w_nil ?_
        refine e_condF rfl ?_
        refine e_region ?_
        refine w_val (v_move rfl) rfl ?_
        refine w_val (v_move rfl) rfl ?_
        refine w_val (v_move rfl) rfl ?_
        refine w_val (v_nilCheck rfl) rfl ?_
        refine w_val (v_fieldAddrB (o := 1) Try.underlying130 rfl rfl Try.nz3 rfl) rfl ?_
        refine w_val (v_loadB 1 rfl Try.underlying3 rfl rfl rfl) rfl ?_
        refine w_op rfl ?_
        refine x_callM (dst := some 59) (tbH pt 137 hs T1) [Own (.slice (some ad2) K.length k1) 3 1 K.length (intsC K), wkB p dv (endX x c), Own dv 118 5 x.d.length (deedCells x.d)] (σ := Unit) (fun _ => True) (fun _ => .bool (hasT T1 kk x.by_)) (fun _ => tbH pt 137 hs (chgT T1 kk x.by_ ⟨x.by_, false, true, 0⟩)) (List.perm_append_comm (l₁ := [_, _, _])) rfl rfl rfl Try.call98 (fun w hw => tabVoid_spec pt hs T1 kk x.by_ w (res_part hw).1 (res_part hw).2 hnT hgT) rfl (fun _ _ => ?_); rw [hstep]
        refine w_nil ?_
        refine e_blk ?_
        refine e_region ?_
        refine w_val (v_add rfl rfl (by omega)) rfl ?_
        refine w_val (v_move rfl) rfl ?_
        refine w_nil ?_
        exact e_round (j + 1) (by omega) (by omega) (by repeat (first | exact Sub.nil _ | refine Sub.cons rfl ?_)) (fun _ hw => hw.perm (List.perm_append_comm (l₂ := [_, _, _])))
      · refine e_region ?_
        refine w_val (v_move rfl) rfl ?_
        refine w_val (v_is (v' := .bool false) (v_eql rfl rfl) (by rw [decide_eq_false hc0])) rfl ?_
        refine w_val (v_move rfl) rfl ?_
        refine w_skip rfl rfl rfl rfl ?_
        refine w_skip rfl rfl rfl rfl ?_
        refine w_skip rfl rfl rfl rfl ?_
        refine w_skip rfl rfl rfl rfl ?_
        refine w_skip rfl rfl rfl rfl ?_
        refine w_skip rfl rfl rfl rfl ?_
        refine w_val (v_pickF rfl rfl) rfl ?_
        refine w_nil ?_
        refine e_condF rfl ?_
        refine e_region ?_
        refine w_val (v_move rfl) rfl ?_
        refine w_val (v_move rfl) rfl ?_
        refine w_val (v_move rfl) rfl ?_
        refine w_val (v_nilCheck rfl) rfl ?_
        refine w_val (v_fieldAddrB (o := 1) Try.underlying130 rfl rfl Try.nz3 rfl) rfl ?_
        refine w_val (v_loadB 1 rfl Try.underlying3 rfl rfl rfl) rfl ?_
        refine w_op rfl ?_
        refine x_callM (dst := some 59) (tbH pt 137 hs T1) [Own (.slice (some ad2) K.length k1) 3 1 K.length (intsC K), wkB p dv (endX x c), Own dv 118 5 x.d.length (deedCells x.d)] (σ := Unit) (fun _ => True) (fun _ => .bool (hasT T1 kk x.by_)) (fun _ => tbH pt 137 hs (chgT T1 kk x.by_ ⟨x.by_, false, true, 0⟩)) (List.perm_append_comm (l₁ := [_, _, _])) rfl rfl rfl Try.call98 (fun w hw => tabVoid_spec pt hs T1 kk x.by_ w (res_part hw).1 (res_part hw).2 hnT hgT) rfl (fun _ _ => ?_); rw [hstep]
        refine w_nil ?_
        refine e_blk ?_
        refine e_region ?_
        refine w_val (v_add rfl rfl (by omega)) rfl ?_
        refine w_val (v_move rfl) rfl ?_
        refine w_nil ?_
        exact e_round (j + 1) (by omega) (by omega) (by repeat (first | exact Sub.nil _ | refine Sub.cons rfl ?_)) (fun _ hw => hw.perm (List.perm_append_comm (l₂ := [_, _, _])))
  · have e : j = K.length := by omega
    subst e
    rw [hall]
    refine e_exit rfl ?_
    refine e_endQ (q_ret0 rfl ?_)
    exact fun w' hw' => ⟨(), trivial, rfl, (hw'.sub (List.sublist_cons_self _ _)).res⟩
end Go.SL
end
section

open Go Go.Proofs Go.SL
set_option maxRecDepth 100000
namespace Go.SL
def ldX (x : WkL) (T : TabL) (o : OpL) : WkL := if 0 ≤ (seen x T o.b).2 then x else { x with g := st x.g o.a (seen x T o.b).1 }
def ldV (x : WkL) (T : TabL) (o : OpL) : Value := if 0 ≤ (seen x T o.b).2 then .tuple #[.int .i64 (seen x T o.b).2, .bool false] else .tuple #[.int .i64 (-1), .bool true]
theorem wkLoad_spec (p : Nat) (dv : Value) (x : WkL) (pt : Nat) (hs : Nat → Value) (T : TabL) (o : OpL) (w : World) (h : ∀ k ∈ wkH p dv x ++ tbH pt 137 hs T, k.holds w) (hsep : (wkH p dv x ++ tbH pt 137 hs T).Pairwise Disj)
    (hn : ∀ k, k < 10 → (T k).length ≤ 1000) (hg4 : x.g.length = 4) (hr4 : x.rg.length = 4) (ha : 0 ≤ o.a ∧ o.a < 4) (hb : 0 ≤ o.b ∧ o.b < 10) :
    Calls Try.prog 68 #[.pointer (some ⟨p, 0, none⟩), .pointer (some ⟨pt, 0, none⟩), opV o] w fun e w' => ∃ _ : Unit, True ∧ e = .returned (ldV x T o) ∧ Res w (wkH p dv x ++ tbH pt 137 hs T) (wkH p dv (ldX x T o) ++ tbH pt 137 hs T) w' := by
  have hput := wk_put (x := x) (dv := dv) hg4 hr4 hb.1 hb.2
  have hhas := wk_has (x := x) (dv := dv) hg4 hr4 hb.1 hb.2
  refine enter (mc := wkH p dv x ++ tbH pt 137 hs T) (N := 48) Try.func68 rfl rfl rfl ?_ ?_ ?_
  · exact h
  · exact hsep
  refine e_seq ?_
  refine e_region ?_
  refine w_op rfl ?_
  refine x_box rfl rfl (fun b5 => ?_); refine w_heap (m' := .blk b5 118 (opCells o) :: (wkH p dv x ++ tbH pt 137 hs T)) (fun _ hw => hw) ?_
  refine w_val (v_assign rfl) rfl ?_
  refine w_val (v_assign rfl) rfl ?_
  refine w_nil ?_
  refine e_seq ?_
  refine e_draw ([.blk b5 118 (opCells o), wkB p dv x]) Try.mixed ?_
  refine a_take 0 pan_cx (by kernel_rfl) (fun _ hw => hw.sub (by repeat (first | exact List.Sublist.slnil | exact List.Sublist.refl _ | apply List.Sublist.cons_cons | apply List.Sublist.cons))) rfl (by kernel_rfl) (by kernel_rfl) (v_move rfl) rfl ?_
  refine a_take 1 pan_cx (by kernel_rfl) (fun _ hw => hw.sub (by repeat (first | exact List.Sublist.slnil | exact List.Sublist.refl _ | apply List.Sublist.cons_cons | apply List.Sublist.cons))) rfl (by kernel_rfl) (by kernel_rfl) (v_fieldAddrB (o := 2) Try.underlying118 rfl rfl Try.nz3 rfl) rfl ?_
  refine a_take 2 pan_cx (by kernel_rfl) (fun _ hw => hw.sub (by repeat (first | exact List.Sublist.slnil | exact List.Sublist.refl _ | apply List.Sublist.cons_cons | apply List.Sublist.cons))) rfl (by kernel_rfl) (by kernel_rfl) (v_loadB 0 rfl Try.underlying3 rfl rfl rfl) rfl ?_
  refine a_take 3 pan_cx (by kernel_rfl) (fun _ hw => hw.sub (by repeat (first | exact List.Sublist.slnil | exact List.Sublist.refl _ | apply List.Sublist.cons_cons | apply List.Sublist.cons))) rfl (by kernel_rfl) (by kernel_rfl) (v_nilCheck rfl) rfl ?_
  refine a_take 4 pan_cx (by kernel_rfl) (fun _ hw => hw.sub (by repeat (first | exact List.Sublist.slnil | exact List.Sublist.refl _ | apply List.Sublist.cons_cons | apply List.Sublist.cons))) rfl (by kernel_rfl) (by kernel_rfl) (v_fieldAddrB (o := 23) Try.underlying130 rfl rfl Try.nz23 rfl) rfl ?_
  refine a_take 5 pan_cx (by kernel_rfl) (fun _ hw => hw.sub (by repeat (first | exact List.Sublist.slnil | exact List.Sublist.refl _ | apply List.Sublist.cons_cons | apply List.Sublist.cons))) rfl (by kernel_rfl) (by kernel_rfl) (v_indexAB Try.underlying23 Try.hi2 Try.cz2 rfl rfl (by first | omega | decide)) rfl ?_
  refine a_take 6 pan_cx (by kernel_rfl) (fun _ hw => hw.sub (by repeat (first | exact List.Sublist.slnil | exact List.Sublist.refl _ | apply List.Sublist.cons_cons | apply List.Sublist.cons))) rfl (by kernel_rfl) (by kernel_rfl) (v_loadB 1 rfl Try.underlying2 rfl rfl hhas) rfl ?_
  refine a_take 7 pan_cx (by kernel_rfl) (fun _ hw => hw.sub (by repeat (first | exact List.Sublist.slnil | exact List.Sublist.refl _ | apply List.Sublist.cons_cons | apply List.Sublist.cons))) rfl (by kernel_rfl) (by kernel_rfl) (v_assign rfl) rfl ?_
  refine a_done (by kernel_rfl) ?_
  refine e_seq ?_
  refine e_seq ?_
  refine e_draw ([.blk b5 118 (opCells o), wkB p dv x]) Try.mixed ?_
  refine a_take 0 pan_cx (by kernel_rfl) (fun _ hw => hw.sub (by repeat (first | exact List.Sublist.slnil | exact List.Sublist.refl _ | apply List.Sublist.cons_cons | apply List.Sublist.cons))) rfl (by kernel_rfl) (by kernel_rfl) (v_move rfl) rfl ?_
  refine a_take 1 pan_cx (by kernel_rfl) (fun _ hw => hw.sub (by repeat (first | exact List.Sublist.slnil | exact List.Sublist.refl _ | apply List.Sublist.cons_cons | apply List.Sublist.cons))) rfl (by kernel_rfl) (by kernel_rfl) (v_fieldAddrB (o := 2) Try.underlying118 rfl rfl Try.nz3 rfl) rfl ?_
  refine a_take 2 pan_cx (by kernel_rfl) (fun _ hw => hw.sub (by repeat (first | exact List.Sublist.slnil | exact List.Sublist.refl _ | apply List.Sublist.cons_cons | apply List.Sublist.cons))) rfl (by kernel_rfl) (by kernel_rfl) (v_loadB 0 rfl Try.underlying3 rfl rfl rfl) rfl ?_
  refine a_take 3 pan_cx (by kernel_rfl) (fun _ hw => hw.sub (by repeat (first | exact List.Sublist.slnil | exact List.Sublist.refl _ | apply List.Sublist.cons_cons | apply List.Sublist.cons))) rfl (by kernel_rfl) (by kernel_rfl) (v_nilCheck rfl) rfl ?_
  refine a_take 4 pan_cx (by kernel_rfl) (fun _ hw => hw.sub (by repeat (first | exact List.Sublist.slnil | exact List.Sublist.refl _ | apply List.Sublist.cons_cons | apply List.Sublist.cons))) rfl (by kernel_rfl) (by kernel_rfl) (v_fieldAddrB (o := 13) Try.underlying130 rfl rfl Try.nz128 rfl) rfl ?_
  refine a_take 5 pan_cx (by kernel_rfl) (fun _ hw => hw.sub (by repeat (first | exact List.Sublist.slnil | exact List.Sublist.refl _ | apply List.Sublist.cons_cons | apply List.Sublist.cons))) rfl (by kernel_rfl) (by kernel_rfl) (v_indexAB Try.underlying128 Try.hi4 Try.cz4 rfl rfl (by omega)) rfl ?_
  refine a_take 6 pan_cx (by kernel_rfl) (fun _ hw => hw.sub (by repeat (first | exact List.Sublist.slnil | exact List.Sublist.refl _ | apply List.Sublist.cons_cons | apply List.Sublist.cons))) rfl (by kernel_rfl) (by kernel_rfl) (v_loadB 1 rfl Try.underlying4 rfl rfl hput) rfl ?_
  refine a_take 7 pan_cx (by kernel_rfl) (fun _ hw => hw.sub (by repeat (first | exact List.Sublist.slnil | exact List.Sublist.refl _ | apply List.Sublist.cons_cons | apply List.Sublist.cons))) rfl (by kernel_rfl) (by kernel_rfl) (v_not rfl) rfl ?_
  refine a_done (by kernel_rfl) ?_
  cases hp : x.put o.b.toNat with
  | true =>
    have hsn : seen x T o.b = (x.has o.b.toNat, -1) := by unfold seen; rw [if_pos hp]
    have h1 : ldX x T o = { x with g := st x.g o.a (x.has o.b.toNat) } := by unfold ldX; rw [hsn, if_neg (by simp)]
    have h2 : ldV x T o = .tuple #[.int .i64 (-1), .bool true] := by unfold ldV; rw [hsn, if_neg (by simp)]
    rw [h1, h2]
    refine e_condF rfl ?_
    refine e_skip ?_
    refine e_seq ?_
    refine e_draw ([.blk b5 118 (opCells o)]) Try.mixed ?_
    refine a_take 0 pan_cx (by kernel_rfl) (fun _ hw => hw.sub (by repeat (first | exact List.Sublist.slnil | exact List.Sublist.refl _ | apply List.Sublist.cons_cons | apply List.Sublist.cons))) rfl (by kernel_rfl) (by kernel_rfl) (v_move rfl) rfl ?_
    refine a_take 1 pan_cx (by kernel_rfl) (fun _ hw => hw.sub (by repeat (first | exact List.Sublist.slnil | exact List.Sublist.refl _ | apply List.Sublist.cons_cons | apply List.Sublist.cons))) rfl (by kernel_rfl) (by kernel_rfl) (v_fieldAddrB (o := 1) Try.underlying118 rfl rfl Try.nz3 rfl) rfl ?_
    refine a_take 2 pan_cx (by kernel_rfl) (fun _ hw => hw.sub (by repeat (first | exact List.Sublist.slnil | exact List.Sublist.refl _ | apply List.Sublist.cons_cons | apply List.Sublist.cons))) rfl (by kernel_rfl) (by kernel_rfl) (v_loadB 0 rfl Try.underlying3 rfl rfl rfl) rfl ?_
    refine a_take 3 pan_cx (by kernel_rfl) (fun _ hw => hw.sub (by repeat (first | exact List.Sublist.slnil | exact List.Sublist.refl _ | apply List.Sublist.cons_cons | apply List.Sublist.cons))) rfl (by kernel_rfl) (by kernel_rfl) (v_move rfl) rfl ?_
    refine a_take 4 pan_cx (by kernel_rfl) (fun _ hw => hw.sub (by repeat (first | exact List.Sublist.slnil | exact List.Sublist.refl _ | apply List.Sublist.cons_cons | apply List.Sublist.cons))) rfl (by kernel_rfl) (by kernel_rfl) (v_nilCheck rfl) rfl ?_
    refine a_take 5 pan_cx (by kernel_rfl) (fun _ hw => hw.sub (by repeat (first | exact List.Sublist.slnil | exact List.Sublist.refl _ | apply List.Sublist.cons_cons | apply List.Sublist.cons))) rfl (by kernel_rfl) (by kernel_rfl) (v_fieldAddrB (o := 3) Try.underlying130 rfl rfl Try.nz28 rfl) rfl ?_
    refine a_take 6 pan_cx (by kernel_rfl) (fun _ hw => hw.sub (by repeat (first | exact List.Sublist.slnil | exact List.Sublist.refl _ | apply List.Sublist.cons_cons | apply List.Sublist.cons))) rfl (by kernel_rfl) (by kernel_rfl) (v_indexAB Try.underlying28 Try.hi2 Try.cz2 rfl rfl (by omega)) rfl ?_
    refine a_one 7 (by kernel_rfl) rfl rfl ?_
    refine x_store1 1 rfl rfl rfl Try.hi2 Try.cz2 rfl (by rw [wkC_len hg4 hr4]; omega) rfl ?_; rw [wk_g_set hg4 _ ha.1 ha.2]
    refine a_and (fun _ hw => hw.sub (by repeat (first | exact List.Sublist.slnil | exact List.Sublist.refl _ | apply List.Sublist.cons_cons | apply List.Sublist.cons))) ?_
    refine a_done (by kernel_rfl) ?_
    refine e_seq ?_
    refine e_region ?_
    refine w_val (v_assign rfl) rfl ?_
    refine w_val (v_assign rfl) rfl ?_
    refine w_nil ?_
    refine e_retQ (q_ret2 rfl (.tmp rfl) (.tmp rfl) ?_)
    exact fun w' hw' => ⟨(), trivial, rfl, (hw'.sub (List.sublist_cons_self _ _)).res⟩
  | false =>
    have hsn : seen x T o.b = befT T o.b x.by_ := by unfold seen; rw [if_neg (by simp [hp])]
    refine e_condT rfl ?_
    refine e_seq ?_
    refine e_draw ([.blk b5 118 (opCells o), wkB p dv x]) Try.mixed ?_
    refine a_take 0 pan_cx (by kernel_rfl) (fun _ hw => hw.sub (by repeat (first | exact List.Sublist.slnil | exact List.Sublist.refl _ | apply List.Sublist.cons_cons | apply List.Sublist.cons))) rfl (by kernel_rfl) (by kernel_rfl) (v_move rfl) rfl ?_
    refine a_take 1 pan_cx (by kernel_rfl) (fun _ hw => hw.sub (by repeat (first | exact List.Sublist.slnil | exact List.Sublist.refl _ | apply List.Sublist.cons_cons | apply List.Sublist.cons))) rfl (by kernel_rfl) (by kernel_rfl) (v_fieldAddrB (o := 2) Try.underlying118 rfl rfl Try.nz3 rfl) rfl ?_
    refine a_take 2 pan_cx (by kernel_rfl) (fun _ hw => hw.sub (by repeat (first | exact List.Sublist.slnil | exact List.Sublist.refl _ | apply List.Sublist.cons_cons | apply List.Sublist.cons))) rfl (by kernel_rfl) (by kernel_rfl) (v_loadB 0 rfl Try.underlying3 rfl rfl rfl) rfl ?_
    refine a_take 3 pan_cx (by kernel_rfl) (fun _ hw => hw.sub (by repeat (first | exact List.Sublist.slnil | exact List.Sublist.refl _ | apply List.Sublist.cons_cons | apply List.Sublist.cons))) rfl (by kernel_rfl) (by kernel_rfl) (v_move rfl) rfl ?_
    refine a_take 4 pan_cx (by kernel_rfl) (fun _ hw => hw.sub (by repeat (first | exact List.Sublist.slnil | exact List.Sublist.refl _ | apply List.Sublist.cons_cons | apply List.Sublist.cons))) rfl (by kernel_rfl) (by kernel_rfl) (v_nilCheck rfl) rfl ?_
    refine a_take 5 pan_cx (by kernel_rfl) (fun _ hw => hw.sub (by repeat (first | exact List.Sublist.slnil | exact List.Sublist.refl _ | apply List.Sublist.cons_cons | apply List.Sublist.cons))) rfl (by kernel_rfl) (by kernel_rfl) (v_fieldAddrB (o := 1) Try.underlying130 rfl rfl Try.nz3 rfl) rfl ?_
    refine a_take 6 pan_cx (by kernel_rfl) (fun _ hw => hw.sub (by repeat (first | exact List.Sublist.slnil | exact List.Sublist.refl _ | apply List.Sublist.cons_cons | apply List.Sublist.cons))) rfl (by kernel_rfl) (by kernel_rfl) (v_loadB 1 rfl Try.underlying3 rfl rfl rfl) rfl ?_
    refine a_one 7 (by kernel_rfl) rfl rfl ?_
    refine x_call0 (v := .tuple #[.int .i64 (befT T o.b x.by_).1, .int .i64 (befT T o.b x.by_).2]) rfl rfl rfl Try.call99 rfl (fun w hw => tabBefore_spec pt hs T o.b x.by_ w (hw.tbV 3 rfl rfl) hn) ?_
    refine a_and (fun _ hw => hw.sub (by repeat (first | exact List.Sublist.slnil | exact List.Sublist.refl _ | apply List.Sublist.cons_cons | apply List.Sublist.cons))) ?_
    refine a_take 8 pan_cx (by kernel_rfl) (fun _ hw => hw.sub (by repeat (first | exact List.Sublist.slnil | exact List.Sublist.refl _ | apply List.Sublist.cons_cons | apply List.Sublist.cons))) rfl (by kernel_rfl) (by kernel_rfl) (v_move rfl) rfl ?_
    refine a_take 9 pan_cx (by kernel_rfl) (fun _ hw => hw.sub (by repeat (first | exact List.Sublist.slnil | exact List.Sublist.refl _ | apply List.Sublist.cons_cons | apply List.Sublist.cons))) rfl (by kernel_rfl) (by kernel_rfl) (v_is (v' := .int .i64 (befT T o.b x.by_).1) (v_extract rfl rfl) rfl) rfl ?_
    refine a_take 10 pan_cx (by kernel_rfl) (fun _ hw => hw.sub (by repeat (first | exact List.Sublist.slnil | exact List.Sublist.refl _ | apply List.Sublist.cons_cons | apply List.Sublist.cons))) rfl (by kernel_rfl) (by kernel_rfl) (v_is (v' := .int .i64 (befT T o.b x.by_).2) (v_extract rfl rfl) rfl) rfl ?_
    refine a_take 11 pan_cx (by kernel_rfl) (fun _ hw => hw.sub (by repeat (first | exact List.Sublist.slnil | exact List.Sublist.refl _ | apply List.Sublist.cons_cons | apply List.Sublist.cons))) rfl (by kernel_rfl) (by kernel_rfl) (v_assign rfl) rfl ?_
    refine a_take 12 pan_cx (by kernel_rfl) (fun _ hw => hw.sub (by repeat (first | exact List.Sublist.slnil | exact List.Sublist.refl _ | apply List.Sublist.cons_cons | apply List.Sublist.cons))) rfl (by kernel_rfl) (by kernel_rfl) (v_assign rfl) rfl ?_
    refine a_done (by kernel_rfl) ?_
    refine e_seq ?_
    refine e_seq ?_
    refine e_region ?_
    refine w_val (v_move rfl) rfl ?_
    refine w_val (v_geq rfl rfl) rfl ?_
    refine w_nil ?_
    refine e_condD rfl (fun hw0 => ?_) (fun hw0 => ?_)
    · have hw0' : 0 ≤ (seen x T o.b).2 := by rw [hsn]; exact hw0
      have h1 : ldX x T o = x := by unfold ldX; rw [if_pos hw0']
      have h2 : ldV x T o = .tuple #[.int .i64 (befT T o.b x.by_).2, .bool false] := by unfold ldV; rw [if_pos hw0', hsn]
      rw [h1, h2]
      refine e_seq ?_
      refine e_region ?_
      refine w_val (v_move rfl) rfl ?_
      refine w_val (v_assign rfl) rfl ?_
      refine w_val (v_assign rfl) rfl ?_
      refine w_nil ?_
      refine e_retQ (q_ret2 rfl (.tmp rfl) (.tmp rfl) ?_)
      exact fun w' hw' => ⟨(), trivial, rfl, (hw'.sub (List.sublist_cons_self _ _)).res⟩
    · have hw0' : ¬ 0 ≤ (seen x T o.b).2 := by rw [hsn]; exact hw0
      have h1 : ldX x T o = { x with g := st x.g o.a (befT T o.b x.by_).1 } := by unfold ldX; rw [if_neg hw0', hsn]
      have h2 : ldV x T o = .tuple #[.int .i64 (-1), .bool true] := by unfold ldV; rw [if_neg hw0']
      rw [h1, h2]
      refine e_skip ?_
      refine e_region ?_
      refine w_val (v_move rfl) rfl ?_
      refine w_val (v_assign rfl) rfl ?_
      refine w_nil ?_
      refine e_seq ?_
      refine e_draw ([.blk b5 118 (opCells o)]) Try.mixed ?_
      refine a_take 0 pan_cx (by kernel_rfl) (fun _ hw => hw.sub (by repeat (first | exact List.Sublist.slnil | exact List.Sublist.refl _ | apply List.Sublist.cons_cons | apply List.Sublist.cons))) rfl (by kernel_rfl) (by kernel_rfl) (v_move rfl) rfl ?_
      refine a_take 1 pan_cx (by kernel_rfl) (fun _ hw => hw.sub (by repeat (first | exact List.Sublist.slnil | exact List.Sublist.refl _ | apply List.Sublist.cons_cons | apply List.Sublist.cons))) rfl (by kernel_rfl) (by kernel_rfl) (v_fieldAddrB (o := 1) Try.underlying118 rfl rfl Try.nz3 rfl) rfl ?_
      refine a_take 2 pan_cx (by kernel_rfl) (fun _ hw => hw.sub (by repeat (first | exact List.Sublist.slnil | exact List.Sublist.refl _ | apply List.Sublist.cons_cons | apply List.Sublist.cons))) rfl (by kernel_rfl) (by kernel_rfl) (v_loadB 0 rfl Try.underlying3 rfl rfl rfl) rfl ?_
      refine a_take 3 pan_cx (by kernel_rfl) (fun _ hw => hw.sub (by repeat (first | exact List.Sublist.slnil | exact List.Sublist.refl _ | apply List.Sublist.cons_cons | apply List.Sublist.cons))) rfl (by kernel_rfl) (by kernel_rfl) (v_move rfl) rfl ?_
      refine a_take 4 pan_cx (by kernel_rfl) (fun _ hw => hw.sub (by repeat (first | exact List.Sublist.slnil | exact List.Sublist.refl _ | apply List.Sublist.cons_cons | apply List.Sublist.cons))) rfl (by kernel_rfl) (by kernel_rfl) (v_nilCheck rfl) rfl ?_
      refine a_take 5 pan_cx (by kernel_rfl) (fun _ hw => hw.sub (by repeat (first | exact List.Sublist.slnil | exact List.Sublist.refl _ | apply List.Sublist.cons_cons | apply List.Sublist.cons))) rfl (by kernel_rfl) (by kernel_rfl) (v_fieldAddrB (o := 3) Try.underlying130 rfl rfl Try.nz28 rfl) rfl ?_
      refine a_take 6 pan_cx (by kernel_rfl) (fun _ hw => hw.sub (by repeat (first | exact List.Sublist.slnil | exact List.Sublist.refl _ | apply List.Sublist.cons_cons | apply List.Sublist.cons))) rfl (by kernel_rfl) (by kernel_rfl) (v_indexAB Try.underlying28 Try.hi2 Try.cz2 rfl rfl (by omega)) rfl ?_
      refine a_one 7 (by kernel_rfl) rfl rfl ?_
      refine x_store1 1 rfl rfl rfl Try.hi2 Try.cz2 rfl (by rw [wkC_len hg4 hr4]; omega) rfl ?_; rw [wk_g_set hg4 _ ha.1 ha.2]
      refine a_and (fun _ hw => hw.sub (by repeat (first | exact List.Sublist.slnil | exact List.Sublist.refl _ | apply List.Sublist.cons_cons | apply List.Sublist.cons))) ?_
      refine a_done (by kernel_rfl) ?_
      refine e_seq ?_
      refine e_region ?_
      refine w_val (v_assign rfl) rfl ?_
      refine w_val (v_assign rfl) rfl ?_
      refine w_nil ?_
      refine e_retQ (q_ret2 rfl (.tmp rfl) (.tmp rfl) ?_)
      exact fun w' hw' => ⟨(), trivial, rfl, (hw'.sub (List.sublist_cons_self _ _)).res⟩
end Go.SL
end
section

open Go Go.Proofs Go.SL
set_option maxRecDepth 100000
set_option maxHeartbeats 1000000
namespace Go.SL
theorem own_op {w : World} {ad : Addr} {k e j n : Nat} {d : DeedL} {o : OpL} (h : (Own (.slice (some ad) n k) e 5 n (deedCells d)).holds w) (hn : n = d.length) (ho : d[j]? = some o) : Cells w.cell? (ad.add (((j : Nat) : Int).toNat * 5)) (opCells o) := by
  subst hn
  obtain ⟨A, kp, h1, _, _, h2⟩ := own_rds h
  injection h1 with h1 _ _
  subst h1
  have hlt := (List.getElem?_eq_some_iff.1 ho).1
  obtain ⟨ad', h3, h4⟩ := h2 (by omega)
  injection h3 with h3
  subst h3
  rw [Int.toNat_natCast]
  exact deed_op h4 ho
theorem wk_lt2 {x : WkL} {dv : Value} : 0 + 2 < (wkC x dv).length := by unfold wkC; simp only [List.length_append, List.length_cons]; omega
theorem wkStep_spec (p : Nat) (dv : Value) (x : WkL) (pt : Nat) (hs : Nat → Value) (T : TabL) (w : World) (h : ∀ k ∈ wkH p dv x ++ tbH pt 137 hs T, k.holds w) (hsep : (wkH p dv x ++ tbH pt 137 hs T).Pairwise Disj)
    (hn : ∀ k, k < 10 → (T k).length ≤ 1000) (hg : GoodT T) (hck : (checkL x.d).1 = 0) (hg4 : x.g.length = 4) (hr4 : x.rg.length = 4) :
    Calls Try.prog 19 #[.pointer (some ⟨p, 0, none⟩), .pointer (some ⟨pt, 0, none⟩)] w fun e w' => ∃ _ : Unit, True ∧ e = .returned (.tuple #[.int .i64 (stepW x T).1.1, .int .i64 (stepW x T).1.2]) ∧ Res w (wkH p dv x ++ tbH pt 137 hs T) (wkH p dv (stepW x T).2.1 ++ tbH pt 137 hs (stepW x T).2.2) w' := by
  obtain ⟨hd14, hchk⟩ := checked hck
  refine enter (mc := wkH p dv x ++ tbH pt 137 hs T) (N := 143) Try.func19 rfl rfl rfl ?_ ?_ ?_
  · exact h
  · exact hsep
  refine e_seq ?_
  refine e_region ?_
  refine w_val (v_assign rfl) rfl ?_
  refine w_val (v_assign rfl) rfl ?_
  refine w_nil ?_
  refine e_seq ?_
  refine e_seq ?_
  refine e_region ?_
  refine w_val (v_move rfl) rfl ?_
  refine w_val (v_nilCheck rfl) rfl ?_
  refine w_val (v_fieldAddrB (o := 7) Try.underlying130 rfl rfl Try.nz4 rfl) rfl ?_
  cases ho : x.ov with
  | true =>
    rw [step_over ho]
    refine w_val (v_is (v' := .bool true) (v_loadB 0 rfl Try.underlying4 rfl rfl (wk_ov hg4)) (by rw [ho])) rfl ?_
    refine w_nil ?_
    refine e_condT rfl ?_
    refine e_seq ?_
    refine e_region ?_
    refine w_val (v_assign rfl) rfl ?_
    refine w_val (v_assign rfl) rfl ?_
    refine w_nil ?_
    refine e_retQ (q_ret2 rfl (.tmp rfl) (.tmp rfl) ?_)
    exact fun w' hw' => ⟨(), trivial, rfl, hw'.res⟩
  | false =>
    refine w_val (v_is (v' := .bool false) (v_loadB 0 rfl Try.underlying4 rfl rfl (wk_ov hg4)) (by rw [ho])) rfl ?_
    refine w_nil ?_
    refine e_condF rfl ?_
    refine e_skip ?_
    refine e_seq ?_
    refine e_seq ?_
    refine g_heap (m' := wkH p dv x ++ tbH pt 137 hs T) (fun _ hw => hw) ?_
    refine g_shape2 1 rfl fun A kp hv hk hA => ?_
    subst hv
    refine e_draw ([wkB p (.slice A x.d.length kp) x]) Try.mixed ?_
    refine a_take 0 pan_cx (by kernel_rfl) (fun _ hw => hw.sub (by repeat (first | exact List.Sublist.slnil | exact List.Sublist.refl _ | apply List.Sublist.cons_cons | apply List.Sublist.cons))) rfl (by kernel_rfl) (by kernel_rfl) (v_move rfl) rfl ?_
    refine a_take 1 pan_cx (by kernel_rfl) (fun _ hw => hw.sub (by repeat (first | exact List.Sublist.slnil | exact List.Sublist.refl _ | apply List.Sublist.cons_cons | apply List.Sublist.cons))) rfl (by kernel_rfl) (by kernel_rfl) (v_nilCheck rfl) rfl ?_
    refine a_take 2 pan_cx (by kernel_rfl) (fun _ hw => hw.sub (by repeat (first | exact List.Sublist.slnil | exact List.Sublist.refl _ | apply List.Sublist.cons_cons | apply List.Sublist.cons))) rfl (by kernel_rfl) (by kernel_rfl) (v_fieldAddrB (o := 2) Try.underlying130 rfl rfl Try.nz3 rfl) rfl ?_
    refine a_take 3 pan_cx (by kernel_rfl) (fun _ hw => hw.sub (by repeat (first | exact List.Sublist.slnil | exact List.Sublist.refl _ | apply List.Sublist.cons_cons | apply List.Sublist.cons))) rfl (by kernel_rfl) (by kernel_rfl) (v_loadB 0 rfl Try.underlying3 rfl rfl rfl) rfl ?_
    refine a_take 4 pan_cx (by kernel_rfl) (fun _ hw => hw.sub (by repeat (first | exact List.Sublist.slnil | exact List.Sublist.refl _ | apply List.Sublist.cons_cons | apply List.Sublist.cons))) rfl (by kernel_rfl) (by kernel_rfl) (v_move rfl) rfl ?_
    refine a_take 5 pan_cx (by kernel_rfl) (fun _ hw => hw.sub (by repeat (first | exact List.Sublist.slnil | exact List.Sublist.refl _ | apply List.Sublist.cons_cons | apply List.Sublist.cons))) rfl (by kernel_rfl) (by kernel_rfl) (v_nilCheck rfl) rfl ?_
    refine a_take 6 pan_cx (by kernel_rfl) (fun _ hw => hw.sub (by repeat (first | exact List.Sublist.slnil | exact List.Sublist.refl _ | apply List.Sublist.cons_cons | apply List.Sublist.cons))) rfl (by kernel_rfl) (by kernel_rfl) (v_fieldAddrB (o := 0) Try.underlying130 rfl rfl Try.nz25 rfl) rfl ?_
    refine a_take 7 pan_cx (by kernel_rfl) (fun _ hw => hw.sub (by repeat (first | exact List.Sublist.slnil | exact List.Sublist.refl _ | apply List.Sublist.cons_cons | apply List.Sublist.cons))) rfl (by kernel_rfl) (by kernel_rfl) (v_loadB 0 rfl Try.underlying25 rfl rfl rfl) rfl ?_
    refine a_take 8 pan_cx (by kernel_rfl) (fun _ hw => hw.sub (by repeat (first | exact List.Sublist.slnil | exact List.Sublist.refl _ | apply List.Sublist.cons_cons | apply List.Sublist.cons))) rfl (by kernel_rfl) (by kernel_rfl) (v_lenS Try.underlying25 rfl) rfl ?_
    refine a_take 9 pan_cx (by kernel_rfl) (fun _ hw => hw.sub (by repeat (first | exact List.Sublist.slnil | exact List.Sublist.refl _ | apply List.Sublist.cons_cons | apply List.Sublist.cons))) rfl (by kernel_rfl) (by kernel_rfl) (v_geq rfl rfl) rfl ?_
    refine a_done (by kernel_rfl) ?_
    refine e_condD rfl (fun hge => ?_) (fun hge => ?_)
    · have hR := step_end (T := T) ho (by omega : x.d.length ≤ x.at_)
      rw [hR]
      refine e_seq ?_
      refine e_region ?_
      refine w_val (v_move rfl) rfl ?_
      refine w_val (v_move rfl) rfl ?_
      refine w_op rfl ?_
      refine x_callM (dst := some 25) (wkH p (.slice A x.d.length kp) x ++ tbH pt 137 hs T) [] (σ := Unit) (fun _ => True) (fun _ => .tuple #[]) (fun _ => wkH p (.slice A x.d.length kp) (endX x 0) ++ tbH pt 137 hs (endT x 0 T)) (List.Perm.refl _) rfl rfl rfl Try.call67 (fun w hw => wkEnd_spec p _ x pt hs T 0 w (res_part hw).1 (res_part hw).2 hn hg hck hg4 hr4) rfl (fun _ _ => ?_)
      refine w_nil ?_
      refine e_seq ?_
      refine e_region ?_
      refine w_val (v_assign rfl) rfl ?_
      refine w_val (v_assign rfl) rfl ?_
      refine w_nil ?_
      refine e_retQ (q_ret2 rfl (.tmp rfl) (.tmp rfl) ?_)
      exact fun w' hw' => ⟨(), trivial, rfl, hw'.res⟩
    · have ha : x.at_ < x.d.length := by omega
      have hR := step_op (T := T) ho (List.getElem?_eq_getElem ha)
      obtain ⟨hf, h9⟩ := hchk _ ha
      have hob : ∀ w, (Own (.slice A x.d.length kp) 118 5 x.d.length (deedCells x.d)).holds w → ∃ ad, A = some ad ∧ Cells w.cell? (ad.add (((x.at_ : Nat) : Int).toNat * 5)) (opCells x.d[x.at_]) := fun w hw => by
        obtain ⟨ad, rfl⟩ := hA (by omega)
        exact ⟨ad, rfl, own_op hw rfl (List.getElem?_eq_getElem ha)⟩
      obtain ⟨ad, rfl⟩ := hA (by omega)
      generalize x.d[x.at_] = o at *
      unfold opW at hR
      refine e_skip ?_
      refine e_seq ?_
      refine e_draw ([wkB p (.slice (some ad) x.d.length kp) x, Own (.slice (some ad) x.d.length kp) 118 5 x.d.length (deedCells x.d)]) Try.mixed ?_
      refine a_take 0 pan_cx (by kernel_rfl) (fun _ hw => hw.sub (by repeat (first | exact List.Sublist.slnil | exact List.Sublist.refl _ | apply List.Sublist.cons_cons | apply List.Sublist.cons))) rfl (by kernel_rfl) (by kernel_rfl) (v_move rfl) rfl ?_
      refine a_take 1 pan_cx (by kernel_rfl) (fun _ hw => hw.sub (by repeat (first | exact List.Sublist.slnil | exact List.Sublist.refl _ | apply List.Sublist.cons_cons | apply List.Sublist.cons))) rfl (by kernel_rfl) (by kernel_rfl) (v_nilCheck rfl) rfl ?_
      refine a_take 2 pan_cx (by kernel_rfl) (fun _ hw => hw.sub (by repeat (first | exact List.Sublist.slnil | exact List.Sublist.refl _ | apply List.Sublist.cons_cons | apply List.Sublist.cons))) rfl (by kernel_rfl) (by kernel_rfl) (v_fieldAddrB (o := 0) Try.underlying130 rfl rfl Try.nz25 rfl) rfl ?_
      refine a_take 3 pan_cx (by kernel_rfl) (fun _ hw => hw.sub (by repeat (first | exact List.Sublist.slnil | exact List.Sublist.refl _ | apply List.Sublist.cons_cons | apply List.Sublist.cons))) rfl (by kernel_rfl) (by kernel_rfl) (v_loadB 0 rfl Try.underlying25 rfl rfl rfl) rfl ?_
      refine a_take 4 pan_cx (by kernel_rfl) (fun _ hw => hw.sub (by repeat (first | exact List.Sublist.slnil | exact List.Sublist.refl _ | apply List.Sublist.cons_cons | apply List.Sublist.cons))) rfl (by kernel_rfl) (by kernel_rfl) (v_move rfl) rfl ?_
      refine a_take 5 pan_cx (by kernel_rfl) (fun _ hw => hw.sub (by repeat (first | exact List.Sublist.slnil | exact List.Sublist.refl _ | apply List.Sublist.cons_cons | apply List.Sublist.cons))) rfl (by kernel_rfl) (by kernel_rfl) (v_nilCheck rfl) rfl ?_
      refine a_take 6 pan_cx (by kernel_rfl) (fun _ hw => hw.sub (by repeat (first | exact List.Sublist.slnil | exact List.Sublist.refl _ | apply List.Sublist.cons_cons | apply List.Sublist.cons))) rfl (by kernel_rfl) (by kernel_rfl) (v_fieldAddrB (o := 2) Try.underlying130 rfl rfl Try.nz3 rfl) rfl ?_
      refine a_take 7 pan_cx (by kernel_rfl) (fun _ hw => hw.sub (by repeat (first | exact List.Sublist.slnil | exact List.Sublist.refl _ | apply List.Sublist.cons_cons | apply List.Sublist.cons))) rfl (by kernel_rfl) (by kernel_rfl) (v_loadB 0 rfl Try.underlying3 rfl rfl rfl) rfl ?_
      refine a_take 8 pan_cx (by kernel_rfl) (fun _ hw => hw.sub (by repeat (first | exact List.Sublist.slnil | exact List.Sublist.refl _ | apply List.Sublist.cons_cons | apply List.Sublist.cons))) rfl (by kernel_rfl) (by kernel_rfl) (v_indexS Try.underlying25 Try.hi118 Try.cz118 rfl rfl (by first | omega | decide)) rfl ?_
      refine a_take 9 pan_cx (by kernel_rfl) (fun _ hw => hw.sub (by repeat (first | exact List.Sublist.slnil | exact List.Sublist.refl _ | apply List.Sublist.cons_cons | apply List.Sublist.cons))) rfl (by kernel_rfl) (by kernel_rfl) (v_loadN (cs := opCells o) Try.underlying118 rfl Try.hi118 Try.cz118 rfl (fun w hw => by obtain ⟨ad', h1, h2⟩ := hob w (hw.hold (Own (.slice (some ad) x.d.length kp) 118 5 x.d.length (deedCells x.d)) (List.mem_cons_of_mem _ List.mem_cons_self)); injection h1 with h1; subst h1; exact h2)) rfl ?_
      refine a_one 10 (by kernel_rfl) rfl rfl ?_
      refine x_alloc (z := .agg #[.int .i64 0, .int .i64 0, .int .i64 0, .int .i64 0, .int .i64 0]) (by intro w; exact Try.zeroValue118 w) rfl (fun b6 => ?_)
      refine a_and (fun _ hw => hw.sub (by repeat (first | exact List.Sublist.slnil | exact List.Sublist.refl _ | apply List.Sublist.cons_cons | apply List.Sublist.cons))) ?_
      refine a_one 11 (by kernel_rfl) rfl rfl ?_
      refine x_storeA 0 rfl rfl rfl Try.hi118 Try.cz118 rfl (by first | (simp [Value.oneCell', opCells]; done) | assumption | exact one_ints _ | exact one_resCells _ _ | exact one_slotC _) ?_
      refine a_and (fun _ hw => hw.sub (by repeat (first | exact List.Sublist.slnil | exact List.Sublist.refl _ | apply List.Sublist.cons_cons | apply List.Sublist.cons))) ?_
      refine a_done (by kernel_rfl) ?_
      refine g_heap (m' := .blk b6 118 (opCells o) :: (wkH p (.slice (some ad) x.d.length kp) x ++ tbH pt 137 hs T)) (fun _ hw => hw) ?_
      generalize hdv : Value.slice (some ad) x.d.length kp = dv at *
      have hlen := wkC_len (x := x) (dv := dv) hg4 hr4
      refine e_seq ?_
      refine e_seq ?_
      refine e_region ?_
      refine w_val (v_fieldAddrB (o := 0) Try.underlying118 rfl rfl Try.nz3 rfl) rfl ?_
      refine w_val (v_loadB 0 rfl Try.underlying3 rfl rfl rfl) rfl ?_
      refine w_nil ?_
      refine e_block ?_
      refine e_seq ?_
      refine e_region ?_
      refine w_val (v_eql rfl rfl) rfl ?_
      refine w_val (v_assign rfl) rfl ?_
      refine w_nil ?_
      rcases rng_all hf with ⟨hk, ha1⟩ | ⟨hk, ha1⟩ | ⟨hk, ha1, ha2, hb1⟩ | ⟨hk, ha1, ha2, hb1⟩ | ⟨hk, ha1, ha2, hb1⟩ | ⟨hk, ha1, ha2, hb1, hb2, hc2⟩
      · rw [if_pos hk] at hR
        rw [hR]
        refine e_condDT rfl (by omega) ?_
        refine e_draw ([.blk b6 118 (opCells o)]) Try.mixed ?_
        refine a_take 0 pan_cx (by kernel_rfl) (fun _ hw => hw.sub (by repeat (first | exact List.Sublist.slnil | exact List.Sublist.refl _ | apply List.Sublist.cons_cons | apply List.Sublist.cons))) rfl (by kernel_rfl) (by kernel_rfl) (v_move rfl) rfl ?_
        refine a_take 1 pan_cx (by kernel_rfl) (fun _ hw => hw.sub (by repeat (first | exact List.Sublist.slnil | exact List.Sublist.refl _ | apply List.Sublist.cons_cons | apply List.Sublist.cons))) rfl (by kernel_rfl) (by kernel_rfl) (v_fieldAddrB (o := 1) Try.underlying118 rfl rfl Try.nz3 rfl) rfl ?_
        refine a_take 2 pan_cx (by kernel_rfl) (fun _ hw => hw.sub (by repeat (first | exact List.Sublist.slnil | exact List.Sublist.refl _ | apply List.Sublist.cons_cons | apply List.Sublist.cons))) rfl (by kernel_rfl) (by kernel_rfl) (v_loadB 0 rfl Try.underlying3 rfl rfl rfl) rfl ?_
        refine a_take 3 pan_cx (by kernel_rfl) (fun _ hw => hw.sub (by repeat (first | exact List.Sublist.slnil | exact List.Sublist.refl _ | apply List.Sublist.cons_cons | apply List.Sublist.cons))) rfl (by kernel_rfl) (by kernel_rfl) (v_fieldAddrB (o := 4) Try.underlying118 rfl rfl Try.nz2 rfl) rfl ?_
        refine a_take 4 pan_cx (by kernel_rfl) (fun _ hw => hw.sub (by repeat (first | exact List.Sublist.slnil | exact List.Sublist.refl _ | apply List.Sublist.cons_cons | apply List.Sublist.cons))) rfl (by kernel_rfl) (by kernel_rfl) (v_loadB 0 rfl Try.underlying2 rfl rfl rfl) rfl ?_
        refine a_take 5 pan_cx (by kernel_rfl) (fun _ hw => hw.sub (by repeat (first | exact List.Sublist.slnil | exact List.Sublist.refl _ | apply List.Sublist.cons_cons | apply List.Sublist.cons))) rfl (by kernel_rfl) (by kernel_rfl) (v_nilCheck rfl) rfl ?_
        refine a_take 6 pan_cx (by kernel_rfl) (fun _ hw => hw.sub (by repeat (first | exact List.Sublist.slnil | exact List.Sublist.refl _ | apply List.Sublist.cons_cons | apply List.Sublist.cons))) rfl (by kernel_rfl) (by kernel_rfl) (v_fieldAddrB (o := 3) Try.underlying130 rfl rfl Try.nz28 rfl) rfl ?_
        refine a_take 7 pan_cx (by kernel_rfl) (fun _ hw => hw.sub (by repeat (first | exact List.Sublist.slnil | exact List.Sublist.refl _ | apply List.Sublist.cons_cons | apply List.Sublist.cons))) rfl (by kernel_rfl) (by kernel_rfl) (v_indexAB Try.underlying28 Try.hi2 Try.cz2 rfl rfl (by first | omega | decide)) rfl ?_
        refine a_one 8 (by kernel_rfl) rfl rfl ?_
        refine x_store1 1 rfl rfl rfl Try.hi2 Try.cz2 rfl (by rw [hlen]; omega) rfl ?_; rw [wk_g_set hg4 _ (by omega) (by omega)]
        refine a_and (fun _ hw => hw.sub (by repeat (first | exact List.Sublist.slnil | exact List.Sublist.refl _ | apply List.Sublist.cons_cons | apply List.Sublist.cons))) ?_
        refine a_done (by kernel_rfl) ?_
        refine g_heap (m' := .blk b6 118 (opCells o) :: (wkH p dv { x with g := st x.g o.a o.n } ++ tbH pt 137 hs T)) (fun _ hw => hw) ?_
        refine e_blk ?_
        refine e_seq ?_
        refine e_region ?_
        refine w_val (v_move rfl) rfl ?_
        refine w_val (v_nilCheck rfl) rfl ?_
        refine w_val (v_fieldAddrB (o := 2) Try.underlying130 rfl rfl Try.nz3 rfl) rfl ?_
        refine w_val (v_loadB 1 rfl Try.underlying3 rfl rfl rfl) rfl ?_
        refine w_val (v_is (v' := .int .i64 ((x.at_ + 1 : Nat) : Int)) (v_add (p := (x.at_ : Int)) (q := 1) rfl rfl (by omega)) (congrArg (Value.int .i64) (by omega))) rfl ?_
        refine w_val (v_nilCheck rfl) rfl ?_
        refine w_val (v_fieldAddrB (o := 2) Try.underlying130 rfl rfl Try.nz3 rfl) rfl ?_
        refine w_op rfl ?_
        refine x_store1 1 rfl rfl rfl Try.hi3 Try.cz3 rfl wk_lt2 rfl ?_
        refine w_nil ?_
        refine e_seq ?_
        refine e_region ?_
        refine w_val (v_assign rfl) rfl ?_
        refine w_val (v_assign rfl) rfl ?_
        refine w_nil ?_
        refine e_retQ (q_ret2 rfl (.tmp rfl) (.tmp rfl) ?_)
        exact fun w' hw' => ⟨(), trivial, rfl, (hw'.sub (List.sublist_cons_self _ _)).res⟩
      · rw [if_neg (by omega), if_neg (by omega), if_neg (by omega), if_pos hk] at hR
        refine e_condDF rfl (by omega) ?_
        refine e_seq ?_
        refine e_region ?_
        refine w_val (v_eql rfl rfl) rfl ?_
        refine w_val (v_assign rfl) rfl ?_
        refine w_nil ?_
        refine e_condDF rfl (by omega) ?_
        refine e_seq ?_
        refine e_region ?_
        refine w_val (v_eql rfl rfl) rfl ?_
        refine w_val (v_assign rfl) rfl ?_
        refine w_nil ?_
        refine e_condDF rfl (by omega) ?_
        refine e_seq ?_
        refine e_region ?_
        refine w_val (v_eql rfl rfl) rfl ?_
        refine w_val (v_assign rfl) rfl ?_
        refine w_nil ?_
        refine e_condDT rfl (by omega) ?_
        refine e_seq ?_
        refine e_draw ([.blk b6 118 (opCells o), wkB p dv x]) Try.mixed ?_
        refine a_take 0 pan_cx (by kernel_rfl) (fun _ hw => hw.sub (by repeat (first | exact List.Sublist.slnil | exact List.Sublist.refl _ | apply List.Sublist.cons_cons | apply List.Sublist.cons))) rfl (by kernel_rfl) (by kernel_rfl) (v_move rfl) rfl ?_
        refine a_take 1 pan_cx (by kernel_rfl) (fun _ hw => hw.sub (by repeat (first | exact List.Sublist.slnil | exact List.Sublist.refl _ | apply List.Sublist.cons_cons | apply List.Sublist.cons))) rfl (by kernel_rfl) (by kernel_rfl) (v_fieldAddrB (o := 1) Try.underlying118 rfl rfl Try.nz3 rfl) rfl ?_
        refine a_take 2 pan_cx (by kernel_rfl) (fun _ hw => hw.sub (by repeat (first | exact List.Sublist.slnil | exact List.Sublist.refl _ | apply List.Sublist.cons_cons | apply List.Sublist.cons))) rfl (by kernel_rfl) (by kernel_rfl) (v_loadB 0 rfl Try.underlying3 rfl rfl rfl) rfl ?_
        refine a_take 3 pan_cx (by kernel_rfl) (fun _ hw => hw.sub (by repeat (first | exact List.Sublist.slnil | exact List.Sublist.refl _ | apply List.Sublist.cons_cons | apply List.Sublist.cons))) rfl (by kernel_rfl) (by kernel_rfl) (v_nilCheck rfl) rfl ?_
        refine a_take 4 pan_cx (by kernel_rfl) (fun _ hw => hw.sub (by repeat (first | exact List.Sublist.slnil | exact List.Sublist.refl _ | apply List.Sublist.cons_cons | apply List.Sublist.cons))) rfl (by kernel_rfl) (by kernel_rfl) (v_fieldAddrB (o := 3) Try.underlying130 rfl rfl Try.nz28 rfl) rfl ?_
        refine a_take 5 pan_cx (by kernel_rfl) (fun _ hw => hw.sub (by repeat (first | exact List.Sublist.slnil | exact List.Sublist.refl _ | apply List.Sublist.cons_cons | apply List.Sublist.cons))) rfl (by kernel_rfl) (by kernel_rfl) (v_indexAB Try.underlying28 Try.hi2 Try.cz2 rfl rfl (by omega)) rfl ?_
        refine a_take 6 pan_cx (by kernel_rfl) (fun _ hw => hw.sub (by repeat (first | exact List.Sublist.slnil | exact List.Sublist.refl _ | apply List.Sublist.cons_cons | apply List.Sublist.cons))) rfl (by kernel_rfl) (by kernel_rfl) (v_loadB 1 rfl Try.underlying2 rfl rfl (wk_g hg4 (by omega) (by omega))) rfl ?_
        refine a_take 7 pan_cx (by kernel_rfl) (fun _ hw => hw.sub (by repeat (first | exact List.Sublist.slnil | exact List.Sublist.refl _ | apply List.Sublist.cons_cons | apply List.Sublist.cons))) rfl (by kernel_rfl) (by kernel_rfl) (v_neq rfl rfl) rfl ?_
        refine a_done (by kernel_rfl) ?_
        refine e_condD rfl (fun hz => ?_) (fun hz => ?_)
        · rw [if_pos hz] at hR
          rw [hR]
          refine e_seq ?_
          refine e_region ?_
          refine w_val (v_move rfl) rfl ?_
          refine w_val (v_move rfl) rfl ?_
          refine w_op rfl ?_
          refine x_callM (dst := some 116) (wkH p dv x ++ tbH pt 137 hs T) [.blk b6 118 (opCells o)] (σ := Unit) (fun _ => True) (fun _ => .tuple #[]) (fun _ => wkH p dv (endX x 9) ++ tbH pt 137 hs (endT x 9 T)) (List.perm_append_comm (l₁ := [_])) rfl rfl rfl Try.call67 (fun w hw => wkEnd_spec p _ x pt hs T 9 w (res_part hw).1 (res_part hw).2 hn hg hck hg4 hr4) rfl (fun _ _ => ?_)
          refine w_nil ?_
          refine e_seq ?_
          refine e_region ?_
          refine w_val (v_assign rfl) rfl ?_
          refine w_val (v_assign rfl) rfl ?_
          refine w_nil ?_
          refine e_retQ (q_ret2 rfl (.tmp rfl) (.tmp rfl) ?_)
          exact fun w' hw' => ⟨(), trivial, rfl, (hw'.sub (List.sublist_append_left _ _)).res⟩
        · rw [if_neg hz] at hR
          rw [hR]
          refine e_skip ?_
          refine e_blk ?_
          refine e_seq ?_
          refine e_region ?_
          refine w_val (v_move rfl) rfl ?_
          refine w_val (v_nilCheck rfl) rfl ?_
          refine w_val (v_fieldAddrB (o := 2) Try.underlying130 rfl rfl Try.nz3 rfl) rfl ?_
          refine w_val (v_loadB 1 rfl Try.underlying3 rfl rfl rfl) rfl ?_
          refine w_val (v_is (v' := .int .i64 ((x.at_ + 1 : Nat) : Int)) (v_add (p := (x.at_ : Int)) (q := 1) rfl rfl (by omega)) (congrArg (Value.int .i64) (by omega))) rfl ?_
          refine w_val (v_nilCheck rfl) rfl ?_
          refine w_val (v_fieldAddrB (o := 2) Try.underlying130 rfl rfl Try.nz3 rfl) rfl ?_
          refine w_op rfl ?_
          refine x_store1 1 rfl rfl rfl Try.hi3 Try.cz3 rfl wk_lt2 rfl ?_
          refine w_nil ?_
          refine e_seq ?_
          refine e_region ?_
          refine w_val (v_assign rfl) rfl ?_
          refine w_val (v_assign rfl) rfl ?_
          refine w_nil ?_
          refine e_retQ (q_ret2 rfl (.tmp rfl) (.tmp rfl) ?_)
          exact fun w' hw' => ⟨(), trivial, rfl, (hw'.sub (List.sublist_cons_self _ _)).res⟩
      · rw [if_neg (by omega), if_pos hk] at hR
        refine e_condDF rfl (by omega) ?_
        refine e_seq ?_
        refine e_region ?_
        refine w_val (v_eql rfl rfl) rfl ?_
        refine w_val (v_assign rfl) rfl ?_
        refine w_nil ?_
        refine e_condDT rfl (by omega) ?_
        refine e_seq ?_
        refine e_region ?_
        refine w_val (v_move rfl) rfl ?_
        refine w_val (v_move rfl) rfl ?_
        refine w_val (v_loadBA 0 rfl Try.underlying118 rfl Try.hi118 Try.cz118 rfl) rfl ?_
        refine w_op rfl ?_
        refine x_callM (dst := some 77) (wkH p dv x ++ tbH pt 137 hs T) [.blk b6 118 (opCells o)] (σ := Unit) (fun _ => True) (fun _ => ldV x T o) (fun _ => wkH p dv (ldX x T o) ++ tbH pt 137 hs T) (List.perm_append_comm (l₁ := [_])) rfl rfl rfl Try.call68 (fun w hw => wkLoad_spec p _ x pt hs T o w (res_part hw).1 (res_part hw).2 hn hg4 hr4 (by omega) (by omega)) rfl (fun _ _ => ?_)
        by_cases hw0 : 0 ≤ (seen x T o.b).2
        · rw [if_pos hw0] at hR
          rw [hR]
          have h1 : ldX x T o = x := by unfold ldX; rw [if_pos hw0]
          have h2 : ldV x T o = .tuple #[.int .i64 (seen x T o.b).2, .bool false] := by unfold ldV; rw [if_pos hw0]
          rw [h1, h2]
          refine w_val (v_move rfl) rfl ?_
          refine w_val (v_is (v' := .int .i64 (seen x T o.b).2) (v_extract rfl rfl) rfl) rfl ?_
          refine w_val (v_is (v' := .bool false) (v_extract rfl rfl) rfl) rfl ?_
          refine w_val (v_assign rfl) rfl ?_
          refine w_val (v_assign rfl) rfl ?_
          refine w_nil ?_
          refine e_seq ?_
          refine e_region ?_
          refine w_val (v_move rfl) rfl ?_
          refine w_val (v_not rfl) rfl ?_
          refine w_nil ?_
          refine e_condT rfl ?_
          refine e_seq ?_
          refine e_region ?_
          refine w_val (v_move rfl) rfl ?_
          refine w_val (v_assign rfl) rfl ?_
          refine w_val (v_assign rfl) rfl ?_
          refine w_nil ?_
          refine e_retQ (q_ret2 rfl (.tmp rfl) (.tmp rfl) ?_)
          exact fun w' hw' => ⟨(), trivial, rfl, (hw'.sub (List.sublist_append_left _ _)).res⟩
        · rw [if_neg hw0] at hR
          rw [hR]
          have h1 : ldX x T o = { x with g := st x.g o.a (seen x T o.b).1 } := by unfold ldX; rw [if_neg hw0]
          have h2 : ldV x T o = .tuple #[.int .i64 (-1), .bool true] := by unfold ldV; rw [if_neg hw0]
          rw [h1, h2]
          refine w_val (v_move rfl) rfl ?_
          refine w_val (v_is (v' := .int .i64 (-1)) (v_extract rfl rfl) rfl) rfl ?_
          refine w_val (v_is (v' := .bool true) (v_extract rfl rfl) rfl) rfl ?_
          refine w_val (v_assign rfl) rfl ?_
          refine w_val (v_assign rfl) rfl ?_
          refine w_nil ?_
          refine e_seq ?_
          refine e_region ?_
          refine w_val (v_move rfl) rfl ?_
          refine w_val (v_not rfl) rfl ?_
          refine w_nil ?_
          refine e_condF rfl ?_
          refine e_skip ?_
          refine e_blk ?_
          refine e_seq ?_
          refine e_region ?_
          refine w_val (v_move rfl) rfl ?_
          refine w_val (v_nilCheck rfl) rfl ?_
          refine w_val (v_fieldAddrB (o := 2) Try.underlying130 rfl rfl Try.nz3 rfl) rfl ?_
          refine w_val (v_loadB 0 rfl Try.underlying3 rfl rfl rfl) rfl ?_
          refine w_val (v_is (v' := .int .i64 ((x.at_ + 1 : Nat) : Int)) (v_add (p := (x.at_ : Int)) (q := 1) rfl rfl (by omega)) (congrArg (Value.int .i64) (by omega))) rfl ?_
          refine w_val (v_nilCheck rfl) rfl ?_
          refine w_val (v_fieldAddrB (o := 2) Try.underlying130 rfl rfl Try.nz3 rfl) rfl ?_
          refine w_op rfl ?_
          refine x_store1 0 rfl rfl rfl Try.hi3 Try.cz3 rfl wk_lt2 rfl ?_
          refine w_nil ?_
          refine e_seq ?_
          refine e_region ?_
          refine w_val (v_assign rfl) rfl ?_
          refine w_val (v_assign rfl) rfl ?_
          refine w_nil ?_
          refine e_retQ (q_ret2 rfl (.tmp rfl) (.tmp rfl) ?_)
          exact fun w' hw' => ⟨(), trivial, rfl, (hw'.sub (List.sublist_append_left _ _)).res⟩
      · rw [if_neg (by omega), if_neg (by omega), if_pos hk] at hR
        rw [hR]
        refine e_condDF rfl (by omega) ?_
        refine e_seq ?_
        refine e_region ?_
        refine w_val (v_eql rfl rfl) rfl ?_
        refine w_val (v_assign rfl) rfl ?_
        refine w_nil ?_
        refine e_condDF rfl (by omega) ?_
        refine e_seq ?_
        refine e_region ?_
        refine w_val (v_eql rfl rfl) rfl ?_
        refine w_val (v_assign rfl) rfl ?_
        refine w_nil ?_
        refine e_condDT rfl (by omega) ?_
        refine e_draw ([.blk b6 118 (opCells o)]) Try.mixed ?_
        refine a_take 0 pan_cx (by kernel_rfl) (fun _ hw => hw.sub (by repeat (first | exact List.Sublist.slnil | exact List.Sublist.refl _ | apply List.Sublist.cons_cons | apply List.Sublist.cons))) rfl (by kernel_rfl) (by kernel_rfl) (v_move rfl) rfl ?_
        refine a_take 1 pan_cx (by kernel_rfl) (fun _ hw => hw.sub (by repeat (first | exact List.Sublist.slnil | exact List.Sublist.refl _ | apply List.Sublist.cons_cons | apply List.Sublist.cons))) rfl (by kernel_rfl) (by kernel_rfl) (v_fieldAddrB (o := 1) Try.underlying118 rfl rfl Try.nz3 rfl) rfl ?_
        refine a_take 2 pan_cx (by kernel_rfl) (fun _ hw => hw.sub (by repeat (first | exact List.Sublist.slnil | exact List.Sublist.refl _ | apply List.Sublist.cons_cons | apply List.Sublist.cons))) rfl (by kernel_rfl) (by kernel_rfl) (v_loadB 0 rfl Try.underlying3 rfl rfl rfl) rfl ?_
        refine a_take 3 pan_cx (by kernel_rfl) (fun _ hw => hw.sub (by repeat (first | exact List.Sublist.slnil | exact List.Sublist.refl _ | apply List.Sublist.cons_cons | apply List.Sublist.cons))) rfl (by kernel_rfl) (by kernel_rfl) (v_move rfl) rfl ?_
        refine a_take 4 pan_cx (by kernel_rfl) (fun _ hw => hw.sub (by repeat (first | exact List.Sublist.slnil | exact List.Sublist.refl _ | apply List.Sublist.cons_cons | apply List.Sublist.cons))) rfl (by kernel_rfl) (by kernel_rfl) (v_fieldAddrB (o := 1) Try.underlying118 rfl rfl Try.nz3 rfl) rfl ?_
        refine a_take 5 pan_cx (by kernel_rfl) (fun _ hw => hw.sub (by repeat (first | exact List.Sublist.slnil | exact List.Sublist.refl _ | apply List.Sublist.cons_cons | apply List.Sublist.cons))) rfl (by kernel_rfl) (by kernel_rfl) (v_loadB 0 rfl Try.underlying3 rfl rfl rfl) rfl ?_
        refine a_take 6 pan_cx (by kernel_rfl) (fun _ hw => hw.sub (by repeat (first | exact List.Sublist.slnil | exact List.Sublist.refl _ | apply List.Sublist.cons_cons | apply List.Sublist.cons))) rfl (by kernel_rfl) (by kernel_rfl) (v_move rfl) rfl ?_
        refine a_take 7 pan_cx (by kernel_rfl) (fun _ hw => hw.sub (by repeat (first | exact List.Sublist.slnil | exact List.Sublist.refl _ | apply List.Sublist.cons_cons | apply List.Sublist.cons))) rfl (by kernel_rfl) (by kernel_rfl) (v_fieldAddrB (o := 2) Try.underlying118 rfl rfl Try.nz3 rfl) rfl ?_
        refine a_take 8 pan_cx (by kernel_rfl) (fun _ hw => hw.sub (by repeat (first | exact List.Sublist.slnil | exact List.Sublist.refl _ | apply List.Sublist.cons_cons | apply List.Sublist.cons))) rfl (by kernel_rfl) (by kernel_rfl) (v_loadB 0 rfl Try.underlying3 rfl rfl rfl) rfl ?_
        refine a_take 9 pan_cx (by kernel_rfl) (fun _ hw => hw.sub (by repeat (first | exact List.Sublist.slnil | exact List.Sublist.refl _ | apply List.Sublist.cons_cons | apply List.Sublist.cons))) rfl (by kernel_rfl) (by kernel_rfl) (v_nilCheck rfl) rfl ?_
        refine a_take 10 pan_cx (by kernel_rfl) (fun _ hw => hw.sub (by repeat (first | exact List.Sublist.slnil | exact List.Sublist.refl _ | apply List.Sublist.cons_cons | apply List.Sublist.cons))) rfl (by kernel_rfl) (by kernel_rfl) (v_fieldAddrB (o := 3) Try.underlying130 rfl rfl Try.nz28 rfl) rfl ?_
        refine a_take 11 pan_cx (by kernel_rfl) (fun _ hw => hw.sub (by repeat (first | exact List.Sublist.slnil | exact List.Sublist.refl _ | apply List.Sublist.cons_cons | apply List.Sublist.cons))) rfl (by kernel_rfl) (by kernel_rfl) (v_indexAB Try.underlying28 Try.hi2 Try.cz2 rfl rfl (by omega)) rfl ?_
        refine a_take 13 pan_cx (by kernel_rfl) (fun _ hw => hw.sub (by repeat (first | exact List.Sublist.slnil | exact List.Sublist.refl _ | apply List.Sublist.cons_cons | apply List.Sublist.cons))) rfl (by kernel_rfl) (by kernel_rfl) (v_nilCheck rfl) rfl ?_
        refine a_take 14 pan_cx (by kernel_rfl) (fun _ hw => hw.sub (by repeat (first | exact List.Sublist.slnil | exact List.Sublist.refl _ | apply List.Sublist.cons_cons | apply List.Sublist.cons))) rfl (by kernel_rfl) (by kernel_rfl) (v_fieldAddrB (o := 13) Try.underlying130 rfl rfl Try.nz128 rfl) rfl ?_
        refine a_take 17 pan_cx (by kernel_rfl) (fun _ hw => hw.sub (by repeat (first | exact List.Sublist.slnil | exact List.Sublist.refl _ | apply List.Sublist.cons_cons | apply List.Sublist.cons))) rfl (by kernel_rfl) (by kernel_rfl) (v_nilCheck rfl) rfl ?_
        refine a_take 18 pan_cx (by kernel_rfl) (fun _ hw => hw.sub (by repeat (first | exact List.Sublist.slnil | exact List.Sublist.refl _ | apply List.Sublist.cons_cons | apply List.Sublist.cons))) rfl (by kernel_rfl) (by kernel_rfl) (v_fieldAddrB (o := 23) Try.underlying130 rfl rfl Try.nz23 rfl) rfl ?_
        refine a_one 12 (by kernel_rfl) rfl rfl ?_
        refine x_val (v_loadB 1 rfl Try.underlying2 rfl rfl (wk_g hg4 (by omega) (by omega))) rfl ?_
        refine a_and (fun _ hw => hw.sub (by repeat (first | exact List.Sublist.slnil | exact List.Sublist.refl _ | apply List.Sublist.cons_cons | apply List.Sublist.cons))) ?_
        refine a_take 15 pan_cx (by kernel_rfl) (fun _ hw => hw.sub (by repeat (first | exact List.Sublist.slnil | exact List.Sublist.refl _ | apply List.Sublist.cons_cons | apply List.Sublist.cons))) rfl (by kernel_rfl) (by kernel_rfl) (v_indexAB Try.underlying128 Try.hi4 Try.cz4 rfl rfl (by omega)) rfl ?_
        refine a_one 16 (by kernel_rfl) rfl rfl ?_
        refine x_store1 1 rfl rfl rfl Try.hi4 Try.cz4 rfl (by rw [hlen]; omega) rfl ?_; rw [wk_put_set hg4 hr4 _ (by omega) (by omega)]
        refine a_and (fun _ hw => hw.sub (by repeat (first | exact List.Sublist.slnil | exact List.Sublist.refl _ | apply List.Sublist.cons_cons | apply List.Sublist.cons))) ?_
        refine a_take 19 pan_cx (by kernel_rfl) (fun _ hw => hw.sub (by repeat (first | exact List.Sublist.slnil | exact List.Sublist.refl _ | apply List.Sublist.cons_cons | apply List.Sublist.cons))) rfl (by kernel_rfl) (by kernel_rfl) (v_indexAB Try.underlying23 Try.hi2 Try.cz2 rfl rfl (by omega)) rfl ?_
        refine a_one 20 (by kernel_rfl) rfl rfl ?_
        refine x_store1 1 rfl rfl rfl Try.hi2 Try.cz2 rfl (by rw [wkC_len (x := { x with put := upd x.put o.a.toNat true }) hg4 hr4]; omega) rfl ?_; rw [wk_has_set (x := { x with put := upd x.put o.a.toNat true }) hg4 hr4 _ (by omega) (by omega)]
        refine a_and (fun _ hw => hw.sub (by repeat (first | exact List.Sublist.slnil | exact List.Sublist.refl _ | apply List.Sublist.cons_cons | apply List.Sublist.cons))) ?_
        refine a_done (by kernel_rfl) ?_
        refine g_heap (m' := .blk b6 118 (opCells o) :: (wkH p dv { x with put := upd x.put o.a.toNat true, has := upd x.has o.a.toNat (gt x.g o.b) } ++ tbH pt 137 hs T)) (fun _ hw => hw) ?_
        refine e_blk ?_
        refine e_seq ?_
        refine e_region ?_
        refine w_val (v_move rfl) rfl ?_
        refine w_val (v_nilCheck rfl) rfl ?_
        refine w_val (v_fieldAddrB (o := 2) Try.underlying130 rfl rfl Try.nz3 rfl) rfl ?_
        refine w_val (v_loadB 1 rfl Try.underlying3 rfl rfl rfl) rfl ?_
        refine w_val (v_is (v' := .int .i64 ((x.at_ + 1 : Nat) : Int)) (v_add (p := (x.at_ : Int)) (q := 1) rfl rfl (by omega)) (congrArg (Value.int .i64) (by omega))) rfl ?_
        refine w_val (v_nilCheck rfl) rfl ?_
        refine w_val (v_fieldAddrB (o := 2) Try.underlying130 rfl rfl Try.nz3 rfl) rfl ?_
        refine w_op rfl ?_
        refine x_store1 1 rfl rfl rfl Try.hi3 Try.cz3 rfl wk_lt2 rfl ?_
        refine w_nil ?_
        refine e_seq ?_
        refine e_region ?_
        refine w_val (v_assign rfl) rfl ?_
        refine w_val (v_assign rfl) rfl ?_
        refine w_nil ?_
        refine e_retQ (q_ret2 rfl (.tmp rfl) (.tmp rfl) ?_)
        exact fun w' hw' => ⟨(), trivial, rfl, (hw'.sub (List.sublist_cons_self _ _)).res⟩
      · rw [if_neg (by omega), if_neg (by omega), if_neg (by omega), if_neg (by omega), if_pos hk] at hR
        refine e_condDF rfl (by omega) ?_
        refine e_seq ?_
        refine e_region ?_
        refine w_val (v_eql rfl rfl) rfl ?_
        refine w_val (v_assign rfl) rfl ?_
        refine w_nil ?_
        refine e_condDF rfl (by omega) ?_
        refine e_seq ?_
        refine e_region ?_
        refine w_val (v_eql rfl rfl) rfl ?_
        refine w_val (v_assign rfl) rfl ?_
        refine w_nil ?_
        refine e_condDF rfl (by omega) ?_
        refine e_seq ?_
        refine e_region ?_
        refine w_val (v_eql rfl rfl) rfl ?_
        refine w_val (v_assign rfl) rfl ?_
        refine w_nil ?_
        refine e_condDF rfl (by omega) ?_
        refine e_seq ?_
        refine e_region ?_
        refine w_val (v_eql rfl rfl) rfl ?_
        refine w_val (v_assign rfl) rfl ?_
        refine w_nil ?_
        refine e_condDT rfl (by omega) ?_
        refine e_seq ?_
        refine e_draw ([.blk b6 118 (opCells o), wkB p dv x]) Try.mixed ?_
        refine a_take 0 pan_cx (by kernel_rfl) (fun _ hw => hw.sub (by repeat (first | exact List.Sublist.slnil | exact List.Sublist.refl _ | apply List.Sublist.cons_cons | apply List.Sublist.cons))) rfl (by kernel_rfl) (by kernel_rfl) (v_move rfl) rfl ?_
        refine a_take 1 pan_cx (by kernel_rfl) (fun _ hw => hw.sub (by repeat (first | exact List.Sublist.slnil | exact List.Sublist.refl _ | apply List.Sublist.cons_cons | apply List.Sublist.cons))) rfl (by kernel_rfl) (by kernel_rfl) (v_fieldAddrB (o := 1) Try.underlying118 rfl rfl Try.nz3 rfl) rfl ?_
        refine a_take 2 pan_cx (by kernel_rfl) (fun _ hw => hw.sub (by repeat (first | exact List.Sublist.slnil | exact List.Sublist.refl _ | apply List.Sublist.cons_cons | apply List.Sublist.cons))) rfl (by kernel_rfl) (by kernel_rfl) (v_loadB 0 rfl Try.underlying3 rfl rfl rfl) rfl ?_
        refine a_take 3 pan_cx (by kernel_rfl) (fun _ hw => hw.sub (by repeat (first | exact List.Sublist.slnil | exact List.Sublist.refl _ | apply List.Sublist.cons_cons | apply List.Sublist.cons))) rfl (by kernel_rfl) (by kernel_rfl) (v_nilCheck rfl) rfl ?_
        refine a_take 4 pan_cx (by kernel_rfl) (fun _ hw => hw.sub (by repeat (first | exact List.Sublist.slnil | exact List.Sublist.refl _ | apply List.Sublist.cons_cons | apply List.Sublist.cons))) rfl (by kernel_rfl) (by kernel_rfl) (v_fieldAddrB (o := 3) Try.underlying130 rfl rfl Try.nz28 rfl) rfl ?_
        refine a_take 5 pan_cx (by kernel_rfl) (fun _ hw => hw.sub (by repeat (first | exact List.Sublist.slnil | exact List.Sublist.refl _ | apply List.Sublist.cons_cons | apply List.Sublist.cons))) rfl (by kernel_rfl) (by kernel_rfl) (v_indexAB Try.underlying28 Try.hi2 Try.cz2 rfl rfl (by omega)) rfl ?_
        refine a_take 6 pan_cx (by kernel_rfl) (fun _ hw => hw.sub (by repeat (first | exact List.Sublist.slnil | exact List.Sublist.refl _ | apply List.Sublist.cons_cons | apply List.Sublist.cons))) rfl (by kernel_rfl) (by kernel_rfl) (v_loadB 1 rfl Try.underlying2 rfl rfl (wk_g hg4 (by omega) (by omega))) rfl ?_
        refine a_take 7 pan_cx (by kernel_rfl) (fun _ hw => hw.sub (by repeat (first | exact List.Sublist.slnil | exact List.Sublist.refl _ | apply List.Sublist.cons_cons | apply List.Sublist.cons))) rfl (by kernel_rfl) (by kernel_rfl) (v_eql rfl rfl) rfl ?_
        refine a_done (by kernel_rfl) ?_
        refine e_condD rfl (fun hz => ?_) (fun hz => ?_)
        · rw [if_pos hz] at hR
          rw [hR]
          obtain ⟨bb, hbb⟩ : ∃ bb : Nat, o.b = bb := ⟨o.b.toNat, by omega⟩
          rw [hbb, Int.toNat_natCast]
          refine e_draw ([.blk b6 118 (opCells o)]) Try.mixed ?_
          refine a_take 0 pan_cx (by kernel_rfl) (fun _ hw => hw.sub (by repeat (first | exact List.Sublist.slnil | exact List.Sublist.refl _ | apply List.Sublist.cons_cons | apply List.Sublist.cons))) rfl (by kernel_rfl) (by kernel_rfl) (v_move rfl) rfl ?_
          refine a_take 1 pan_cx (by kernel_rfl) (fun _ hw => hw.sub (by repeat (first | exact List.Sublist.slnil | exact List.Sublist.refl _ | apply List.Sublist.cons_cons | apply List.Sublist.cons))) rfl (by kernel_rfl) (by kernel_rfl) (v_nilCheck rfl) rfl ?_
          refine a_take 2 pan_cx (by kernel_rfl) (fun _ hw => hw.sub (by repeat (first | exact List.Sublist.slnil | exact List.Sublist.refl _ | apply List.Sublist.cons_cons | apply List.Sublist.cons))) rfl (by kernel_rfl) (by kernel_rfl) (v_fieldAddrB (o := 2) Try.underlying130 rfl rfl Try.nz3 rfl) rfl ?_
          refine a_take 4 pan_cx (by kernel_rfl) (fun _ hw => hw.sub (by repeat (first | exact List.Sublist.slnil | exact List.Sublist.refl _ | apply List.Sublist.cons_cons | apply List.Sublist.cons))) rfl (by kernel_rfl) (by kernel_rfl) (v_fieldAddrB (o := 2) Try.underlying118 rfl rfl Try.nz3 rfl) rfl ?_
          refine a_take 5 pan_cx (by kernel_rfl) (fun _ hw => hw.sub (by repeat (first | exact List.Sublist.slnil | exact List.Sublist.refl _ | apply List.Sublist.cons_cons | apply List.Sublist.cons))) rfl (by kernel_rfl) (by kernel_rfl) (v_loadB 0 rfl Try.underlying3 rfl rfl rfl) rfl ?_
          refine a_one 3 (by kernel_rfl) rfl rfl ?_
          refine x_val (v_loadB 1 rfl Try.underlying3 rfl rfl rfl) rfl ?_
          refine a_and (fun _ hw => hw.sub (by repeat (first | exact List.Sublist.slnil | exact List.Sublist.refl _ | apply List.Sublist.cons_cons | apply List.Sublist.cons))) ?_
          refine a_take 6 pan_cx (by kernel_rfl) (fun _ hw => hw.sub (by repeat (first | exact List.Sublist.slnil | exact List.Sublist.refl _ | apply List.Sublist.cons_cons | apply List.Sublist.cons))) rfl (by kernel_rfl) (by kernel_rfl) (v_is (v' := .int .i64 ((x.at_ + bb : Nat) : Int)) (v_add (p := (x.at_ : Int)) (q := o.b) rfl rfl (by omega)) (congrArg (Value.int .i64) (by omega))) rfl ?_
          refine a_take 7 pan_cx (by kernel_rfl) (fun _ hw => hw.sub (by repeat (first | exact List.Sublist.slnil | exact List.Sublist.refl _ | apply List.Sublist.cons_cons | apply List.Sublist.cons))) rfl (by kernel_rfl) (by kernel_rfl) (v_nilCheck rfl) rfl ?_
          refine a_take 8 pan_cx (by kernel_rfl) (fun _ hw => hw.sub (by repeat (first | exact List.Sublist.slnil | exact List.Sublist.refl _ | apply List.Sublist.cons_cons | apply List.Sublist.cons))) rfl (by kernel_rfl) (by kernel_rfl) (v_fieldAddrB (o := 2) Try.underlying130 rfl rfl Try.nz3 rfl) rfl ?_
          refine a_one 9 (by kernel_rfl) rfl rfl ?_
          refine x_store1 1 rfl rfl rfl Try.hi3 Try.cz3 rfl wk_lt2 rfl ?_
          refine a_and (fun _ hw => hw.sub (by repeat (first | exact List.Sublist.slnil | exact List.Sublist.refl _ | apply List.Sublist.cons_cons | apply List.Sublist.cons))) ?_
          refine a_done (by kernel_rfl) ?_
          refine g_heap (m' := .blk b6 118 (opCells o) :: (wkH p dv { x with at_ := x.at_ + bb } ++ tbH pt 137 hs T)) (fun _ hw => hw) ?_
          refine e_blk ?_
          refine e_seq ?_
          refine e_region ?_
          refine w_val (v_move rfl) rfl ?_
          refine w_val (v_nilCheck rfl) rfl ?_
          refine w_val (v_fieldAddrB (o := 2) Try.underlying130 rfl rfl Try.nz3 rfl) rfl ?_
          refine w_val (v_loadB 1 rfl Try.underlying3 rfl rfl rfl) rfl ?_
          refine w_val (v_is (v' := .int .i64 ((x.at_ + 1 + bb : Nat) : Int)) (v_add (p := ((x.at_ + bb : Nat) : Int)) (q := 1) rfl rfl (by omega)) (congrArg (Value.int .i64) (by omega))) rfl ?_
          refine w_val (v_nilCheck rfl) rfl ?_
          refine w_val (v_fieldAddrB (o := 2) Try.underlying130 rfl rfl Try.nz3 rfl) rfl ?_
          refine w_op rfl ?_
          refine x_store1 1 rfl rfl rfl Try.hi3 Try.cz3 rfl wk_lt2 rfl ?_
          refine w_nil ?_
          refine e_seq ?_
          refine e_region ?_
          refine w_val (v_assign rfl) rfl ?_
          refine w_val (v_assign rfl) rfl ?_
          refine w_nil ?_
          refine e_retQ (q_ret2 rfl (.tmp rfl) (.tmp rfl) ?_)
          exact fun w' hw' => ⟨(), trivial, rfl, (hw'.sub (List.sublist_cons_self _ _)).res⟩
        · rw [if_neg hz] at hR
          rw [hR]
          refine e_skip ?_
          refine e_blk ?_
          refine e_seq ?_
          refine e_region ?_
          refine w_val (v_move rfl) rfl ?_
          refine w_val (v_nilCheck rfl) rfl ?_
          refine w_val (v_fieldAddrB (o := 2) Try.underlying130 rfl rfl Try.nz3 rfl) rfl ?_
          refine w_val (v_loadB 1 rfl Try.underlying3 rfl rfl rfl) rfl ?_
          refine w_val (v_is (v' := .int .i64 ((x.at_ + 1 : Nat) : Int)) (v_add (p := (x.at_ : Int)) (q := 1) rfl rfl (by omega)) (congrArg (Value.int .i64) (by omega))) rfl ?_
          refine w_val (v_nilCheck rfl) rfl ?_
          refine w_val (v_fieldAddrB (o := 2) Try.underlying130 rfl rfl Try.nz3 rfl) rfl ?_
          refine w_op rfl ?_
          refine x_store1 1 rfl rfl rfl Try.hi3 Try.cz3 rfl wk_lt2 rfl ?_
          refine w_nil ?_
          refine e_seq ?_
          refine e_region ?_
          refine w_val (v_assign rfl) rfl ?_
          refine w_val (v_assign rfl) rfl ?_
          refine w_nil ?_
          refine e_retQ (q_ret2 rfl (.tmp rfl) (.tmp rfl) ?_)
          exact fun w' hw' => ⟨(), trivial, rfl, (hw'.sub (List.sublist_cons_self _ _)).res⟩
      · rw [if_neg (by omega), if_neg (by omega), if_neg (by omega), if_neg (by omega), if_neg (by omega)] at hR
        rw [hR]
        refine e_condDF rfl (by omega) ?_
        refine e_seq ?_
        refine e_region ?_
        refine w_val (v_eql rfl rfl) rfl ?_
        refine w_val (v_assign rfl) rfl ?_
        refine w_nil ?_
        refine e_condDF rfl (by omega) ?_
        refine e_seq ?_
        refine e_region ?_
        refine w_val (v_eql rfl rfl) rfl ?_
        refine w_val (v_assign rfl) rfl ?_
        refine w_nil ?_
        refine e_condDF rfl (by omega) ?_
        refine e_seq ?_
        refine e_region ?_
        refine w_val (v_eql rfl rfl) rfl ?_
        refine w_val (v_assign rfl) rfl ?_
        refine w_nil ?_
        refine e_condDF rfl (by omega) ?_
        refine e_seq ?_
        refine e_region ?_
        refine w_val (v_eql rfl rfl) rfl ?_
        refine w_val (v_assign rfl) rfl ?_
        refine w_nil ?_
        refine e_condDF rfl (by omega) ?_
        refine e_cutH (σ := Unit) [0, 1, 6] (.cons rfl (.cons rfl (.cons rfl .nil))) (fun _ => []) (fun _ => .blk b6 118 (opCells o) :: (wkH p dv { x with g := st x.g o.a (arithL o.kind (gt x.g o.b) (gt x.g o.c)) } ++ tbH pt 137 hs T)) (fun _ => True) ?_ ?_
        · refine e_draw ([.blk b6 118 (opCells o)]) Try.mixed ?_
          refine a_take 0 pan_cx (by kernel_rfl) (fun _ hw => hw.sub (by repeat (first | exact List.Sublist.slnil | exact List.Sublist.refl _ | apply List.Sublist.cons_cons | apply List.Sublist.cons))) rfl (by kernel_rfl) (by kernel_rfl) (v_move rfl) rfl ?_
          refine a_take 1 pan_cx (by kernel_rfl) (fun _ hw => hw.sub (by repeat (first | exact List.Sublist.slnil | exact List.Sublist.refl _ | apply List.Sublist.cons_cons | apply List.Sublist.cons))) rfl (by kernel_rfl) (by kernel_rfl) (v_fieldAddrB (o := 1) Try.underlying118 rfl rfl Try.nz3 rfl) rfl ?_
          refine a_take 2 pan_cx (by kernel_rfl) (fun _ hw => hw.sub (by repeat (first | exact List.Sublist.slnil | exact List.Sublist.refl _ | apply List.Sublist.cons_cons | apply List.Sublist.cons))) rfl (by kernel_rfl) (by kernel_rfl) (v_loadB 0 rfl Try.underlying3 rfl rfl rfl) rfl ?_
          refine a_take 3 pan_cx (by kernel_rfl) (fun _ hw => hw.sub (by repeat (first | exact List.Sublist.slnil | exact List.Sublist.refl _ | apply List.Sublist.cons_cons | apply List.Sublist.cons))) rfl (by kernel_rfl) (by kernel_rfl) (v_fieldAddrB (o := 0) Try.underlying118 rfl rfl Try.nz3 rfl) rfl ?_
          refine a_take 4 pan_cx (by kernel_rfl) (fun _ hw => hw.sub (by repeat (first | exact List.Sublist.slnil | exact List.Sublist.refl _ | apply List.Sublist.cons_cons | apply List.Sublist.cons))) rfl (by kernel_rfl) (by kernel_rfl) (v_loadB 0 rfl Try.underlying3 rfl rfl rfl) rfl ?_
          refine a_take 5 pan_cx (by kernel_rfl) (fun _ hw => hw.sub (by repeat (first | exact List.Sublist.slnil | exact List.Sublist.refl _ | apply List.Sublist.cons_cons | apply List.Sublist.cons))) rfl (by kernel_rfl) (by kernel_rfl) (v_move rfl) rfl ?_
          refine a_take 6 pan_cx (by kernel_rfl) (fun _ hw => hw.sub (by repeat (first | exact List.Sublist.slnil | exact List.Sublist.refl _ | apply List.Sublist.cons_cons | apply List.Sublist.cons))) rfl (by kernel_rfl) (by kernel_rfl) (v_fieldAddrB (o := 2) Try.underlying118 rfl rfl Try.nz3 rfl) rfl ?_
          refine a_take 7 pan_cx (by kernel_rfl) (fun _ hw => hw.sub (by repeat (first | exact List.Sublist.slnil | exact List.Sublist.refl _ | apply List.Sublist.cons_cons | apply List.Sublist.cons))) rfl (by kernel_rfl) (by kernel_rfl) (v_loadB 0 rfl Try.underlying3 rfl rfl rfl) rfl ?_
          refine a_take 8 pan_cx (by kernel_rfl) (fun _ hw => hw.sub (by repeat (first | exact List.Sublist.slnil | exact List.Sublist.refl _ | apply List.Sublist.cons_cons | apply List.Sublist.cons))) rfl (by kernel_rfl) (by kernel_rfl) (v_nilCheck rfl) rfl ?_
          refine a_take 9 pan_cx (by kernel_rfl) (fun _ hw => hw.sub (by repeat (first | exact List.Sublist.slnil | exact List.Sublist.refl _ | apply List.Sublist.cons_cons | apply List.Sublist.cons))) rfl (by kernel_rfl) (by kernel_rfl) (v_fieldAddrB (o := 3) Try.underlying130 rfl rfl Try.nz28 rfl) rfl ?_
          refine a_take 10 pan_cx (by kernel_rfl) (fun _ hw => hw.sub (by repeat (first | exact List.Sublist.slnil | exact List.Sublist.refl _ | apply List.Sublist.cons_cons | apply List.Sublist.cons))) rfl (by kernel_rfl) (by kernel_rfl) (v_indexAB Try.underlying28 Try.hi2 Try.cz2 rfl rfl (by omega)) rfl ?_
          refine a_take 12 pan_cx (by kernel_rfl) (fun _ hw => hw.sub (by repeat (first | exact List.Sublist.slnil | exact List.Sublist.refl _ | apply List.Sublist.cons_cons | apply List.Sublist.cons))) rfl (by kernel_rfl) (by kernel_rfl) (v_move rfl) rfl ?_
          refine a_take 13 pan_cx (by kernel_rfl) (fun _ hw => hw.sub (by repeat (first | exact List.Sublist.slnil | exact List.Sublist.refl _ | apply List.Sublist.cons_cons | apply List.Sublist.cons))) rfl (by kernel_rfl) (by kernel_rfl) (v_fieldAddrB (o := 3) Try.underlying118 rfl rfl Try.nz3 rfl) rfl ?_
          refine a_take 14 pan_cx (by kernel_rfl) (fun _ hw => hw.sub (by repeat (first | exact List.Sublist.slnil | exact List.Sublist.refl _ | apply List.Sublist.cons_cons | apply List.Sublist.cons))) rfl (by kernel_rfl) (by kernel_rfl) (v_loadB 0 rfl Try.underlying3 rfl rfl rfl) rfl ?_
          refine a_take 15 pan_cx (by kernel_rfl) (fun _ hw => hw.sub (by repeat (first | exact List.Sublist.slnil | exact List.Sublist.refl _ | apply List.Sublist.cons_cons | apply List.Sublist.cons))) rfl (by kernel_rfl) (by kernel_rfl) (v_nilCheck rfl) rfl ?_
          refine a_take 16 pan_cx (by kernel_rfl) (fun _ hw => hw.sub (by repeat (first | exact List.Sublist.slnil | exact List.Sublist.refl _ | apply List.Sublist.cons_cons | apply List.Sublist.cons))) rfl (by kernel_rfl) (by kernel_rfl) (v_fieldAddrB (o := 3) Try.underlying130 rfl rfl Try.nz28 rfl) rfl ?_
          refine a_take 17 pan_cx (by kernel_rfl) (fun _ hw => hw.sub (by repeat (first | exact List.Sublist.slnil | exact List.Sublist.refl _ | apply List.Sublist.cons_cons | apply List.Sublist.cons))) rfl (by kernel_rfl) (by kernel_rfl) (v_indexAB Try.underlying28 Try.hi2 Try.cz2 rfl rfl (by omega)) rfl ?_
          refine a_take 20 pan_cx (by kernel_rfl) (fun _ hw => hw.sub (by repeat (first | exact List.Sublist.slnil | exact List.Sublist.refl _ | apply List.Sublist.cons_cons | apply List.Sublist.cons))) rfl (by kernel_rfl) (by kernel_rfl) (v_nilCheck rfl) rfl ?_
          refine a_take 21 pan_cx (by kernel_rfl) (fun _ hw => hw.sub (by repeat (first | exact List.Sublist.slnil | exact List.Sublist.refl _ | apply List.Sublist.cons_cons | apply List.Sublist.cons))) rfl (by kernel_rfl) (by kernel_rfl) (v_fieldAddrB (o := 3) Try.underlying130 rfl rfl Try.nz28 rfl) rfl ?_
          refine a_all [11, 18] (by kernel_rfl) rfl ?_
          intro i hi
          simp only [List.mem_cons, List.not_mem_nil, or_false] at hi
          rcases hi with rfl | rfl
          · refine a_op rfl rfl ?_
            refine x_val (v_loadB 1 rfl Try.underlying2 rfl rfl (wk_g hg4 (by omega) (by omega))) rfl ?_
            refine a_and (fun _ hw => hw.sub (by repeat (first | exact List.Sublist.slnil | exact List.Sublist.refl _ | apply List.Sublist.cons_cons | apply List.Sublist.cons))) ?_
            refine a_one 18 (by kernel_rfl) rfl rfl ?_
            refine x_val (v_loadB 1 rfl Try.underlying2 rfl rfl (wk_g hg4 (by omega) (by omega))) rfl ?_
            refine a_and (fun _ hw => hw.sub (by repeat (first | exact List.Sublist.slnil | exact List.Sublist.refl _ | apply List.Sublist.cons_cons | apply List.Sublist.cons))) ?_
            refine a_one 19 (by kernel_rfl) rfl rfl ?_
            refine x_call0 (v := .int .i64 (arithL o.kind (gt x.g o.b) (gt x.g o.c))) rfl rfl rfl Try.call69 rfl (fun w hw => arith_spec _ _ _ w) ?_
            refine a_and (fun _ hw => hw.sub (by repeat (first | exact List.Sublist.slnil | exact List.Sublist.refl _ | apply List.Sublist.cons_cons | apply List.Sublist.cons))) ?_
            refine a_take 22 pan_cx (by kernel_rfl) (fun _ hw => hw.sub (by repeat (first | exact List.Sublist.slnil | exact List.Sublist.refl _ | apply List.Sublist.cons_cons | apply List.Sublist.cons))) rfl (by kernel_rfl) (by kernel_rfl) (v_indexAB Try.underlying28 Try.hi2 Try.cz2 rfl rfl (by omega)) rfl ?_
            refine a_one 23 (by kernel_rfl) rfl rfl ?_
            refine x_store1 1 rfl rfl rfl Try.hi2 Try.cz2 rfl (by rw [hlen]; omega) rfl ?_; rw [wk_g_set hg4 _ (by omega) (by omega)]
            refine a_and (fun _ hw => hw.sub (by repeat (first | exact List.Sublist.slnil | exact List.Sublist.refl _ | apply List.Sublist.cons_cons | apply List.Sublist.cons))) ?_
            refine a_done (by kernel_rfl) ?_
            exact e_cutEnd () trivial (by repeat (first | exact Sub.nil _ | refine Sub.cons rfl ?_)) (fun _ hw => hw)
          · refine a_op rfl rfl ?_
            refine x_val (v_loadB 1 rfl Try.underlying2 rfl rfl (wk_g hg4 (by omega) (by omega))) rfl ?_
            refine a_and (fun _ hw => hw.sub (by repeat (first | exact List.Sublist.slnil | exact List.Sublist.refl _ | apply List.Sublist.cons_cons | apply List.Sublist.cons))) ?_
            refine a_one 11 (by kernel_rfl) rfl rfl ?_
            refine x_val (v_loadB 1 rfl Try.underlying2 rfl rfl (wk_g hg4 (by omega) (by omega))) rfl ?_
            refine a_and (fun _ hw => hw.sub (by repeat (first | exact List.Sublist.slnil | exact List.Sublist.refl _ | apply List.Sublist.cons_cons | apply List.Sublist.cons))) ?_
            refine a_one 19 (by kernel_rfl) rfl rfl ?_
            refine x_call0 (v := .int .i64 (arithL o.kind (gt x.g o.b) (gt x.g o.c))) rfl rfl rfl Try.call69 rfl (fun w hw => arith_spec _ _ _ w) ?_
            refine a_and (fun _ hw => hw.sub (by repeat (first | exact List.Sublist.slnil | exact List.Sublist.refl _ | apply List.Sublist.cons_cons | apply List.Sublist.cons))) ?_
            refine a_take 22 pan_cx (by kernel_rfl) (fun _ hw => hw.sub (by repeat (first | exact List.Sublist.slnil | exact List.Sublist.refl _ | apply List.Sublist.cons_cons | apply List.Sublist.cons))) rfl (by kernel_rfl) (by kernel_rfl) (v_indexAB Try.underlying28 Try.hi2 Try.cz2 rfl rfl (by omega)) rfl ?_
            refine a_one 23 (by kernel_rfl) rfl rfl ?_
            refine x_store1 1 rfl rfl rfl Try.hi2 Try.cz2 rfl (by rw [hlen]; omega) rfl ?_; rw [wk_g_set hg4 _ (by omega) (by omega)]
            refine a_and (fun _ hw => hw.sub (by repeat (first | exact List.Sublist.slnil | exact List.Sublist.refl _ | apply List.Sublist.cons_cons | apply List.Sublist.cons))) ?_
            refine a_done (by kernel_rfl) ?_
            exact e_cutEnd () trivial (by repeat (first | exact Sub.nil _ | refine Sub.cons rfl ?_)) (fun _ hw => hw)
        · rintro - -
          refine e_blk ?_
          refine e_seq ?_
          refine e_region ?_
          refine w_val (v_move rfl) rfl ?_
          refine w_val (v_nilCheck rfl) rfl ?_
          refine w_val (v_fieldAddrB (o := 2) Try.underlying130 rfl rfl Try.nz3 rfl) rfl ?_
          refine w_val (v_loadB 1 rfl Try.underlying3 rfl rfl rfl) rfl ?_
          refine w_val (v_is (v' := .int .i64 ((x.at_ + 1 : Nat) : Int)) (v_add (p := (x.at_ : Int)) (q := 1) rfl rfl (by omega)) (congrArg (Value.int .i64) (by omega))) rfl ?_
          refine w_val (v_nilCheck rfl) rfl ?_
          refine w_val (v_fieldAddrB (o := 2) Try.underlying130 rfl rfl Try.nz3 rfl) rfl ?_
          refine w_op rfl ?_
          refine x_store1 1 rfl rfl rfl Try.hi3 Try.cz3 rfl wk_lt2 rfl ?_
          refine w_nil ?_
          refine e_seq ?_
          refine e_region ?_
          refine w_val (v_assign rfl) rfl ?_
          refine w_val (v_assign rfl) rfl ?_
          refine w_nil ?_
          refine e_retQ (q_ret2 rfl (.tmp rfl) (.tmp rfl) ?_)
          exact fun w' hw' => ⟨(), trivial, rfl, (hw'.sub (List.sublist_cons_self _ _)).res⟩
end Go.SL
end
