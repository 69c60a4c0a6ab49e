/- YtebdkaadbakhlaaGreatDoor: part WC of this seat's own texts. -/
import Derived.Test.YtebdkaadbakhlaaGreatDoorW4
import Derived.Test.YtebdkaadbakhlaaGreatDoorP5
set_option linter.unusedVariables false
set_option linter.unusedSimpArgs false
section
open Go Go.Proofs Go.SL
set_option maxRecDepth 100000
namespace Go.SL
theorem slIndex_spec (v : Value) (l : List Int) (x : Int) (w : World) (h : IsInts w.cell? v l) (hmax : l.length ≤ 140737488355328) :
  Calls Tryz.prog 187 #[v, .int .i64 x] w fun e w' => ∃ z : Int, (0 ≤ z ↔ x ∈ l) ∧ e = .returned (.int .i64 z) ∧ Res w [] [] w' := by
 rw [← off_none w] at h
 obtain ⟨A, kp, rfl, hle, hc⟩ := h.form
 refine enter0 (N := 19) Tryz.func187 rfl rfl rfl <| esr <| wa rfl rfl <| w_nil <| e_seq <| esr <| wm rfl rfl <| w_val (v_lenS uT70 rfl) rfl <| wm rfl rfl <| w_nil <| e_block ?_
 refine e_loopK (σ := Nat) [0, 1] (.cons rfl (.cons rfl .nil)) (fun k => [(7, .int .i64 l.length), (8, .int .i64 (k : Int))]) (fun k => k ≤ l.length ∧ x ∉ l.take k) (fun k => l.length - k) 0 ⟨by omega, by simp⟩ (by repeat first | exact .nil _ | refine .cons rfl ?_) ?_
 rintro k ⟨hk, hno⟩
 refine esr <| w_val (v_lss rfl rfl) rfl <| w_nil <| e_seq ?_
 refine e_condD rfl (fun hlt => ?_) (fun hlt => ?_)
 ·have hlt' : k < l.length := by omega
  obtain ⟨ad, rfl, hcell⟩ := hc k hlt'
  have hnext : l.take (k + 1) = l.take k ++ [l[k]] := List.take_succ_eq_append_getElem hlt'
  have hmem : l[k] ∈ l := List.getElem_mem _
  generalize l[k] = y at *
  refine e_skip <| e_seq <| e_block <| esr <| wm rfl rfl <| wa rfl rfl <| wsr <| wm rfl rfl <| wm rfl rfl <| wm rfl rfl ?_
  refine w_val (v_indexS uT70 Tryz.hi3 Tryz.cz3 rfl rfl (by first | omega | decide)) rfl ?_
  refine w_val (v_loadO uT3 rfl rfl (hcell)) rfl <| w_val (v_eql rfl rfl) rfl <| w_nil ?_
  refine e_condD rfl (fun he => ?_) (fun he => ?_)
  ·refine esr <| wm rfl rfl <| wa rfl rfl <| w_nil ?_
   refine e_retQ (q_ret1 rfl (.tmp rfl) ?_)
   refine fun w' hw' => ⟨(k : Int), ⟨fun _ => ?_, fun _ => by omega⟩, rfl, hw'.res.nil⟩
   rw [he]; exact hmem
  ·refine e_skip <| e_blk <| e_region ?_
   refine w_val (v_add rfl rfl (by omega)) rfl ?_
   refine wm rfl rfl <| w_nil ?_
   exact e_round (k + 1) (⟨by omega, by rw [hnext, List.mem_append]; rintro (h | h); exact hno h; exact he (List.mem_singleton.1 h)⟩) (by omega) (by repeat first | exact .nil _ | refine .cons rfl ?_) (fun _ hw => hw)
 ·have hall : x ∉ l := by
   have e : k = l.length := by omega
   rw [e, List.take_length] at hno
   exact hno
  refine e_exit rfl <| esr <| wa rfl rfl <| w_nil ?_
  refine e_retQ (q_ret1 rfl (.tmp rfl) ?_)
  exact fun w' hw' => ⟨-1, ⟨fun h => absurd h (by decide), fun h => absurd h hall⟩, rfl, hw'.res.nil⟩
theorem slContains_spec (v : Value) (l : List Int) (x : Int) (w : World) (h : IsInts w.cell? v l) (hmax : l.length ≤ 140737488355328) :
  Calls Tryz.prog 181 #[v, .int .i64 x] w fun e w' => e = .returned (.bool (decide (x ∈ l))) ∧ Res w [] [] w' := by
 rw [← off_none w] at h
 refine enter0 (N := 9) Tryz.func181 rfl rfl rfl <| esr <| wa rfl rfl <| wsr <| wm rfl rfl <| wm rfl rfl <| w_op rfl ?_
 refine x_call (dst := some 7) (mc := []) (mr := []) (σ := Int) (fun z => (0 ≤ z ↔ x ∈ l)) (fun z => .int .i64 z) (fun _ => []) rfl rfl rfl Tryz.call187 (fun w hw => slIndex_spec v l x w (h.mono hw.off) hmax) rfl (fun z hz => ?_)
 refine w_val (v_geq rfl rfl) rfl <| wa rfl rfl <| w_nil ?_
 refine e_retQ (q_ret1 rfl (.tmp rfl) ?_)
 exact fun w' hw' => ⟨by rw [decide_eq_decide.2 hz], hw'.res.nil⟩
end Go.SL
end
section
open Go Go.Proofs Go.SL
set_option maxRecDepth 100000
namespace Go.SL
end Go.SL
end
section
open Go Go.Proofs Go.SL
set_option maxRecDepth 100000
namespace Go.SL
theorem slSort_spec {v : Value} {e n : Nat} {zs : List Int} {w : World} (h : (Own v e 1 n (intsC zs)).holds w) (hl : zs.length ≤ 140737488355328) :
  Calls Tryz.prog 182 #[v] w fun en w' => en = .returned (.tuple #[]) ∧ Res w [Own v e 1 n (intsC zs)] [Own v e 1 n (intsC (zs.mergeSort fun x y => decide (x ≤ y)))] w' :=
 sort_res h (fun blk off cap w hH hb hs => Any.slices_Sort_int Tryz.laysSort blk off cap zs w hH hb hs) (fun p cap w => Any.slices_Sort_int_none Tryz.laysSort p cap w) hl
theorem keysL_len {d : DeedL} {acc : List Int} (ha : acc.Nodup) (h : ∀ x, x ∈ acc ↔ x ∈ storesOf d) : (keysL d).length = acc.length := by
 rw [← keysL_sorted ha h]; exact List.length_mergeSort _
theorem codeKeys_spec (v : Value) (d : DeedL) (w : World) (h : IsDeed w.cell? v d) (hmax : d.length ≤ 1000000) :
  Calls Tryz.prog 175 #[v] w fun e w' => ∃ sl, True ∧ e = .returned sl ∧ Res w [] [Own sl 3 1 (keysL d).length (intsC (keysL d))] w' := by
 rw [← off_none w] at h
 obtain ⟨A, kp, rfl, hle, hc⟩ := h.form
 refine enter0 (N := 31) Tryz.func175 rfl rfl rfl <| esr <| wa rfl rfl <| wsr <| wa rfl rfl <| w_nil <| e_seq <| esr <| wm rfl rfl <| w_val (v_lenS uT80 rfl) rfl <| wm rfl rfl <| w_nil <| e_block ?_
 refine g_heap (fun _ hw => hw.ownNil 3 1) ?_
 refine e_loopH (σ := Nat × Value × List Int) [0, 6] (.cons rfl (.cons rfl .nil)) (fun x => [(3, x.2.1), (7, .int .i64 d.length), (8, .int .i64 (x.1 : Int))]) (fun x => [Own x.2.1 3 1 x.2.2.length (intsC x.2.2)]) (fun x => x.1 ≤ d.length ∧ x.2.2.Nodup ∧ (∀ y, y ∈ x.2.2 ↔ y ∈ storesOf (d.take x.1)) ∧ x.2.2.length ≤ x.1) (fun x => d.length - x.1) (0, .slice none 0 0, []) ⟨by dsimp only; omega, List.nodup_nil, by simp [storesOf], by simp⟩ (by repeat first | exact .nil _ | refine .cons rfl ?_) (fun _ hw => hw) ?_
 rintro ⟨k, vo, acc⟩ ⟨hk, hnd, hmem, hal⟩
 dsimp only at hk hnd hmem hal ⊢
 refine esr <| w_val (v_lss rfl rfl) rfl <| w_nil <| e_seq ?_
 refine e_condD rfl (fun hlt => ?_) (fun hlt => ?_)
 ·have hlt' : k < d.length := by omega
  obtain ⟨ad, rfl, hop⟩ := IsDeed.cells hc hlt'
  have hnext := storesOf_succ hlt'
  generalize hpost : d.take (k + 1) = post at *
  generalize d.take k = pre at *
  generalize d[k] = o at *
  refine e_skip <| e_seq <| e_block <| esr ?_
  refine w_val (v_indexS uT80 Tryz.hi109 Tryz.cz109 rfl rfl (by first | omega | decide)) rfl ?_
  refine w_val (v_loadON uT109 rfl Tryz.hi109 rfl (hop) Tryz.cz109) rfl <| w_op rfl ?_
  refine x_alloc (z := .agg #[.int .i64 0, .int .i64 0, .int .i64 0, .int .i64 0, .int .i64 0]) (by intro w; exact Tryz.zeroValue109 w) rfl (fun b5 => ?_)
  refine w_op rfl ?_
  refine x_storeA 0 rfl rfl rfl Tryz.hi109 Tryz.cz109 rfl (by first | (simp [Value.oneCell', opCells]; done) | assumption | exact one_ints _ | exact one_resCells _ _ | exact one_slotC _) ?_
  refine w_nil <| e_seq ?_
  by_cases h7 : o.kind = 7
  ·rw [if_pos h7] at hnext
   by_cases hx : o.a ∈ acc
   ·have hm : ∀ y, y ∈ acc ↔ y ∈ storesOf post := fun y => by
     rw [hnext, List.mem_append, List.mem_singleton, ← hmem y]
     exact ⟨.inl, fun h => h.elim id (fun h => h ▸ hx)⟩
    refine e_region <| w_val (v_fieldAddrB (o := 0) uT109 rfl rfl Tryz.nz3 rfl) rfl <| w_val (v_loadB 0 rfl uT3 rfl rfl rfl) rfl ?_
    refine w_val (v_is (v' := .bool true) (v_eql rfl rfl) (by rw [decide_eq_true h7])) rfl ?_
    refine wm rfl rfl <| w_want rfl rfl <| wm rfl rfl <| w_want rfl rfl <| w_val (v_fieldAddrB (o := 1) uT109 rfl rfl Tryz.nz3 rfl) rfl <| w_want rfl rfl <| w_val (v_loadB 0 rfl uT3 rfl rfl rfl) rfl <| w_want rfl rfl <| w_op rfl ?_
    refine x_call0 (v := .bool true) rfl rfl rfl Tryz.call181 rfl (fun w hw => Calls.boolT hx (slContains_spec vo acc o.a w (own_rds (hw.mem (i := 1) rfl)) (by omega))) ?_
    refine w_want rfl rfl ?_
    refine w_val (v_is (v' := .bool false) (v_not rfl) (by rfl)) rfl ?_
    refine w_val (v_pickT rfl rfl) rfl <| w_nil <| e_condF rfl <| e_skip <| e_blk <| e_region ?_
    refine w_val (v_add rfl rfl (by omega)) rfl ?_
    refine wm rfl rfl <| w_nil ?_
    exact e_round ((k + 1, vo, acc)) (⟨by dsimp only; omega, hnd, by dsimp only; rw [hpost]; exact hm, by dsimp only; omega⟩) (by dsimp only; omega) (by repeat first | exact .nil _ | refine .cons rfl ?_) (fun _ hw => hw.sub (List.sublist_cons_self _ _))
   ·have hm : ∀ y, y ∈ acc ++ [o.a] ↔ y ∈ storesOf post := fun y => by
     rw [hnext, List.mem_append, List.mem_append, ← hmem y]
    have hnd2 : (acc ++ [o.a]).Nodup := by
     refine List.nodup_append.2 ⟨hnd, by simp, ?_⟩
     intro a ha b hb e
     rw [List.mem_singleton.1 hb] at e
     exact hx (e ▸ ha)
    refine e_region <| w_val (v_fieldAddrB (o := 0) uT109 rfl rfl Tryz.nz3 rfl) rfl <| w_val (v_loadB 0 rfl uT3 rfl rfl rfl) rfl ?_
    refine w_val (v_is (v' := .bool true) (v_eql rfl rfl) (by rw [decide_eq_true h7])) rfl ?_
    refine wm rfl rfl <| w_want rfl rfl <| wm rfl rfl <| w_want rfl rfl <| w_val (v_fieldAddrB (o := 1) uT109 rfl rfl Tryz.nz3 rfl) rfl <| w_want rfl rfl <| w_val (v_loadB 0 rfl uT3 rfl rfl rfl) rfl <| w_want rfl rfl <| w_op rfl ?_
    refine x_call0 (v := .bool false) rfl rfl rfl Tryz.call181 rfl (fun w hw => Calls.boolF hx (slContains_spec vo acc o.a w (own_rds (hw.mem (i := 1) rfl)) (by omega))) ?_
    refine w_want rfl rfl ?_
    refine w_val (v_is (v' := .bool true) (v_not rfl) (by rfl)) rfl ?_
    refine w_val (v_pickT rfl rfl) rfl <| w_nil <| e_condT rfl <| e_region <| wm rfl rfl <| w_val (v_fieldAddrB (o := 1) uT109 rfl rfl Tryz.nz3 rfl) rfl <| w_val (v_loadB 0 rfl uT3 rfl rfl rfl) rfl <| w_op rfl ?_
    refine x_buildSlice _ ([Value.int .i64 o.a]) rfl (run_buildSlice uT70 Tryz.hi3 Tryz.cz3 Tryz.zeroValue3 rfl (by kernel_rfl)) rfl (fun b25 => ?_)
    refine w_op rfl ?_
    refine x_appendI (z := .int .i64 0) (n := acc.length) (xs := intsC acc) (size := 1) (bytes := 8) (k := 1) (news := intsC [o.a]) 2 rfl rfl rfl uT70 (by kernel_rfl) rfl (by decide) (fun w hw => blk_rds (hw.hold _ (List.mem_cons_self ..)) rfl) (one_intsC _) (by omega) (by simp only [maxLen]; omega) rfl (fun vo' => ?_)
    refine wa rfl rfl <| w_nil <| e_blk <| e_region ?_
    refine w_val (v_add rfl rfl (by omega)) rfl ?_
    refine wm rfl rfl <| w_nil ?_
    refine e_round ((k + 1, vo', acc ++ [o.a])) (⟨by dsimp only; omega, hnd2, by dsimp only; rw [hpost]; exact hm, by simp; omega⟩) (by dsimp only; omega) (by repeat first | exact .nil _ | refine .cons rfl ?_) (fun _ hw => ?_)
    dsimp only
    simp only [List.set_cons_zero, List.set_cons_succ, List.append_eq, List.nil_append] at hw
    rw [intsC_app, List.length_append]
    exact hw.sub (.cons _ (.cons _ (List.Sublist.refl _)))
  ·rw [if_neg h7] at hnext
   refine e_region <| w_val (v_fieldAddrB (o := 0) uT109 rfl rfl Tryz.nz3 rfl) rfl <| w_val (v_loadB 0 rfl uT3 rfl rfl rfl) rfl ?_
   refine w_val (v_is (v' := .bool false) (v_eql rfl rfl) (by rw [decide_eq_false h7])) rfl ?_
   refine wm rfl rfl <| w_skip rfl rfl rfl rfl <| w_skip rfl rfl rfl rfl <| w_skip rfl rfl rfl rfl <| w_skip rfl rfl rfl rfl <| w_skip rfl rfl rfl rfl <| w_val (v_pickF rfl rfl) rfl <| w_nil <| e_condF rfl <| e_skip <| e_blk <| e_region ?_
   refine w_val (v_add rfl rfl (by omega)) rfl ?_
   refine wm rfl rfl <| w_nil ?_
   exact e_round ((k + 1, vo, acc)) (⟨by dsimp only; omega, hnd, by dsimp only; rw [hpost, hnext]; exact hmem, by dsimp only; omega⟩) (by dsimp only; omega) (by repeat first | exact .nil _ | refine .cons rfl ?_) (fun _ hw => hw.sub (List.sublist_cons_self _ _))
 ·obtain rfl : k = d.length := by omega
  rw [List.take_length] at hmem
  have hsrt := keysL_sorted hnd hmem
  have hkl := keysL_len hnd hmem
  have hS := fun (w : World) (hh : (Own vo 3 1 acc.length (intsC acc)).holds w) => (slSort_spec hh (by omega)).mono (R' := fun e w' => ∃ _ : Unit, True ∧ e = .returned (.tuple #[]) ∧ Res w [Own vo 3 1 acc.length (intsC acc)] [Own vo 3 1 acc.length (intsC (keysL d))] w') (fun e w' ⟨h1, h2⟩ => ⟨(), trivial, h1, hsrt ▸ h2⟩)
  refine e_exit rfl <| esr <| wm rfl rfl <| w_op rfl ?_
  refine x_call (dst := some 29) (mc := [Own vo 3 1 acc.length (intsC acc)]) (mr := []) (σ := Unit) (fun _ => True) (fun _ => .tuple #[]) (fun _ => [Own vo 3 1 acc.length (intsC (keysL d))]) rfl rfl rfl Tryz.call182 (fun w hw => hS w (hw.mem (i := 0) rfl)) rfl (fun _ _ => ?_)
  refine wsr <| wm rfl rfl <| wa rfl rfl <| w_nil ?_
  refine e_retQ (q_ret1 rfl (.tmp rfl) ?_)
  refine fun w' hw' => ⟨vo, trivial, rfl, ?_⟩
  rw [hkl]
  exact hw'.res
end Go.SL
end
section
open Go Go.Proofs Go.SL
set_option maxRecDepth 100000
namespace Go.SL
end Go.SL
end
section
open Go Go.Proofs Go.SL
set_option maxRecDepth 100000
namespace Go.SL
end Go.SL
end
