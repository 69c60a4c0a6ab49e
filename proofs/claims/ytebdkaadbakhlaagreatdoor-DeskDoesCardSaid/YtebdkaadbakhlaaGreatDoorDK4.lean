/- YtebdkaadbakhlaaGreatDoor: part DK4 of this seat's own texts. -/
import Derived.Test.YtebdkaadbakhlaaGreatDoorDK3
set_option linter.unusedVariables false
set_option linter.unusedSimpArgs false
section
open Go Go.Proofs Go.SL Go.RowKit
set_option maxRecDepth 100000
set_option maxHeartbeats 4000000
namespace Go.SL
theorem slV_tail {b n K : Nat} (hn : n + 1 ≤ K) : ∃ o : Nat, (0 < n → o = 1) ∧ slV (some ⟨b, 0, none⟩) 1 (n + 1) K 1 = .slice (some ⟨b, o, none⟩) n (K - 1) := by
 by_cases hk : K = 1
 ·subst hk
  exact ⟨0, fun h => by omega, by simp [slV]⟩
 ·exact ⟨1, fun _ => rfl, by simp [slV, hk, add_mk]⟩
theorem numsL_none : ∀ {l : List (List UInt8)} {i : Nat} (hi : i < l.length), longL l[i] = none → numsL l = none := fun {l} {i} hi h => numsL_bad l hi h
theorem dkLine_spec (p : Nat) (x : DkS) (d : DkL) (told s : List UInt8) (N : Nat) (w : World) (hA : AdOk p x.A) (h : ∀ c ∈ dkH p x d told, c.holds w) (hsep : (dkH p x d told).Pairwise Disj) (hd : d.Ok N) (hN : N ≤ 1000) (hL : LF w (feet (dkH p x d told))) (ht : told.length ≤ 70000000) (hs : s.length ≤ 9000) :
  Calls Tryz.prog 13 #[.pointer (some ⟨p, 0, none⟩), strV s] w fun e w' => ∃ x' : DkS, x'.Ok p x.y.p ∧ e = .returned (.tuple #[]) ∧ Res w (dkH p x d told) (dkH p x' (lineL d s).1 (told ++ (lineL d s).2)) w' := by
 have hdl := hd.len
 have hcut := fun (w1 : World) => cut_spec s w1
 have htc := fun hh => trim_cut (s := s) hh
 unfold lineL
 refine enter (mc := dkH p x d told) (N := 65) Tryz.func13 rfl rfl rfl ?_ ?_ ?_
 ·exact h
 ·exact hsep
 by_cases hp : Lib.hasPrefix s [100, 101, 101, 100, 32] = true
 ·rw [if_pos hp]
  rw [hp, htc hp] at hcut
  have hsl : (s.drop 5).length ≤ 10000 := by rw [List.length_drop]; omega
  generalize s.drop 5 = t at *
  refine e_seq <| esr <| wm rfl rfl <| w_op rfl ?_
  refine x_call0 (v := .tuple #[strV t, .bool true]) rfl rfl rfl Tryz.call19 rfl (fun w hw => hcut w) ?_
  refine wm rfl rfl <| w_val (v_extract rfl rfl) rfl <| w_val (v_extract rfl rfl) rfl <| wa rfl rfl <| wa rfl rfl <| wsr <| wm rfl rfl <| w_nil <| e_condT rfl <| esr <| wm rfl rfl <| wm rfl rfl <| w_op rfl ?_
  refine x_call (dst := some 20) (mc := dkT p x.A x.bv (ptrV x.y.p) x.rv told ++ rH x.rv x.vs x.G d.r) (mr := stH x.y d.q) (σ := (Option Addr × Value) × Value × List Value × (Nat → Prop)) (fun z => AdOk p z.1.1) (fun _ => .tuple #[]) (fun z => dkT p z.1.1 z.1.2 (ptrV x.y.p) z.2.1 (told ++ (deedL d t).2) ++ rH z.2.1 z.2.2.1 z.2.2.2 (deedL d t).1.r) rfl rfl rfl Tryz.call20 (fun w hw => dkDeed_spec p x.A x.bv (ptrV x.y.p) x.rv x.vs x.G told t d w hA (res_part hw).1 (res_part hw).2 (hL.part hw) (by omega) hsl (by omega)) rfl (fun z hz => ?_)
  refine w_nil ?_
  refine e_retQ (q_ret0 rfl ?_)
  refine fun w' hw' => ⟨⟨z.1.1, z.1.2, z.2.1, z.2.2.1, z.2.2.2, x.y⟩, ⟨hz, rfl⟩, rfl, ?_⟩
  have e : (deedL d t).1.q = d.q := by unfold deedL; split <;> rfl
  show Res _ _ ((dkT p z.1.1 z.1.2 (ptrV x.y.p) z.2.1 (told ++ (deedL d t).2) ++ rH z.2.1 z.2.2.1 z.2.2.2 (deedL d t).1.r) ++ stH x.y (deedL d t).1.q) _
  rw [e]
  exact hw'.res
 ·have hp' : Lib.hasPrefix s [100, 101, 101, 100, 32] = false := by simpa using hp
  rw [if_neg hp]
  rw [hp'] at hcut
  have hsc := splitL_count 32 s
  have hdw := del_words s
  have hfl := List.length_filter_le (fun x : List UInt8 => !(x == [])) (splitL 32 s)
  have hdel := fun (b : Nat) (w1 : World) (h1 : (Chunk.blk b 9 (strC (splitL 32 s))).holds w1) => del_spec b (splitL 32 s) w1 h1 (by omega)
  have hwl := wordsW_len s []
  rw [hdw] at hdel hfl
  have hwl2 : ∀ y ∈ wordsL s, y.length ≤ 9000 := fun y hy => by have := hwl y hy; simp at this; omega
  have hsp := fun (w1 : World) hL1 => splitB_spec s w1 (by omega) hL1
  generalize splitL 32 s = ps at *
  generalize wordsL s = W at *
  generalize hK : ps.length = K at *
  refine e_seq <| esr <| wm rfl rfl <| w_op rfl ?_
  refine x_call0 (v := .tuple #[strV (Lib.trimPrefix s [100, 101, 101, 100, 32]), .bool false]) rfl rfl rfl Tryz.call19 rfl (fun w hw => hcut w) ?_
  refine wm rfl rfl <| w_val (v_extract rfl rfl) rfl <| w_val (v_extract rfl rfl) rfl <| wa rfl rfl <| wa rfl rfl <| wsr <| wm rfl rfl <| w_nil <| e_condF rfl <| e_skip <| esr <| wm rfl rfl <| w_op rfl ?_
  refine x_call (dst := some 22) (mc := []) (σ := Nat) (fun _ => True) (fun b => .slice (some ⟨b, 0, none⟩) K K) (fun b => [.blk b 9 (strC ps)]) rfl rfl rfl Tryz.call22 (fun w hw => hsp w (hL.lai hw)) rfl (fun b22 _ => ?_)
  refine w_op rfl ?_
  refine x_call (dst := some 23) (mc := [.blk b22 9 (strC ps)]) (mr := dkH p x d told) (σ := Unit) (fun _ => True) (fun _ => .slice (some ⟨b22, 0, none⟩) W.length K) (fun _ => [.blk b22 9 (strC (W ++ List.replicate (K - W.length) []))]) rfl rfl rfl Tryz.call21 (fun w hw => hdel b22 w (hw.mem (i := 0) rfl)) rfl (fun _ _ => ?_)
  refine wa rfl rfl <| w_nil <| e_seq <| esr <| wm rfl rfl <| w_val (v_lenS uT22 rfl) rfl <| w_val (v_eql rfl rfl) rfl <| w_nil ?_
  cases W with
  | nil =>
   refine e_condT rfl ?_
   refine e_retQ (q_ret0 rfl ?_)
   refine fun w' hw' => ⟨x, ⟨hA, rfl⟩, rfl, ?_⟩
   have := (hw'.sub (List.sublist_cons_self _ _)).res
   show Res _ _ (dkH p x d (told ++ [])) _
   rw [List.append_nil]
   exact this
  | cons wd ws =>
   obtain ⟨o, ho, hsv⟩ := slV_tail (b := b22) (n := ws.length) (K := K) (by simpa using hfl)
   have hfl' : ws.length + 1 ≤ K := by simpa using hfl
   have hws : ws.length ≤ 9001 := by omega
   have hpos : 1 ≤ K := by omega
   have hna := fun (i : Nat) (hi : i < ws.length) => @numsL_app (ws.take i)
   refine e_condF rfl <| e_skip <| esr <| wa rfl rfl <| w_nil <| e_seq <| esr <| wm rfl rfl ?_
   refine w_val (v_is (v' := .slice (some ⟨b22, o, none⟩) ws.length (K - 1)) (v_sliceL uT22 Tryz.hi9 Tryz.cz9 rfl rfl (by simp only [List.length_cons]; omega)) hsv) rfl ?_
   refine w_val (v_lenS uT22 rfl) rfl <| wm rfl rfl <| w_nil <| e_block ?_
   refine e_loopH (σ := Nat × Value × List Int) [0, 6, 28, 29] (.cons rfl (.cons rfl (.cons rfl (.cons rfl .nil)))) (fun z => [(30, .int .i64 (z.1 : Int)), (7, z.2.1)]) (fun z => Own z.2.1 3 1 z.2.2.length (intsC z.2.2) :: .blk b22 9 (strC (wd :: ws ++ List.replicate (K - (wd :: ws).length) [])) :: dkH p x d told) (fun z => z.1 ≤ ws.length ∧ z.2.2.length = z.1 ∧ numsL (ws.take z.1) = some z.2.2) (fun z => ws.length - z.1) (0, .slice none 0 0, []) ⟨Nat.zero_le _, rfl, rfl⟩ (by repeat first | exact .nil _ | refine .cons rfl ?_) (fun _ hw => hw.ownNil 3 1) ?_
   rintro ⟨i, nv, ns⟩ ⟨hi, hnl, hns⟩
   dsimp only at hi hnl hns ⊢
   refine esr <| w_val (v_lss rfl rfl) rfl <| w_nil <| e_seq ?_
   refine e_condD rfl (fun hlt => ?_) (fun hlt => ?_)
   ·have hi' : i < ws.length := by omega
    have ho1 := ho (by omega)
    subst ho1
    have hcell : (strC (wd :: ws ++ List.replicate (K - (wd :: ws).length) []))[1 + ((i : Int)).toNat * 1]? = some (strV ws[i]) := by
     rw [Int.toNat_natCast, Nat.mul_one, Nat.add_comm, strC_app]
     exact (List.getElem?_append_left (by simp [strC]; omega)).trans (strC_at (by simp [hi']))
    have hyl := hwl2 ws[i] (by simp)
    have hnapp := fun v => numsL_app (ws.take i) hns (x := ws[i]) (v := v)
    rw [← List.take_succ_eq_append_getElem hi'] at hnapp
    have hbad := numsL_none hi'
    generalize ws[i] = y at *
    refine e_skip <| e_seq <| e_block <| esr ?_
    refine w_val (v_indexSB uT22 Tryz.hi9 Tryz.cz9 rfl rfl (by first | omega | decide)) rfl ?_
    refine w_val (v_loadB 1 rfl uT9 rfl rfl hcell) rfl <| wa rfl rfl <| wsr <| wm rfl rfl <| w_op rfl ?_
    refine x_call (dst := some 36) (mc := []) (σ := Int × Value) (fun z => (∃ v, Lib.parseIntB 64 y = .ok v ∧ z = (v, .nilIface)) ∨ ((∀ v, Lib.parseIntB 64 y ≠ .ok v) ∧ ∃ tp p, z.2 = .iface tp p)) (fun z => .tuple #[.int .i64 z.1, z.2]) (fun _ => []) rfl rfl rfl Tryz.call24 (fun w hw => atoi_spec y w (by omega) (hL.lai hw)) rfl (fun z hz => ?_)
    obtain ⟨k, ev⟩ := z
    dsimp only at hz ⊢
    refine wm rfl rfl <| w_val (v_extract rfl rfl) rfl <| w_val (v_extract rfl rfl) rfl <| wa rfl rfl <| wa rfl rfl <| w_nil <| e_seq <| e_seq ?_
    rcases hz with ⟨v, hv, hz⟩ | ⟨hno, tp, pe, hz⟩
    ·injection hz with e1 e2
     subst e1; subst e2
     have hll := longL_ok hv
     have hk64 := parse_in hv
     by_cases he : Lib.itoa k = y
     ·rw [if_pos he] at hll
      refine e_region <| wm rfl rfl <| w_val (v_neqNilI uT72 rfl) rfl <| wm rfl rfl <| w_want rfl rfl <| wm rfl rfl <| w_want rfl rfl <| w_op rfl ?_
      refine x_call0 (v := strV (Lib.itoa k)) rfl rfl rfl Tryz.call25 rfl (fun w hw => dkNum_spec k w hk64 (hL.lai hw)) ?_
      refine w_want rfl rfl <| wm rfl rfl <| w_want rfl rfl ?_
      refine w_val (v_is (v' := .bool false) (v_strNeq rfl rfl) (by rw [decide_eq_false (fun hn => hn he)])) rfl ?_
      refine w_val (v_pickF rfl rfl) rfl <| w_nil <| e_condF rfl <| e_skip <| e_region <| wm rfl rfl <| wm rfl rfl <| w_op rfl ?_
      refine x_buildSlice _ (intsC [k]) rfl (run_buildSlice uT70 Tryz.hi3 Tryz.cz3 Tryz.zeroValue3 rfl (by kernel_rfl)) rfl (fun b52 => ?_)
      refine w_op rfl ?_
      refine x_appendIS (z := .int .i64 0) (n := ns.length) (xs := intsC ns) (size := 1) (bytes := 8) (k := 1) (news := intsC [k]) 1 rfl rfl rfl uT70 (by kernel_rfl) rfl (by decide) (fun w hw => blk_rds (hw.hold _ (List.mem_cons_self ..)) rfl) (by intro u hu; simp only [intsC, List.map_cons, List.map_nil, List.mem_singleton] at hu; subst hu; rfl) (by omega) (by simp only [maxLen]; omega) rfl (fun A4 cap4 _ => ?_)
      refine wa rfl rfl <| w_nil <| e_blk <| e_region ?_
      refine w_val (v_add rfl rfl (by omega)) rfl ?_
      refine wm rfl rfl <| w_nil ?_
      exact e_round ((i + 1, .slice A4 (ns.length + 1) cap4, ns ++ [k])) (⟨by dsimp only; omega, by dsimp only; rw [List.length_append, hnl]; rfl, hnapp k hll⟩) (by dsimp only; omega) (by repeat first | exact .nil _ | refine .cons rfl ?_) (fun _ hw => by dsimp only; rw [List.length_append, List.length_singleton, intsC_app]; exact hw.pick [1, 2, 3, 4, 5, 6, 7, 8, 9, 10, 11] (by decide))
     ·rw [if_neg he] at hll
      rw [wordsD_none (hbad hll)]
      refine e_region <| wm rfl rfl <| w_val (v_neqNilI uT72 rfl) rfl <| wm rfl rfl <| w_want rfl rfl <| wm rfl rfl <| w_want rfl rfl <| w_op rfl ?_
      refine x_call0 (v := strV (Lib.itoa k)) rfl rfl rfl Tryz.call25 rfl (fun w hw => dkNum_spec k w hk64 (hL.lai hw)) ?_
      refine w_want rfl rfl <| wm rfl rfl <| w_want rfl rfl ?_
      refine w_val (v_is (v' := .bool true) (v_strNeq rfl rfl) (by rw [decide_eq_true he])) rfl ?_
      refine w_val (v_pickF rfl rfl) rfl <| w_nil <| e_condT rfl <| esr <| wm rfl rfl <| w_op rfl ?_
      refine x_buildSlice _ (strC [[119, 104, 97, 116]]) rfl (run_buildSlice uT22 Tryz.hi9 Tryz.cz9 Tryz.zeroValue9 rfl (by kernel_rfl)) rfl (fun b48 => ?_)
      refine w_op rfl ?_
      refine g_heap (m' := (dkT p x.A x.bv (ptrV x.y.p) x.rv (told) ++ [Chunk.blk b48 9 (strC [[119, 104, 97, 116]])]) ++ ([Own nv 3 1 ns.length (intsC ns), Chunk.blk b22 9 (strC (wd :: ws ++ List.replicate (K - (wd :: ws).length) []))] ++ (rH x.rv x.vs x.G d.r ++ stH x.y d.q))) (fun _ hw => hw.pick [3, 4, 0, 1, 2, 5, 6, 7, 8, 9, 10, 11] (by decide)) ?_; refine x_call (dst := some 49) (mc := dkT p x.A x.bv (ptrV x.y.p) x.rv (told) ++ [Chunk.blk b48 9 (strC [[119, 104, 97, 116]])]) (mr := ([Own nv 3 1 ns.length (intsC ns), Chunk.blk b22 9 (strC (wd :: ws ++ List.replicate (K - (wd :: ws).length) []))] ++ (rH x.rv x.vs x.G d.r ++ stH x.y d.q))) (σ := Value) (fun _ => True) (fun _ => .tuple #[]) (fun b' => dkT p (some ⟨p, 0, none⟩) b' (ptrV x.y.p) x.rv ((told) ++ (Lib.join [[119, 104, 97, 116]] [32] ++ [10]))) rfl rfl rfl Tryz.call26 (fun w hw => say_spec p x.A x.bv (ptrV x.y.p) x.rv (told) b48 [[119, 104, 97, 116]] w hA (res_part hw).1 (res_part hw).2 (by simp) (by rw [join1]; simp only [lnA]; omega)) rfl (fun b' _ => ?_)
      refine w_nil ?_
      refine e_retQ (q_ret0 rfl ?_)
      refine fun w' hw' => ⟨⟨some ⟨p, 0, none⟩, b', x.rv, x.vs, x.G, x.y⟩, ⟨.inr rfl, rfl⟩, rfl, ?_⟩
      have := (hw'.pick [0, 1, 4, 5, 6, 7, 8, 9, 10] (by decide)).res
      rw [join1] at this
      exact this
    ·have hll := longL_no hno
     subst hz
     rw [wordsD_none (hbad hll)]
     refine e_region <| wm rfl rfl <| w_val (v_neqSomeI uT72 rfl) rfl <| wm rfl rfl <| w_skip rfl rfl rfl rfl <| w_skip rfl rfl rfl rfl <| w_skip rfl rfl rfl rfl <| w_skip rfl rfl rfl rfl <| w_val (v_pickT rfl rfl) rfl <| w_nil <| e_condT rfl <| esr <| wm rfl rfl <| w_op rfl ?_
     refine x_buildSlice _ (strC [[119, 104, 97, 116]]) rfl (run_buildSlice uT22 Tryz.hi9 Tryz.cz9 Tryz.zeroValue9 rfl (by kernel_rfl)) rfl (fun b48 => ?_)
     refine w_op rfl ?_
     refine g_heap (m' := (dkT p x.A x.bv (ptrV x.y.p) x.rv (told) ++ [Chunk.blk b48 9 (strC [[119, 104, 97, 116]])]) ++ ([Own nv 3 1 ns.length (intsC ns), Chunk.blk b22 9 (strC (wd :: ws ++ List.replicate (K - (wd :: ws).length) []))] ++ (rH x.rv x.vs x.G d.r ++ stH x.y d.q))) (fun _ hw => hw.pick [3, 4, 0, 1, 2, 5, 6, 7, 8, 9, 10, 11] (by decide)) ?_; refine x_call (dst := some 49) (mc := dkT p x.A x.bv (ptrV x.y.p) x.rv (told) ++ [Chunk.blk b48 9 (strC [[119, 104, 97, 116]])]) (mr := ([Own nv 3 1 ns.length (intsC ns), Chunk.blk b22 9 (strC (wd :: ws ++ List.replicate (K - (wd :: ws).length) []))] ++ (rH x.rv x.vs x.G d.r ++ stH x.y d.q))) (σ := Value) (fun _ => True) (fun _ => .tuple #[]) (fun b' => dkT p (some ⟨p, 0, none⟩) b' (ptrV x.y.p) x.rv ((told) ++ (Lib.join [[119, 104, 97, 116]] [32] ++ [10]))) rfl rfl rfl Tryz.call26 (fun w hw => say_spec p x.A x.bv (ptrV x.y.p) x.rv (told) b48 [[119, 104, 97, 116]] w hA (res_part hw).1 (res_part hw).2 (by simp) (by rw [join1]; simp only [lnA]; omega)) rfl (fun b' _ => ?_)
     refine w_nil ?_
     refine e_retQ (q_ret0 rfl ?_)
     refine fun w' hw' => ⟨⟨some ⟨p, 0, none⟩, b', x.rv, x.vs, x.G, x.y⟩, ⟨.inr rfl, rfl⟩, rfl, ?_⟩
     have := (hw'.pick [0, 1, 4, 5, 6, 7, 8, 9, 10] (by decide)).res
     rw [join1] at this
     exact this
   ·have e : i = ws.length := by omega
    subst e
    rw [List.take_length] at hns
    rw [wordsD_some hns]
    have hask := fun (w1 : World) (v : Value) h1 h2 (h3 : IsInts (SL.off w1 (feet (dkH p x d told))) v ns) h4 => dkAsk_spec p x d told wd v ns N w1 hA h1 h2 h3 hd h4 (by omega)
    refine g_shape 0 rfl (fun An kn hnv _ => ?_)
    subst hnv
    refine e_exit rfl <| esr <| wm rfl rfl <| wm rfl rfl ?_
    refine w_val (v_indexSB uT22 Tryz.hi9 Tryz.cz9 rfl rfl (by simp only [List.length_cons]; omega)) rfl ?_
    refine w_val (v_loadB 1 rfl uT9 rfl rfl (show _ = some (strV wd) from rfl)) rfl <| wm rfl rfl <| w_op rfl ?_
    refine g_heap (m' := dkH p x d told ++ [Own (.slice An ns.length kn) 3 1 ns.length (intsC ns), Chunk.blk b22 9 (strC (wd :: ws ++ List.replicate (K - (wd :: ws).length) []))]) (fun _ hw => hw.pick [2, 3, 4, 5, 6, 7, 8, 9, 10, 0, 1] (by decide)) ?_; refine x_call (dst := some 60) (mc := dkH p x d told) (mr := [Own (.slice An ns.length kn) 3 1 ns.length (intsC ns), .blk b22 9 (strC (wd :: ws ++ List.replicate (K - (wd :: ws).length) []))]) (σ := DkS) (fun x' => x'.Ok p x.y.p) (fun _ => .bool (askL d wd ns).isSome) (fun x' => dkH p x' ((askL d wd ns).getD (d, [])).1 (told ++ ((askL d wd ns).getD (d, [])).2)) rfl rfl rfl Tryz.call27 (fun w hw => hask w _ (res_part hw).1 (res_part hw).2 (Rds.mono hw.apart (own_rds (hw.partR (Own (.slice An ns.length kn) 3 1 ns.length (intsC ns)) (by simp)))) (hL.part hw)) rfl (fun x' hx' => ?_)
    refine w_val (v_not rfl) rfl <| w_nil ?_
    cases hak : askL d wd ns with
    | none =>
     dsimp only [Option.getD_none, Option.isSome_none]
     rw [List.append_nil]
     refine e_condT rfl <| e_region <| wm rfl rfl <| w_op rfl ?_
     refine x_buildSlice _ (strC [[119, 104, 97, 116]]) rfl (run_buildSlice uT22 Tryz.hi9 Tryz.cz9 Tryz.zeroValue9 rfl (by kernel_rfl)) rfl (fun b63 => ?_)
     refine w_op rfl ?_
     refine g_heap (m' := (dkT p x'.A x'.bv (ptrV x'.y.p) x'.rv (told) ++ [Chunk.blk b63 9 (strC [[119, 104, 97, 116]])]) ++ ((rH x'.rv x'.vs x'.G d.r ++ stH x'.y d.q) ++ [Own (.slice An ns.length kn) 3 1 ns.length (intsC ns), Chunk.blk b22 9 (strC (wd :: ws ++ List.replicate (K - (wd :: ws).length) []))])) (fun _ hw => hw.pick [1, 2, 0, 3, 4, 5, 6, 7, 8, 9, 10, 11] (by decide)) ?_; refine x_call (dst := some 64) (mc := dkT p x'.A x'.bv (ptrV x'.y.p) x'.rv (told) ++ [Chunk.blk b63 9 (strC [[119, 104, 97, 116]])]) (mr := ((rH x'.rv x'.vs x'.G d.r ++ stH x'.y d.q) ++ [Own (.slice An ns.length kn) 3 1 ns.length (intsC ns), Chunk.blk b22 9 (strC (wd :: ws ++ List.replicate (K - (wd :: ws).length) []))])) (σ := Value) (fun _ => True) (fun _ => .tuple #[]) (fun b' => dkT p (some ⟨p, 0, none⟩) b' (ptrV x'.y.p) x'.rv ((told) ++ (Lib.join [[119, 104, 97, 116]] [32] ++ [10]))) rfl rfl rfl Tryz.call26 (fun w hw => say_spec p x'.A x'.bv (ptrV x'.y.p) x'.rv (told) b63 [[119, 104, 97, 116]] w hx'.1 (res_part hw).1 (res_part hw).2 (by simp) (by rw [join1]; simp only [lnA]; omega)) rfl (fun b' _ => ?_)
     refine w_nil ?_
     refine e_endQ (q_ret0 rfl ?_)
     refine fun w' hw' => ⟨⟨some ⟨p, 0, none⟩, b', x'.rv, x'.vs, x'.G, x'.y⟩, ⟨.inr rfl, hx'.2⟩, rfl, ?_⟩
     have := (hw'.pick [0, 1, 2, 3, 4, 5, 6, 7, 8] (by decide)).res
     rw [join1] at this
     exact this
    | some z =>
     dsimp only [Option.getD_some, Option.isSome_some]
     refine e_condF rfl <| e_skip ?_
     refine e_endQ (q_ret0 rfl ?_)
     exact fun w' hw' => ⟨x', hx', rfl, (hw'.pick [0, 1, 2, 3, 4, 5, 6, 7, 8] (by decide)).res⟩
end Go.SL
end
section
open Go Go.Proofs Go.SL Go.RowKit
set_option maxRecDepth 100000
set_option maxHeartbeats 4000000
namespace Go.SL
abbrev dkI (p : Nat) (x : DkS) (d : DkL) : Hp := dkB p x.A x.bv (ptrV x.y.p) x.rv :: (rH x.rv x.vs x.G d.r ++ stH x.y d.q)
def dk0 : DkL := ⟨⟨[], 0, 0⟩, []⟩
def doLs (d : DkL) (l : List (List UInt8)) : DkL × List UInt8 × (Int × Int) := if (faultLs l).1 ≠ 0 then (d, [], faultLs l) else ((linesL d l).1, (linesL d l).2, (0, 0))
theorem dk0_ok : dk0.Ok 0 := ⟨q0_ok, (fun x hx => by cases hx), Nat.le_refl _⟩
theorem doLs_ok {d : DkL} {N : Nat} (h : d.Ok N) (l : List (List UInt8)) : (doLs d l).1.Ok (N + l.length) := by
 unfold doLs
 split
 ·exact h.mono (Nat.le_add_right _ _)
 ·exact lines_ok l h
theorem nlAt_at {l : List (List UInt8)} {i : Nat} (hi : i < l.length) : nlAt i (l.drop i) = if 10 ∈ l[i] then (11, (i : Int)) else nlAt (i + 1) (l.drop (i + 1)) := by
 rw [List.drop_eq_getElem_cons hi]; rfl
theorem ask_len {d : DkL} {N : Nat} (h : d.Ok N) (w : List UInt8) (n : List Int) : ((askL d w n).getD (d, tellWhat)).2.length ≤ 20000 := by
 have hq := h.q
 have hzi := stL_in hq.inn
 have h25 := hq.log.len
 have hkl := hq.log.sure
 have hdk := hq.dn
 have hcode : ∀ x, (tellCode (doQ d.q x).2).length ≤ 30 := fun x => tellCode_len (code_in x)
 have hst : (tellState (stL d.q.L d.q.dn)).length ≤ 240 := tellState_len (stL_len _ _) (hzi _)
 have hla : ((lastL d.q.L d.q.dn).flatMap tellRes ++ tellEnd).length ≤ 20000 := by
  have h8 := hq.last8 hq.len
  have := flat_len (f := tellRes) (m := 120) (l := lastL d.q.L d.q.dn) (fun x hx => tellRes_len (lastL_regs _ _ x hx) (lastL_in hq.inn _ x hx).1 (lastL_in hq.inn _ x hx).2)
  rw [List.length_append]
  have e : tellEnd.length = 4 := rfl
  omega
 have hth : ∀ m, (tellThen d.q.L m).length ≤ 20000 := fun m => by
  unfold tellThen
  split
  ·have := tellState_len (thenL_len d.q.L m) (thenL_in hq.inn m); omega
  ·have := tellCode_len (c := 7) (by simp [In64]); omega
 have hro : ∀ m, (tellRound d.q.L m).length ≤ 20000 := fun m => by
  unfold tellRound
  split
  ·have := tellCode_len (c := 7) (by simp [In64]); omega
  ·rename_i hm
   have hi : m.toNat < d.q.L.length := by omega
   have h8 := (roundFault_ok (hq.fault hi)).1
   have := flat_len (f := tellDeed) (m := 1440) (l := d.q.L.getD m.toNat []) (fun x hx => tellDeed_len (getD_inL hq.inn _ x hx))
   rw [List.length_append]
   have e : tellEnd.length = 4 := rfl
   omega
 have hma : (tellMany d.q).length ≤ 100 := by
  have j0 := itoa_len (n := (d.q.L.length : Int)) (by unfold In64; omega)
  have j1 := itoa_len (n := (d.q.k : Int)) (by unfold In64; omega)
  have j2 := itoa_len (n := (d.q.dn : Int)) (by unfold In64; omega)
  unfold tellMany
  simp only [lnA]
  omega
 unfold askL
 have e : tellWhat.length = 5 := rfl
 repeat (first | (rw [Option.getD_some]; have := hcode ⟨1, 0, d.r, []⟩; have := hcode ⟨2, 0, [], []⟩; have := hcode ⟨3, 0, [], n⟩; have := hcode ⟨4, n.headD 0, [], []⟩; have := hth (n.headD 0); have := hro (n.headD 0); dsimp only; omega) | (rw [Option.getD_none]; dsimp only; omega) | split)
theorem line_len {d : DkL} {N : Nat} (h : d.Ok N) {s : List UInt8} (hs : s.length ≤ 100000) : (lineL d s).2.length ≤ 20000 := by
 unfold lineL
 split
 ·obtain ⟨h1, h2⟩ := parse_flt (s := s.drop 5) (by rw [List.length_drop]; omega)
  unfold deedL
  split
  ·have := tellNo_len h1 h2; dsimp only; omega
  ·simp
 ·cases wordsL s with
  | nil => simp [wordsD]
  | cons w ws =>
   cases hn : numsL ws with
   | none => rw [wordsD_none hn]; have e : tellWhat.length = 5 := rfl; dsimp only; omega
   | some n => rw [wordsD_some hn]; exact ask_len h w n
theorem lines_len : ∀ (l : List (List UInt8)) {d : DkL} {N : Nat}, d.Ok N → (∀ s ∈ l, s.length ≤ 100000) → (linesL d l).2.length ≤ 20000 * l.length
 | [], _, _, _, _ => by simp [linesL]
 | s :: r, d, N, h, hs => by
  have h1 := line_len h (hs s List.mem_cons_self)
  have h2 := lines_len r (line_ok h s) (fun x hx => hs x (List.mem_cons_of_mem _ hx))
  simp only [linesL, List.length_append, List.length_cons]
  omega
theorem dkNew_spec (w : World) : Calls Tryz.prog 6 #[] w fun e w' => ∃ z : Nat × DkS, True ∧ e = .returned (.pointer (some ⟨z.1, 0, none⟩)) ∧ Res w [] (dkI z.1 z.2 dk0) w' := by
 refine enter0 (N := 4) Tryz.func6 rfl rfl rfl <| esr <| wa rfl rfl <| wsr <| w_op rfl ?_
 refine x_call (dst := some 1) (mc := []) (σ := StP) (fun _ => True) (fun y => .pointer (some ⟨y.p, 0, none⟩)) (fun y => stH y ⟨[], 0, 0⟩) rfl rfl rfl Tryz.call10 (fun w _ => stNew_spec w) rfl (fun y _ => ?_)
 refine w_val (v_build (v := .agg #[.pointer none, .slice none 0 0, ptrV y.p, .slice none 0 0]) _ rfl (by intro _; simp [Instr.build, Instr.fill, Tryz.zeroValue55, ptrV, go_sem])) rfl ?_
 refine w_op rfl ?_
 refine x_box rfl rfl (fun b3 => ?_)
 refine wa rfl rfl <| w_nil ?_
 refine e_retQ (q_ret1 rfl (.tmp rfl) ?_)
 exact fun w' hw' => ⟨(b3, ⟨none, .slice none 0 0, .slice none 0 0, [], feet [], y⟩), trivial, rfl, (((hw'.keep0 (Deeds [] []) Deeds.nil).rowNil 80 1).pick [2, 0, 1, 3, 4, 5, 6, 7] (by decide)).res⟩
theorem dkDo_spec (p : Nat) (x : DkS) (d : DkL) (v : Value) (l : List (List UInt8)) (N : Nat) (w : World) (h : ∀ c ∈ dkI p x d, c.holds w) (hsep : (dkI p x d).Pairwise Disj) (hv : IsStrs (SL.off w (feet (dkI p x d))) v l) (hd : d.Ok N) (hN : N ≤ 500) (hL : LF w (feet (dkI p x d))) (hl : l.length ≤ 300) (hs : ∀ s ∈ l, s.length ≤ 9000) :
  Calls Tryz.prog 7 #[.pointer (some ⟨p, 0, none⟩), v] w fun e w' => ∃ x' : DkS, x'.y.p = x.y.p ∧ e = .returned (.tuple #[strV (doLs d l).2.1, faultV (doLs d l).2.2]) ∧ Res w (dkI p x d) (dkI p x' (doLs d l).1) w' := by
 obtain ⟨Al, kl, rfl, hkl, _, hc⟩ := id hv
 refine enter (mc := dkI p x d) (N := 45) Tryz.func7 rfl rfl rfl ?_ ?_ ?_
 ·exact h
 ·exact hsep
 refine esr <| wa rfl rfl <| w_op rfl ?_
 refine x_alloc (z := .agg #[.int .i64 0, .int .i64 0]) (by intro w; exact Tryz.zeroValue42 w) rfl (fun b5 => ?_)
 refine w_nil <| e_seq <| esr <| wm rfl rfl <| w_val (v_lenS uT22 rfl) rfl <| w_val (v_gtr rfl rfl) rfl <| w_nil ?_
 by_cases h150 : 150 < l.length
 ·rw [show doLs d l = (d, [], (4, -1)) from by unfold doLs faultLs; rw [if_pos h150, if_pos (by decide)]]
  refine e_condDT rfl (by omega) ?_
  refine esr ?_
  refine w_val (v_build (v := faultV (4, -1)) _ rfl (by intro _; simp [Instr.build, Instr.fill, Tryz.zeroValue42, go_sem]; rfl)) rfl ?_
  refine wa rfl rfl <| w_op rfl ?_
  refine x_storeA (vs := #[.int .i64 4, .int .i64 (-1)]) 0 rfl rfl rfl Tryz.hi42 Tryz.cz42 rfl (by simp [Value.oneCell']) ?_
  refine w_nil ?_
  refine e_retQ (q_ret2 rfl (.tmp rfl) (ResV.agg 0 rfl rfl (by rw [isAggD, uT42]; rfl) (Tryz.cz42) Tryz.hi42) ?_)
  exact fun w' hw' => ⟨x, rfl, rfl, (hw'.sub (List.sublist_cons_self _ _)).res⟩
 ·refine e_condDF rfl (by omega) ?_
  refine e_skip <| e_seq <| esr <| wm rfl rfl <| w_val (v_lenS uT22 rfl) rfl <| wm rfl rfl <| w_nil <| e_block ?_
  refine e_loopK (σ := Nat) [0, 1, 4, 5, 14, 15] (.cons rfl (.cons rfl (.cons rfl (.cons rfl (.cons rfl (.cons rfl .nil)))))) (fun i => [(16, .int .i64 (i : Int))]) (fun i => i ≤ l.length ∧ nlAt i (l.drop i) = nlAt 0 l) (fun i => l.length - i) 0 ⟨Nat.zero_le _, rfl⟩ (by repeat first | exact .nil _ | refine .cons rfl ?_) ?_
  rintro i ⟨hi, hnl⟩
  refine esr <| w_val (v_lss rfl rfl) rfl <| w_nil <| e_seq ?_
  refine e_condD rfl (fun hlt => ?_) (fun hlt => ?_)
  ·have hi' : i < l.length := by omega
   rw [nlAt_at hi'] at hnl
   obtain ⟨ad, rfl, hcell⟩ := IsStrs.cell hv hi'
   generalize l[i] = s at *
   refine e_skip <| e_seq <| e_block <| esr <| wm rfl rfl ?_
   refine w_val (v_indexS uT22 Tryz.hi9 Tryz.cz9 rfl rfl (by first | omega | decide)) rfl ?_
   refine w_val (v_loadO uT9 rfl rfl (hcell)) rfl <| wa rfl rfl <| wa rfl rfl <| wsr <| wm rfl rfl <| w_op rfl ?_
   refine x_call0 (v := .bool (decide (10 ∈ s))) rfl rfl rfl Tryz.call11 rfl (fun w hw => contains_spec s w) ?_
   refine w_nil ?_
   refine e_condD rfl (fun hin => ?_) (fun hin => ?_)
   ·rw [if_pos hin] at hnl
    rw [show doLs d l = (d, [], (11, (i : Int))) from by unfold doLs faultLs; rw [if_neg h150, ← hnl, if_pos (by simp)]]
    refine esr <| wm rfl rfl ?_
    refine w_val (v_build (v := faultV (11, (i : Int))) _ rfl (by intro _; simp [Instr.build, Instr.fill, Tryz.zeroValue42, go_sem]; rfl)) rfl ?_
    refine wa rfl rfl <| w_op rfl ?_
    refine x_storeA (vs := #[.int .i64 11, .int .i64 (i : Int)]) 0 rfl rfl rfl Tryz.hi42 Tryz.cz42 rfl (by simp [Value.oneCell']) ?_
    refine w_nil ?_
    refine e_retQ (q_ret2 rfl (.tmp rfl) (ResV.agg 0 rfl rfl (by rw [isAggD, uT42]; rfl) (Tryz.cz42) Tryz.hi42) ?_)
    exact fun w' hw' => ⟨x, rfl, rfl, (hw'.sub (List.sublist_cons_self _ _)).res⟩
   ·rw [if_neg hin] at hnl
    refine e_skip <| e_blk <| e_region ?_
    refine w_val (v_add rfl rfl (by omega)) rfl ?_
    refine wm rfl rfl <| w_nil ?_
    exact e_round (i + 1) (⟨by omega, hnl⟩) (by omega) (by repeat first | exact .nil _ | refine .cons rfl ?_) (fun _ hw => hw)
  ·have e : i = l.length := by omega
   subst e
   rw [List.drop_length] at hnl
   rw [show doLs d l = ((linesL d l).1, (linesL d l).2, (0, 0)) from by unfold doLs faultLs; rw [if_neg h150, ← hnl, if_neg (by simp [nlAt])]]
   refine e_exit rfl <| esr <| wm rfl rfl <| wn rfl rfl <| w_val (v_fieldAddrB (o := 0) uT55 rfl rfl Tryz.nz53 rfl) rfl <| w_op rfl ?_
   refine g_heap (m' := [dkB p x.A x.bv (ptrV x.y.p) x.rv] ++ ([.blk b5 42 [.int .i64 0, .int .i64 0]] ++ (rH x.rv x.vs x.G d.r ++ stH x.y d.q))) (fun _ hw => hw.pick [1, 0, 2, 3, 4, 5, 6, 7, 8] (by decide)) ?_; refine x_call (dst := some 29) (mc := [dkB p x.A x.bv (ptrV x.y.p) x.rv]) (mr := Chunk.blk b5 42 [.int .i64 0, .int .i64 0] :: (rH x.rv x.vs x.G d.r ++ stH x.y d.q)) (σ := Unit) (fun _ => True) (fun _ => .tuple #[]) (fun _ => [dkB p none (.slice none 0 0) (ptrV x.y.p) x.rv]) rfl rfl rfl Tryz.call12 (fun w hw => reset_spec p x.A x.bv (ptrV x.y.p) x.rv w (hw.mem (i := 0) rfl)) rfl (fun _ _ => ?_)
   refine w_nil <| e_seq <| esr <| wm rfl rfl <| w_val (v_lenS uT22 rfl) rfl <| wm rfl rfl <| w_nil <| e_block ?_
   refine e_loopH (σ := Nat × DkS) [0, 1, 5, 30, 31] (.cons rfl (.cons rfl (.cons rfl (.cons rfl (.cons rfl .nil))))) (fun z => [(32, .int .i64 (z.1 : Int))]) (fun z => Chunk.blk b5 42 [.int .i64 0, .int .i64 0] :: dkH p z.2 (linesL d (l.take z.1)).1 (linesL d (l.take z.1)).2) (fun z => z.1 ≤ l.length ∧ z.2.Ok p x.y.p) (fun z => l.length - z.1) (0, ⟨none, .slice none 0 0, x.rv, x.vs, x.G, x.y⟩) ⟨Nat.zero_le _, .inl rfl, rfl⟩ (by repeat first | exact .nil _ | refine .cons rfl ?_) (fun _ hw => (hw.ownNil 5 1).pick [2, 1, 0, 3, 4, 5, 6, 7, 8, 9] (by decide)) ?_
   rintro ⟨i, z⟩ ⟨hi, hz⟩
   dsimp only at hi hz ⊢
   refine esr <| w_val (v_lss rfl rfl) rfl <| w_nil <| e_seq ?_
   refine e_condD rfl (fun hlt => ?_) (fun hlt => ?_)
   ·have hi' : i < l.length := by omega
    obtain ⟨ad, rfl, hcell⟩ := IsStrs.cell hv hi'
    have hsl := hs _ (List.getElem_mem hi')
    have hsn := linesL_snoc d (l.take i) l[i]
    rw [← List.take_succ_eq_append_getElem hi'] at hsn
    have hok := lines_ok (l.take i) hd
    have hll := lines_len (l.take i) hd (fun s hs' => by have := hs s (List.mem_of_mem_take hs'); omega)
    rw [List.length_take] at hok hll
    have hmn : min i l.length ≤ 300 := by omega
    have hml : 20000 * min i l.length ≤ 20000 * 300 := Nat.mul_le_mul_left _ hmn
    generalize l[i] = s at *
    generalize linesL d (l.take i) = dt at *
    obtain ⟨di, ti⟩ := dt
    dsimp only at hok hll hsn
    refine e_skip <| e_seq <| e_block <| esr ?_
    refine w_val (v_indexS uT22 Tryz.hi9 Tryz.cz9 rfl rfl (by first | omega | decide)) rfl ?_
    refine w_val (v_loadO uT9 rfl rfl (hcell)) rfl <| wa rfl rfl <| wre <| wm rfl rfl <| wm rfl rfl <| w_op rfl ?_
    refine g_heap (m' := dkH p z di ti ++ [Chunk.blk b5 42 [.int .i64 0, .int .i64 0]]) (fun _ hw => hw.pick [1, 2, 3, 4, 5, 6, 7, 8, 9, 0] (by decide)) ?_; refine x_call (dst := some 38) (mc := dkH p z di ti) (mr := [Chunk.blk b5 42 [.int .i64 0, .int .i64 0]]) (σ := DkS) (fun x' => x'.Ok p z.y.p) (fun _ => .tuple #[]) (fun x' => dkH p x' (lineL di s).1 (ti ++ (lineL di s).2)) rfl rfl rfl Tryz.call13 (fun w hw => dkLine_spec p z di ti s _ w hz.1 (res_part hw).1 (res_part hw).2 hok (by omega) (hL.part hw) (by omega) hsl) rfl (fun x' hx' => ?_)
    refine w_nil <| e_blk <| e_region ?_
    refine w_val (v_add rfl rfl (by omega)) rfl ?_
    refine wm rfl rfl <| w_nil ?_
    exact e_round ((i + 1, x')) (⟨by dsimp only; omega, hx'.1, hx'.2.trans hz.2⟩) (by dsimp only; omega) (by repeat first | exact .nil _ | refine .cons rfl ?_) (fun _ hw => by dsimp only; rw [hsn]; exact hw.pick [9, 0, 1, 2, 3, 4, 5, 6, 7, 8] (by decide))
   ·have e : i = l.length := by omega
    subst e
    rw [List.take_length]
    generalize linesL d l = dt at *
    obtain ⟨di, ti⟩ := dt
    dsimp only
    refine e_exit rfl <| esr <| wm rfl rfl <| wn rfl rfl <| w_val (v_fieldAddrB (o := 0) uT55 rfl rfl Tryz.nz53 rfl) rfl <| w_op rfl ?_
    refine g_heap (m' := dkT p z.A z.bv (ptrV z.y.p) z.rv ti ++ (Chunk.blk b5 42 [.int .i64 0, .int .i64 0] :: (rH z.rv z.vs z.G di.r ++ stH z.y di.q))) (fun _ hw => hw.pick [1, 2, 0, 3, 4, 5, 6, 7, 8, 9] (by decide)) ?_; refine x_call (dst := some 43) (mc := dkT p z.A z.bv (ptrV z.y.p) z.rv ti) (mr := Chunk.blk b5 42 [.int .i64 0, .int .i64 0] :: (rH z.rv z.vs z.G di.r ++ stH z.y di.q)) (σ := Unit) (fun _ => True) (fun _ => strV ti) (fun _ => [dkB p z.A z.bv (ptrV z.y.p) z.rv]) rfl rfl rfl Tryz.call14 (fun w hw => string_spec p z.A z.bv (ptrV z.y.p) z.rv ti w (res_part hw).1 (res_part hw).2) rfl (fun _ _ => ?_)
    refine w_val (v_build (v := faultV (0, 0)) _ rfl (by intro _; simp [Instr.build, Instr.fill, Tryz.zeroValue42, go_sem]; rfl)) rfl ?_
    refine wa rfl rfl <| w_op rfl ?_
    refine x_storeA (vs := #[.int .i64 0, .int .i64 0]) 1 rfl rfl rfl Tryz.hi42 Tryz.cz42 rfl (by simp [Value.oneCell']) ?_
    refine w_nil ?_
    refine e_retQ (q_ret2 rfl (.tmp rfl) (ResV.agg 1 rfl rfl (by rw [isAggD, uT42]; rfl) (Tryz.cz42) Tryz.hi42) ?_)
    exact fun w' hw' => ⟨z, hz.2, rfl, (hw'.pick [0, 2, 3, 4, 5, 6, 7, 8] (by decide)).res⟩
end Go.SL
end
