/- YtebdkaadbakhlaaGreatDoor: part DK3 of this seat's own texts. -/
import Derived.Test.YtebdkaadbakhlaaGreatDoorDK2
set_option linter.unusedVariables false
set_option linter.unusedSimpArgs false
section
open Go Go.Proofs Go.SL Go.RowKit
set_option maxRecDepth 100000
set_option maxHeartbeats 4000000
namespace Go.SL
theorem RoundV.deed {v : Value} {vs : List Value} {r : RoundL} {c : View} (h : RoundV v vs r c) {j : Nat} (hj : j < r.length) {u : Value} (hu : vs[j]? = some u) : IsDeed c u r[j] := by
 obtain ⟨u', h1, h2⟩ := h.2.2 j hj
 rw [hu] at h1
 injection h1 with h1
 subst h1
 exact h2
theorem dkRound_spec (p : Nat) (A : Option Addr) (bv rv : Value) (told : List UInt8) (y : StP) (q : QL) (n : Int) (w : World) (hA : AdOk p A) (h : ∀ c ∈ dkT p A bv (ptrV y.p) rv told, c.holds w) (hsep : (dkT p A bv (ptrV y.p) rv told).Pairwise Disj) (hv : StV (SL.off w (feet (dkT p A bv (ptrV y.p) rv told))) y q) (hok : q.Ok) (hL : LF w (feet (dkT p A bv (ptrV y.p) rv told))) (ht : told.length ≤ 90000000) :
  Calls Tryz.prog 55 #[.pointer (some ⟨p, 0, none⟩), .int .i64 n] w fun e w' => ∃ b' : Value × Unit, True ∧ e = .returned (.tuple #[]) ∧ Res w (dkT p A bv (ptrV y.p) rv told) (dkT p (some ⟨p, 0, none⟩) b'.1 (ptrV y.p) rv (told ++ tellRound q.L n)) w' := by
 have h0 := hv.c0
 have h25 := hok.log.len
 refine enter (mc := dkT p A bv (ptrV y.p) rv told) (N := 45) Tryz.func55 rfl rfl rfl ?_ ?_ ?_
 ·exact h
 ·exact hsep
 by_cases hn : n < 0 ∨ (q.L.length : Int) ≤ n
 ·rw [show tellRound q.L n = tellCode 7 from by unfold tellRound; rw [if_pos hn]]
  refine esr <| wm rfl rfl <| wn rfl rfl <| w_val (v_fieldAddrB (o := 2) uT55 rfl rfl Tryz.nz48 rfl) rfl <| w_val (v_loadB 0 rfl uT48 rfl rfl rfl) rfl <| wn rfl rfl <| w_val (v_fieldAddrB (o := 0) uT63 rfl rfl Tryz.nz60 rfl) rfl <| w_val (v_loadO uT60 rfl rfl (h0)) rfl <| wm rfl rfl <| w_op rfl ?_
  refine x_call0 (v := .tuple #[.slice none 0 0, .bool false]) rfl rfl rfl Tryz.call92 rfl (fun w hw => logRound_none y.pl y.bv y.ev q.L q.k n w (hv.mono hw.off).lg hn) ?_
  refine wm rfl rfl <| w_val (v_extract rfl rfl) rfl <| w_val (v_extract rfl rfl) rfl <| wa rfl rfl <| wa rfl rfl <| w_nil <| e_seq <| esr <| wm rfl rfl <| w_val (v_not rfl) rfl <| w_nil <| e_condT rfl <| esr <| wm rfl rfl <| w_op rfl ?_
  refine g_heap (m' := dkT p A bv (ptrV y.p) rv (told) ++ []) (fun _ hw => hw.pick [0, 1] (by decide)) ?_; refine x_call (dst := some 25) (mc := dkT p A bv (ptrV y.p) rv (told)) (mr := []) (σ := Value) (fun _ => True) (fun _ => .tuple #[]) (fun b' => dkT p (some ⟨p, 0, none⟩) b' (ptrV y.p) rv ((told) ++ tellCode 7)) rfl rfl rfl Tryz.call49 (fun w hw => code_spec p A bv (ptrV y.p) rv (told) 7 w hA (res_part hw).1 (res_part hw).2 (hL.part hw) (by simp [In64]) (by omega)) rfl (fun b' _ => ?_)
  refine w_nil ?_
  refine e_retQ (q_ret0 rfl ?_)
  exact fun w' hw' => ⟨(b', ()), trivial, rfl, (hw'.pick [0, 1] (by decide)).res⟩
 ·obtain ⟨i, rfl⟩ : ∃ i : Nat, n = i := ⟨n.toNat, by omega⟩
  have hi : i < q.L.length := by omega
  have hgd : q.L.getD i [] = q.L[i] := by simp [List.getD, hi]
  rw [show tellRound q.L (i : Int) = (q.L.getD i []).flatMap tellDeed ++ tellEnd from by unfold tellRound; rw [if_neg hn, Int.toNat_natCast]]
  have hround := fun (w1 : World) (h1 : LgV w1.cell? y.pl y.bv y.ev q.L q.k) => logRound_spec y.pl y.bv y.ev q.L q.k i w1 h1 hok.log hi
  rw [← hgd] at hround
  have hr8 := (roundFault_ok (hok.fault hi)).1
  have hrin := getD_inL hok.inn i
  generalize q.L.getD i [] = r at *
  refine esr <| wm rfl rfl <| wn rfl rfl <| w_val (v_fieldAddrB (o := 2) uT55 rfl rfl Tryz.nz48 rfl) rfl <| w_val (v_loadB 0 rfl uT48 rfl rfl rfl) rfl <| wn rfl rfl <| w_val (v_fieldAddrB (o := 0) uT63 rfl rfl Tryz.nz60 rfl) rfl <| w_val (v_loadO uT60 rfl rfl (h0)) rfl <| wm rfl rfl <| w_op rfl ?_
  refine x_call (dst := some 19) (mc := []) (σ := Value × (Nat → Prop)) (fun _ => True) (fun s => .tuple #[s.1, .bool true]) (fun s => [Keep s.2 (fun c => IsRound c s.1 r)]) rfl rfl rfl Tryz.call92 (fun w hw => hround w (hv.mono hw.off).lg) rfl (fun s _ => ?_); obtain ⟨rv0, G⟩ := s; dsimp only; refine g_roundV 0 rfl (fun Ar kr vs hrv _ had hvl hvs => ?_); subst hrv
  refine wm rfl rfl <| w_val (v_extract rfl rfl) rfl <| w_val (v_extract rfl rfl) rfl <| wa rfl rfl <| wa rfl rfl <| w_nil <| e_seq <| esr <| wm rfl rfl <| w_val (v_not rfl) rfl <| w_nil <| e_condF rfl <| e_skip <| e_seq <| esr <| wm rfl rfl <| w_val (v_lenS uT37 rfl) rfl <| wm rfl rfl <| w_nil <| e_block ?_
  refine e_loopH (σ := Nat × Option Addr × Value) [0, 26, 27] (.cons rfl (.cons rfl (.cons rfl .nil))) (fun x => [(28, .int .i64 (x.1 : Int))]) (fun x => Keep G (RoundV (.slice Ar r.length kr) vs r) :: dkT p x.2.1 x.2.2 (ptrV y.p) rv (told ++ (r.take x.1).flatMap tellDeed)) (fun x => x.1 ≤ r.length ∧ AdOk p x.2.1) (fun x => r.length - x.1) (0, A, bv) ⟨Nat.zero_le _, hA⟩ (by repeat first | exact .nil _ | refine .cons rfl ?_) (fun _ hw => by simpa using hw) ?_
  rintro ⟨j, A1, bv1⟩ ⟨hj, hA1⟩
  dsimp only at hj hA1 ⊢
  have htl : ((r.take j).flatMap tellDeed).length ≤ 1440 * r.length := by
   have := flat_len (f := tellDeed) (m := 1440) (l := r.take j) (fun x hx => tellDeed_len (hrin x (List.mem_of_mem_take hx)))
   rw [List.length_take] at this
   have : 1440 * min j r.length ≤ 1440 * r.length := Nat.mul_le_mul_left _ (Nat.min_le_right _ _)
   omega
  refine esr <| w_val (v_lss rfl rfl) rfl <| w_nil <| e_seq ?_
  refine e_condD rfl (fun hlt => ?_) (fun hlt => ?_)
  ·have hj' : j < r.length := by omega
   have hdin := hrin _ (List.getElem_mem hj')
   have hsn : (r.take (j + 1)).flatMap tellDeed = (r.take j).flatMap tellDeed ++ tellDeed r[j] := by rw [List.take_succ_eq_append_getElem hj', List.flatMap_append, List.flatMap_cons, List.flatMap_nil, List.append_nil]
   obtain ⟨ad, rfl⟩ := had (by omega)
   obtain ⟨A2, k2, hvj, _, _⟩ := hvs j hj'
   have hdeed := fun (c : View) (hc : RoundV (.slice (some ad) r.length kr) vs r c) => hc.deed hj' hvj
   generalize hT : told ++ (r.take j).flatMap tellDeed = told1 at *
   have hT1 : told1.length ≤ 90020000 := by rw [← hT, List.length_append]; omega
   generalize r[j] = d at *
   have hps := printS_len hdin
   have hpr := fun (w1 : World) (v1 : Value) hv1 hL1 => txPrint_spec v1 d w1 hv1 hdin hL1
   rw [show tellDeed d = ([100, 101, 101, 100, 32] ++ (printS d).1) ++ [10] from rfl] at hsn
   generalize printS d = pd at *
   obtain ⟨s, f0, f1⟩ := pd
   dsimp only at hps hpr hsn
   refine e_skip <| e_seq <| e_block <| esr ?_
   refine w_val (v_indexS uT37 Tryz.hi80 Tryz.cz80 rfl rfl (by first | omega | decide)) rfl ?_
   refine w_val (v_loadK (v := .slice A2 d.length k2) 0 rfl (RoundV.up _ _ _) (fun c hc => by obtain ⟨ad', e, h5⟩ := hc.cell hvj; cases e; simpa using h5) uT80 rfl rfl) rfl ?_
   refine wa rfl rfl <| wsr <| wm rfl rfl <| w_op rfl ?_
   refine x_call0 (v := .tuple #[strV s, .agg #[.int .i64 f0, .int .i64 f1]]) rfl rfl rfl Tryz.call93 rfl (fun w hw => hpr w _ (hdeed _ (keep_all (RoundV.up _ _ _) (hw.mem (i := 0) rfl))) (hL.lai hw)) ?_
   refine wm rfl rfl <| w_val (v_extract rfl rfl) rfl <| w_val (v_extract rfl rfl) rfl <| w_op rfl ?_
   refine x_alloc (z := .agg #[.int .i64 0, .int .i64 0]) (by intro w; exact Tryz.zeroValue42 w) rfl (fun b9 => ?_)
   refine wa rfl rfl <| w_op rfl ?_
   refine x_storeA 0 rfl rfl rfl Tryz.hi42 Tryz.cz42 rfl (by first | (simp [Value.oneCell', opCells]; done) | assumption | exact one_ints _ | exact one_resCells _ _ | exact one_slotC _) ?_
   refine wre <| wm rfl rfl <| wm rfl rfl <| w_op rfl ?_
   refine x_buildSlice _ (strC [[100, 101, 101, 100], s]) rfl (run_buildSlice uT22 Tryz.hi9 Tryz.cz9 Tryz.zeroValue9 rfl (by kernel_rfl)) rfl (fun b39 => ?_)
   refine w_op rfl ?_
   refine g_heap (m' := (dkT p A1 bv1 (ptrV y.p) rv (told1) ++ [Chunk.blk b39 9 (strC [[100, 101, 101, 100], s])]) ++ [.blk b9 42 [.int .i64 f0, .int .i64 f1], Keep G (RoundV (.slice (some ad) r.length kr) vs r)]) (fun _ hw => hw.pick [3, 4, 0, 1, 2] (by decide)) ?_; refine x_call (dst := some 40) (mc := dkT p A1 bv1 (ptrV y.p) rv (told1) ++ [Chunk.blk b39 9 (strC [[100, 101, 101, 100], s])]) (mr := [.blk b9 42 [.int .i64 f0, .int .i64 f1], Keep G (RoundV (.slice (some ad) r.length kr) vs r)]) (σ := Value) (fun _ => True) (fun _ => .tuple #[]) (fun b' => dkT p (some ⟨p, 0, none⟩) b' (ptrV y.p) rv ((told1) ++ (Lib.join [[100, 101, 101, 100], s] [32] ++ [10]))) rfl rfl rfl Tryz.call26 (fun w hw => say_spec p A1 bv1 (ptrV y.p) rv (told1) b39 [[100, 101, 101, 100], s] w hA1 (res_part hw).1 (res_part hw).2 (by simp) (by rw [join2]; simp only [lnA]; omega)) rfl (fun b' _ => ?_)
   refine w_nil <| e_blk <| e_region ?_
   refine w_val (v_add rfl rfl (by omega)) rfl ?_
   refine wm rfl rfl <| w_nil ?_
   exact e_round ((j + 1, some ⟨p, 0, none⟩, b')) (⟨by dsimp only; omega, .inr rfl⟩) (by dsimp only; omega) (by repeat first | exact .nil _ | refine .cons rfl ?_) (fun _ hw => by have h9 := hw.pick [3, 0, 1] (by decide); rw [join2] at h9; dsimp only; rw [hsn, ← List.append_assoc, hT]; exact h9)
  ·have e : j = r.length := by omega
   subst e
   rw [List.take_length] at htl ⊢
   refine e_exit rfl <| e_region <| wm rfl rfl <| w_op rfl ?_
   refine x_buildSlice _ (strC [[101, 110, 100]]) rfl (run_buildSlice uT22 Tryz.hi9 Tryz.cz9 Tryz.zeroValue9 rfl (by kernel_rfl)) rfl (fun b43 => ?_)
   refine w_op rfl ?_
   refine g_heap (m' := (dkT p A1 bv1 (ptrV y.p) rv (told ++ r.flatMap tellDeed) ++ [Chunk.blk b43 9 (strC [[101, 110, 100]])]) ++ [Keep G (RoundV (.slice Ar r.length kr) vs r)]) (fun _ hw => hw.pick [2, 3, 0, 1] (by decide)) ?_; refine x_call (dst := some 44) (mc := dkT p A1 bv1 (ptrV y.p) rv (told ++ r.flatMap tellDeed) ++ [Chunk.blk b43 9 (strC [[101, 110, 100]])]) (mr := [Keep G (RoundV (.slice Ar r.length kr) vs r)]) (σ := Value) (fun _ => True) (fun _ => .tuple #[]) (fun b' => dkT p (some ⟨p, 0, none⟩) b' (ptrV y.p) rv ((told ++ r.flatMap tellDeed) ++ (Lib.join [[101, 110, 100]] [32] ++ [10]))) rfl rfl rfl Tryz.call26 (fun w hw => say_spec p A1 bv1 (ptrV y.p) rv (told ++ r.flatMap tellDeed) b43 [[101, 110, 100]] w hA1 (res_part hw).1 (res_part hw).2 (by simp) (by rw [join1]; simp only [lnA]; omega)) rfl (fun b' _ => ?_)
   refine w_nil ?_
   refine e_endQ (q_ret0 rfl ?_)
   refine fun w' hw' => ⟨(b', ()), trivial, rfl, ?_⟩
   have := (hw'.pick [0, 1] (by decide)).res
   rw [join1, List.append_assoc] at this
   exact this
abbrev rH (rv : Value) (vs : List Value) (G : Nat → Prop) (r : RoundL) : Hp := [Rw rv 80 1 r.length vs, Keep G (Deeds vs r)]
theorem dkDeed_spec (p : Nat) (A : Option Addr) (bv cv rv : Value) (vs : List Value) (G : Nat → Prop) (told s : List UInt8) (d : DkL) (w : World) (hA : AdOk p A) (h : ∀ c ∈ dkT p A bv cv rv told ++ rH rv vs G d.r, c.holds w) (hsep : (dkT p A bv cv rv told ++ rH rv vs G d.r).Pairwise Disj) (hL : LF w (feet (dkT p A bv cv rv told ++ rH rv vs G d.r))) (ht : told.length ≤ 90000000) (hs : s.length ≤ 10000) (hr : d.r.length ≤ 1000) :
  Calls Tryz.prog 20 #[.pointer (some ⟨p, 0, none⟩), strV s] w fun e w' => ∃ x : (Option Addr × Value) × Value × List Value × (Nat → Prop), AdOk p x.1.1 ∧ e = .returned (.tuple #[]) ∧ Res w (dkT p A bv cv rv told ++ rH rv vs G d.r) (dkT p x.1.1 x.1.2 cv x.2.1 (told ++ (deedL d s).2) ++ rH x.2.1 x.2.2.1 x.2.2.2 (deedL d s).1.r) w' := by
 have hps := fun (w1 : World) hL1 => txParse_spec s w1 (by omega) hL1
 obtain ⟨hf1, hf2⟩ := parse_flt (s := s) (by omega)
 obtain ⟨hpo, _, _⟩ := parse_out s
 unfold deedL tellNo
 refine enter (mc := dkT p A bv cv rv told ++ rH rv vs G d.r) (N := 33) Tryz.func20 rfl rfl rfl ?_ ?_ ?_
 ·exact h
 ·exact hsep
 refine g_shapeR2 2 rfl fun Ar kr hrv hkr _ => ?_
 subst hrv
 generalize parseL s = pr at *
 obtain ⟨x, f0, f1⟩ := pr
 dsimp only at hps hf1 hf2 hpo ⊢
 have hi0 := itoa_len hf1
 have hi1 := itoa_len hf2
 refine esr <| wm rfl rfl <| w_op rfl ?_
 refine x_call (dst := some 8) (mc := []) (σ := Value) (fun _ => True) (fun v => .tuple #[v, .agg #[.int .i64 f0, .int .i64 f1]]) (fun v => [Own v 109 5 x.length (deedCells x)]) rfl rfl rfl Tryz.call41 (fun w hw => hps w (hL.lai hw)) rfl (fun v _ => ?_); refine g_shape 0 rfl (fun Ax kx hvx _ => ?_); subst hvx
 refine wm rfl rfl <| w_val (v_extract rfl rfl) rfl <| w_val (v_extract rfl rfl) rfl <| w_op rfl ?_
 refine x_alloc (z := .agg #[.int .i64 0, .int .i64 0]) (by intro w; exact Tryz.zeroValue42 w) rfl (fun b5 => ?_)
 refine wa rfl rfl <| w_op rfl ?_
 refine x_storeA 0 rfl rfl rfl Tryz.hi42 Tryz.cz42 rfl (by first | (simp [Value.oneCell', opCells]; done) | assumption | exact one_ints _ | exact one_resCells _ _ | exact one_slotC _) ?_
 refine w_nil <| e_seq <| esr <| w_val (v_fieldAddrB (o := 0) uT42 rfl rfl Tryz.nz3 rfl) rfl <| w_val (v_loadB 0 rfl uT3 rfl rfl rfl) rfl <| w_val (v_neq rfl rfl) rfl <| w_nil ?_
 by_cases hne : f0 ≠ 0
 ·rw [if_pos hne]
  dsimp only
  refine e_condDT rfl (by omega) ?_
  refine e_seq <| e_draw ([.blk b5 42 [.int .i64 f0, .int .i64 f1]]) Tryz.mixed <| tk 0 rfl (v_move rfl) rfl <| tk 1 rfl (v_fieldAddrB (o := 0) uT42 rfl rfl Tryz.nz3 rfl) rfl <| tk 2 rfl (v_loadB 0 rfl uT3 rfl rfl rfl) rfl <| tk 4 rfl (v_fieldAddrB (o := 1) uT42 rfl rfl Tryz.nz3 rfl) rfl <| tk 5 rfl (v_loadB 0 rfl uT3 rfl rfl rfl) rfl <| t1 3 rfl rfl ?_
  refine x_call0 (v := strV (Lib.itoa f0)) rfl rfl rfl Tryz.call25 rfl (fun w hw => dkNum_spec f0 w hf1 (hL.lai hw)) ?_
  refine tn <| t1 6 rfl rfl ?_
  refine x_call0 (v := strV (Lib.itoa f1)) rfl rfl rfl Tryz.call25 rfl (fun w hw => dkNum_spec f1 w hf2 (hL.lai hw)) ?_
  refine tn <| t1 7 rfl rfl ?_
  refine x_buildSlice _ (strC [[110, 111], Lib.itoa f0, Lib.itoa f1]) rfl (run_buildSlice uT22 Tryz.hi9 Tryz.cz9 Tryz.zeroValue9 rfl (by kernel_rfl)) rfl (fun b21 => ?_)
  refine tn <| t1 8 rfl rfl ?_
  refine g_heap (m' := (dkT p A bv cv (.slice Ar d.r.length kr) (told) ++ [Chunk.blk b21 9 (strC [[110, 111], Lib.itoa f0, Lib.itoa f1])]) ++ [.blk b5 42 [.int .i64 f0, .int .i64 f1], Own (.slice Ax x.length kx) 109 5 x.length (deedCells x), Rw (.slice Ar d.r.length kr) 80 1 d.r.length vs, Keep G (Deeds vs d.r)]) (fun _ hw => hw.pick [3, 4, 0, 1, 2, 5, 6] (by decide)) ?_; refine x_call (dst := some 22) (mc := dkT p A bv cv (.slice Ar d.r.length kr) (told) ++ [Chunk.blk b21 9 (strC [[110, 111], Lib.itoa f0, Lib.itoa f1])]) (mr := [.blk b5 42 [.int .i64 f0, .int .i64 f1], Own (.slice Ax x.length kx) 109 5 x.length (deedCells x), Rw (.slice Ar d.r.length kr) 80 1 d.r.length vs, Keep G (Deeds vs d.r)]) (σ := Value) (fun _ => True) (fun _ => .tuple #[]) (fun b' => dkT p (some ⟨p, 0, none⟩) b' cv (.slice Ar d.r.length kr) ((told) ++ (Lib.join [[110, 111], Lib.itoa f0, Lib.itoa f1] [32] ++ [10]))) rfl rfl rfl Tryz.call26 (fun w hw => say_spec p A bv cv (.slice Ar d.r.length kr) (told) b21 [[110, 111], Lib.itoa f0, Lib.itoa f1] w hA (res_part hw).1 (res_part hw).2 (by simp) (by rw [join3]; simp only [lnA]; omega)) rfl (fun b' _ => ?_)
  refine tn <| td ?_
  refine e_retQ (q_ret0 rfl ?_)
  refine fun w' hw' => ⟨((some ⟨p, 0, none⟩, b'), .slice Ar d.r.length kr, vs, G), .inr rfl, rfl, ?_⟩
  have := (hw'.pick [0, 1, 4, 5] (by decide)).res
  rw [join3] at this
  exact this
 ·rw [if_neg hne]
  dsimp only
  refine e_condDF rfl (by omega) ?_
  refine e_skip <| e_region <| wm rfl rfl <| wm rfl rfl <| wn rfl rfl <| w_val (v_fieldAddrB (o := 3) uT55 rfl rfl Tryz.nz37 rfl) rfl <| w_val (v_loadB 2 rfl uT37 rfl rfl rfl) rfl <| wm rfl rfl <| w_op rfl ?_
  refine x_buildSlice _ ([.slice Ax x.length kx]) rfl (run_buildSlice uT37 Tryz.hi80 Tryz.cz80 Tryz.zeroValue80 rfl (by kernel_rfl)) rfl (fun b29 => ?_)
  refine w_op rfl ?_
  refine x_appendRS (z := .slice none 0 0) (n := d.r.length) (xs := vs) (size := 1) (bytes := 24) (k := 1) (news := [.slice Ax x.length kx]) 5 rfl rfl rfl uT37 (by kernel_rfl) rfl (by decide) (by omega) (fun w hw => blk_rds (hw.hold _ (List.mem_cons_self ..)) rfl) (by intro u hu; simp only [List.mem_singleton] at hu; subst hu; rfl) (by omega) (by simp only [maxLen]; omega) rfl (fun A2 k2 _ => ?_)
  refine wn rfl rfl <| w_val (v_fieldAddrB (o := 3) uT55 rfl rfl Tryz.nz37 rfl) rfl <| w_op rfl ?_
  refine x_store1 3 rfl rfl rfl Tryz.hi37 Tryz.cz37 rfl (by first | (simp; done) | (simp [intCells_len]; omega) | exact Nat.zero_lt_succ _) rfl ?_
  refine w_nil ?_
  refine e_endQ (q_ret0 rfl ?_)
  refine fun w' hw' => ⟨((A, bv), .slice A2 (d.r.length + 1) k2, vs ++ [.slice Ax x.length kx], feet [Own (.slice Ax x.length kx) 109 5 x.length (deedCells x), Keep G (Deeds vs d.r)]), hA, rfl, ?_⟩
  rw [List.append_nil]
  show Res _ _ [dkB p A bv cv (.slice A2 (d.r.length + 1) k2), dkO bv told, Rw (.slice A2 (d.r.length + 1) k2) 80 1 (d.r ++ [x]).length (vs ++ [.slice Ax x.length kx]), Keep (feet [Own (.slice Ax x.length kx) 109 5 x.length (deedCells x), Keep G (Deeds vs d.r)]) (Deeds (vs ++ [.slice Ax x.length kx]) (d.r ++ [x]))] _
  rw [List.length_append, List.length_singleton]
  have h4 : St w _ [Own (.slice Ax x.length kx) 109 5 x.length (deedCells x), Keep G (Deeds vs d.r), .blk p 55 [.pointer A, bv, cv, .slice A2 (d.r.length + 1) k2], dkO bv told, Rw (.slice A2 (d.r.length + 1) k2) 80 1 (d.r.length + 1) (vs ++ [.slice Ax x.length kx])] w' := hw'.pick [2, 6, 3, 4, 5] (by decide)
  exact (h4.deedIn rfl |>.pick [1, 2, 3, 0] (by decide)).res
end Go.SL
end
section
open Go Go.Proofs Go.SL Go.RowKit
set_option maxRecDepth 100000
set_option maxHeartbeats 4000000
namespace Go.SL
def celG (p : Nat) (cv rv : Value) : Gen where
 foot := fun b => b = p
 holds := fun w => w.cell? ⟨p, 2, none⟩ = some cv ∧ w.cell? ⟨p, 3, none⟩ = some rv
 lt := fun {w b} h hb => by subst hb; exact Lib.lt_of_cell h.1
 stable := fun {w w'} hs h => by
  have e := hs p rfl
  exact ⟨by rw [World.cell?_of_block (w := w) (w' := w') (a := ⟨p, 2, none⟩) e]; exact h.1, by rw [World.cell?_of_block (w := w) (w' := w') (a := ⟨p, 3, none⟩) e]; exact h.2⟩
abbrev Cel (p : Nat) (cv rv : Value) : Chunk := .gen (celG p cv rv)
theorem St.cel {w0 w : World} {F : Nat → Prop} {m m' : Hp} {p : Nat} {A : Option Addr} {bv cv rv : Value} (h : St w0 F m w) (i : Nat) (hm : m[i]? = some (dkB p A bv cv rv)) (hs : m'.Sublist (m.eraseIdx i)) : St w0 F (Cel p cv rv :: m') w := by
 have h1 : St w0 F (dkB p A bv cv rv :: m') w := (h.front hm).sub (hs.cons_cons _)
 exact h1.impAt (c := dkB p A bv cv rv) (c' := Cel p cv rv) 0 rfl (fun b hb => hb) (fun hb => ⟨by rw [blk_cell hb]; rfl, by rw [blk_cell hb]; rfl⟩)
section
variable {C : Cx} {l : Fr} {m : Hp} {ty : TypeId} {pos : String} {after : Array Edge} {dst : Option Nat} {g : Option (Nat × Bool)}
theorem v_celS {x : Operand} {t : TypeId} {u : TypeDesc} {p : Nat} {cv rv : Value} (i : Nat) (hm : m[i]? = some (Cel p cv rv)) (ht : C.P.underlying t = some u) (hu : (match u with | .struct _ | .array _ _ => true | _ => false) = false) (hx : rd l x = some (.pointer (some ⟨p, 0 + 2, none⟩))) : OpV C l m ⟨dst, .load t x, ty, pos, after, g⟩ cv :=
 v_load1 ht hu hx fun _ hw => (hw.mem hm).1
theorem v_celR {x : Operand} {t : TypeId} {u : TypeDesc} {p : Nat} {cv rv : Value} (i : Nat) (hm : m[i]? = some (Cel p cv rv)) (ht : C.P.underlying t = some u) (hu : (match u with | .struct _ | .array _ _ => true | _ => false) = false) (hx : rd l x = some (.pointer (some ⟨p, 0 + 3, none⟩))) : OpV C l m ⟨dst, .load t x, ty, pos, after, g⟩ rv :=
 v_load1 ht hu hx fun _ hw => (hw.mem hm).2
end
structure DkS where
 A : Option Addr
 bv : Value
 rv : Value
 vs : List Value
 G : Nat → Prop
 y : StP
abbrev dkH (p : Nat) (x : DkS) (d : DkL) (told : List UInt8) : Hp := (dkT p x.A x.bv (ptrV x.y.p) x.rv told ++ rH x.rv x.vs x.G d.r) ++ stH x.y d.q
def DkS.Ok (x : DkS) (p yp : Nat) : Prop := AdOk p x.A ∧ x.y.p = yp
theorem dkAsk_spec (p : Nat) (x : DkS) (d : DkL) (told wd : List UInt8) (nv : Value) (n : List Int) (N : Nat) (w : World) (hA : AdOk p x.A) (h : ∀ c ∈ dkH p x d told, c.holds w) (hsep : (dkH p x d told).Pairwise Disj) (hn : IsInts (SL.off w (feet (dkH p x d told))) nv n) (hd : d.Ok N) (hL : LF w (feet (dkH p x d told))) (ht : told.length ≤ 80000000) :
  Calls Tryz.prog 27 #[.pointer (some ⟨p, 0, none⟩), strV wd, nv] w fun e w' => ∃ x' : DkS, x'.Ok p x.y.p ∧ e = .returned (.bool (askL d wd n).isSome) ∧ Res w (dkH p x d told) (dkH p x' ((askL d wd n).getD (d, [])).1 (told ++ ((askL d wd n).getD (d, [])).2)) w' := by
 obtain ⟨A, bv, rv, vs, G, ⟨yp, pl, lb, le, sA, sk⟩⟩ := x
 dsimp only at hA
 have hq := hd.q
 obtain ⟨An, kn, rfl, hkn, hnc⟩ := hn.form
 refine enter (mc := dkH p ⟨A, bv, rv, vs, G, ⟨yp, pl, lb, le, sA, sk⟩⟩ d told) (N := 168) Tryz.func27 rfl rfl rfl ?_ ?_ ?_
 ·exact h
 ·exact hsep
 refine g_shapeR2 2 rfl fun Ar kr hrv _ _ => ?_
 subst hrv
 refine esr <| wa rfl rfl <| w_nil <| e_seq <| e_block <| e_seq ?_
 refine e_test 8 (decide (wd = [112, 117, 116] ∧ n.length = 0)) ?_ ?_
 ·refine e_region <| wm rfl rfl ?_
  refine w_valD (v_strEql rfl rfl) rfl (fun hg1 => ?_) (fun hg1 => ?_)
  ·refine wm rfl rfl <| w_want rfl rfl <| wm rfl rfl <| w_want rfl rfl <| w_val (v_lenS uT70 rfl) rfl <| w_want rfl rfl ?_
   refine w_valD (v_eql rfl rfl) rfl (fun hg5 => ?_) (fun hg5 => ?_)
   ·refine w_val (v_pickT rfl rfl) rfl <| wa rfl rfl <| w_nil ?_
    exact e_testEnd rfl (by first | exact (decide_eq_false (fun h => hg1 h.1)).symm | exact (decide_eq_true ⟨hg1, by omega⟩).symm | exact (decide_eq_false (fun h => hg5 (by have := h.2; omega))).symm) (by repeat (first | exact Sub.refl _ | exact Sub.nil _ | exact Sub.del _ _ | refine Sub.skip rfl ?_)) (fun _ hw => hw)
   ·refine w_val (v_pickT rfl rfl) rfl <| wa rfl rfl <| w_nil ?_
    exact e_testEnd rfl (by first | exact (decide_eq_false (fun h => hg1 h.1)).symm | exact (decide_eq_true ⟨hg1, by omega⟩).symm | exact (decide_eq_false (fun h => hg5 (by have := h.2; omega))).symm) (by repeat (first | exact Sub.refl _ | exact Sub.nil _ | exact Sub.del _ _ | refine Sub.skip rfl ?_)) (fun _ hw => hw)
  ·refine wm rfl rfl <| w_skip rfl rfl rfl rfl <| w_skip rfl rfl rfl rfl <| w_skip rfl rfl rfl rfl <| w_val (v_pickF rfl rfl) rfl <| wa rfl rfl <| w_nil ?_
   exact e_testEnd rfl (by first | exact (decide_eq_false (fun h => hg1 h.1)).symm | exact (decide_eq_true ⟨hg1, by omega⟩).symm | exact (decide_eq_false (fun h => hg5 (by have := h.2; omega))).symm) (by repeat (first | exact Sub.refl _ | exact Sub.nil _ | exact Sub.del _ _ | refine Sub.skip rfl ?_)) (fun _ hw => hw)
 refine e_condD rfl (fun hk => ?_) (fun hk => ?_)
 ·rw [show askL d wd n = some _ from by unfold askL; rw [if_pos hk]]
  dsimp only [Option.isSome_some, Option.getD_some]
  have hc2 := code_in (q := d.q) (⟨1, 0, d.r, []⟩ : SStepL)
  have hdo := fun (w1 : World) (u pv : Value) h1 h2 (h3 : IsRound (SL.off w1 (feet (stH ⟨yp, pl, lb, le, sA, sk⟩ d.q))) u ((⟨1, 0, d.r, []⟩ : SStepL)).round) (h4 : IsInts (SL.off w1 (feet (stH ⟨yp, pl, lb, le, sA, sk⟩ d.q))) pv ((⟨1, 0, d.r, []⟩ : SStepL)).picks) => stDo_spec ⟨yp, pl, lb, le, sA, sk⟩ d.q (⟨1, 0, d.r, []⟩ : SStepL) u pv w1 h1 h2 hq h3 h4 hd.inn
  generalize doQ d.q (⟨1, 0, d.r, []⟩ : SStepL) = qc at *
  obtain ⟨q2, c2⟩ := qc
  dsimp only at hc2 hdo ⊢
  refine e_seq <| e_draw ([Cel p (ptrV yp) (.slice Ar d.r.length kr)]) Tryz.mixed ?_
  refine a_take 0 pan_cx (by kernel_rfl) (fun _ hw => by first | exact hw.cel 0 rfl (List.nil_sublist _) | exact hw.cel 5 rfl (List.nil_sublist _)) rfl (by kernel_rfl) (by kernel_rfl) (v_move rfl) rfl ?_
  refine a_take 1 pan_cx (by kernel_rfl) (fun _ hw => by first | exact hw.cel 0 rfl (List.nil_sublist _) | exact hw.cel 5 rfl (List.nil_sublist _)) rfl (by kernel_rfl) (by kernel_rfl) (v_move rfl) rfl ?_
  refine a_take 2 pan_cx (by kernel_rfl) (fun _ hw => by first | exact hw.cel 0 rfl (List.nil_sublist _) | exact hw.cel 5 rfl (List.nil_sublist _)) rfl (by kernel_rfl) (by kernel_rfl) (v_nilCheck rfl) rfl ?_
  refine a_take 3 pan_cx (by kernel_rfl) (fun _ hw => by first | exact hw.cel 0 rfl (List.nil_sublist _) | exact hw.cel 5 rfl (List.nil_sublist _)) rfl (by kernel_rfl) (by kernel_rfl) (v_fieldAddrB (o := 2) uT55 rfl rfl Tryz.nz48 rfl) rfl ?_
  refine a_take 4 pan_cx (by kernel_rfl) (fun _ hw => by first | exact hw.cel 0 rfl (List.nil_sublist _) | exact hw.cel 5 rfl (List.nil_sublist _)) rfl (by kernel_rfl) (by kernel_rfl) (v_celS 0 rfl uT48 rfl rfl) rfl ?_
  refine a_take 5 pan_cx (by kernel_rfl) (fun _ hw => by first | exact hw.cel 0 rfl (List.nil_sublist _) | exact hw.cel 5 rfl (List.nil_sublist _)) rfl (by kernel_rfl) (by kernel_rfl) (v_move rfl) rfl ?_
  refine a_take 6 pan_cx (by kernel_rfl) (fun _ hw => by first | exact hw.cel 0 rfl (List.nil_sublist _) | exact hw.cel 5 rfl (List.nil_sublist _)) rfl (by kernel_rfl) (by kernel_rfl) (v_nilCheck rfl) rfl ?_
  refine a_take 7 pan_cx (by kernel_rfl) (fun _ hw => by first | exact hw.cel 0 rfl (List.nil_sublist _) | exact hw.cel 5 rfl (List.nil_sublist _)) rfl (by kernel_rfl) (by kernel_rfl) (v_fieldAddrB (o := 3) uT55 rfl rfl Tryz.nz37 rfl) rfl ?_
  refine a_take 8 pan_cx (by kernel_rfl) (fun _ hw => by first | exact hw.cel 0 rfl (List.nil_sublist _) | exact hw.cel 5 rfl (List.nil_sublist _)) rfl (by kernel_rfl) (by kernel_rfl) (v_celR 0 rfl uT37 rfl rfl) rfl ?_
  refine a_take 9 pan_cx (by kernel_rfl) (fun _ hw => by first | exact hw.cel 0 rfl (List.nil_sublist _) | exact hw.cel 5 rfl (List.nil_sublist _)) rfl (by kernel_rfl) (by kernel_rfl) (v_build (v := sstV (⟨1, 0, d.r, []⟩ : SStepL) (.slice Ar d.r.length kr) (.slice none 0 0)) _ rfl (by intro _; simp [Instr.build, Instr.fill, Tryz.zeroValue90, go_sem]; rfl)) rfl ?_
  refine t1 10 rfl rfl ?_
  refine g_heap (m' := stH ⟨yp, pl, lb, le, sA, sk⟩ d.q ++ (dkT p A bv (ptrV yp) (.slice Ar d.r.length kr) told ++ rH (.slice Ar d.r.length kr) vs G d.r)) (fun _ hw => hw.pick [4, 5, 6, 7, 8, 0, 1, 2, 3] (by decide)) ?_; refine x_call (dst := some 26) (mc := stH ⟨yp, pl, lb, le, sA, sk⟩ d.q) (mr := dkT p A bv (ptrV yp) (.slice Ar d.r.length kr) told ++ rH (.slice Ar d.r.length kr) vs G d.r) (σ := (Value × Value) × Option Addr × Nat) (fun _ => True) (fun _ => .int .i64 c2) (fun z => stH ⟨yp, pl, z.1.1, z.1.2, z.2.1, z.2.2⟩ q2) rfl rfl rfl Tryz.call50 (fun w hw => hdo w (.slice Ar d.r.length kr) (.slice none 0 0) (res_part hw).1 (res_part hw).2 (IsRound.mono hw.apart ((keep_cut (Deeds.up _ _) (hw.partR (Keep G (Deeds vs d.r)) (by simp))).round (row_rds (hw.partR (Rw (.slice Ar d.r.length kr) 80 1 d.r.length vs) (by simp))))) (isInts_nil _)) rfl (fun z _ => ?_); obtain ⟨⟨lb2, le2⟩, sA2, sk2⟩ := z; dsimp only
  refine a_and (fun _ hw => by first | exact hw.cel 0 rfl (List.nil_sublist _) | exact hw.cel 5 rfl (List.nil_sublist _)) ?_
  refine t1 11 rfl rfl ?_
  refine g_heap (m' := dkT p A bv (ptrV yp) (.slice Ar d.r.length kr) told ++ (rH (.slice Ar d.r.length kr) vs G d.r ++ stH ⟨yp, pl, lb2, le2, sA2, sk2⟩ q2)) (fun _ hw => hw.pick [5, 6, 7, 8, 0, 1, 2, 3, 4] (by decide)) ?_; refine x_call (dst := some 27) (mc := dkT p A bv (ptrV yp) (.slice Ar d.r.length kr) told) (mr := (rH (.slice Ar d.r.length kr) vs G d.r ++ stH ⟨yp, pl, lb2, le2, sA2, sk2⟩ q2)) (σ := Value) (fun _ => True) (fun _ => .tuple #[]) (fun b' => dkT p (some ⟨p, 0, none⟩) b' (ptrV yp) (.slice Ar d.r.length kr) (told ++ tellCode c2)) rfl rfl rfl Tryz.call49 (fun w hw => code_spec p A bv (ptrV yp) (.slice Ar d.r.length kr) told c2 w hA (res_part hw).1 (res_part hw).2 (hL.part hw) hc2 (by omega)) rfl (fun b' _ => ?_)
  refine a_and (fun _ hw => by first | exact hw.cel 0 rfl (List.nil_sublist _) | exact hw.cel 5 rfl (List.nil_sublist _)) ?_
  refine td <| e_region <| wm rfl rfl <| wn rfl rfl <| w_val (v_fieldAddrB (o := 3) uT55 rfl rfl Tryz.nz37 rfl) rfl <| w_op rfl ?_
  refine x_store1 0 rfl rfl rfl Tryz.hi37 Tryz.cz37 rfl (by first | (simp; done) | (simp [intCells_len]; omega) | exact Nat.zero_lt_succ _) rfl ?_
  refine w_nil <| e_blk <| esr <| wa rfl rfl <| w_nil ?_
  refine e_retQ (q_ret1 rfl (.tmp rfl) ?_)
  refine fun w' hw' => ⟨⟨some ⟨p, 0, none⟩, b', .slice none 0 0, [], feet [], ⟨yp, pl, lb2, le2, sA2, sk2⟩⟩, ⟨.inr rfl, rfl⟩, rfl, ?_⟩
  exact (((hw'.keep0 (Deeds [] []) Deeds.nil).rowNil 80 1).pick [2, 3, 0, 1, 6, 7, 8, 9, 10] (by decide)).res
 ·have n0 := hk
  clear hk
  refine e_seq ?_
  refine e_test 31 (decide (wd = [115, 121, 110, 99] ∧ n.length = 0)) ?_ ?_
  ·refine e_region <| wm rfl rfl ?_
   refine w_valD (v_strEql rfl rfl) rfl (fun hg1 => ?_) (fun hg1 => ?_)
   ·refine wm rfl rfl <| w_want rfl rfl <| wm rfl rfl <| w_want rfl rfl <| w_val (v_lenS uT70 rfl) rfl <| w_want rfl rfl ?_
    refine w_valD (v_eql rfl rfl) rfl (fun hg5 => ?_) (fun hg5 => ?_)
    ·refine w_val (v_pickT rfl rfl) rfl <| wa rfl rfl <| w_nil ?_
     exact e_testEnd rfl (by first | exact (decide_eq_false (fun h => hg1 h.1)).symm | exact (decide_eq_true ⟨hg1, by omega⟩).symm | exact (decide_eq_false (fun h => hg5 (by have := h.2; omega))).symm) (by repeat (first | exact Sub.refl _ | exact Sub.nil _ | exact Sub.del _ _ | refine Sub.skip rfl ?_)) (fun _ hw => hw)
    ·refine w_val (v_pickT rfl rfl) rfl <| wa rfl rfl <| w_nil ?_
     exact e_testEnd rfl (by first | exact (decide_eq_false (fun h => hg1 h.1)).symm | exact (decide_eq_true ⟨hg1, by omega⟩).symm | exact (decide_eq_false (fun h => hg5 (by have := h.2; omega))).symm) (by repeat (first | exact Sub.refl _ | exact Sub.nil _ | exact Sub.del _ _ | refine Sub.skip rfl ?_)) (fun _ hw => hw)
   ·refine wm rfl rfl <| w_skip rfl rfl rfl rfl <| w_skip rfl rfl rfl rfl <| w_skip rfl rfl rfl rfl <| w_val (v_pickF rfl rfl) rfl <| wa rfl rfl <| w_nil ?_
    exact e_testEnd rfl (by first | exact (decide_eq_false (fun h => hg1 h.1)).symm | exact (decide_eq_true ⟨hg1, by omega⟩).symm | exact (decide_eq_false (fun h => hg5 (by have := h.2; omega))).symm) (by repeat (first | exact Sub.refl _ | exact Sub.nil _ | exact Sub.del _ _ | refine Sub.skip rfl ?_)) (fun _ hw => hw)
  refine e_condD rfl (fun hk => ?_) (fun hk => ?_)
  ·rw [show askL d wd n = some _ from by unfold askL; rw [if_neg n0, if_pos hk]]
   dsimp only [Option.isSome_some, Option.getD_some]
   have hc2 := code_in (q := d.q) (⟨2, 0, [], []⟩ : SStepL)
   have hdo := fun (w1 : World) (u pv : Value) h1 h2 (h3 : IsRound (SL.off w1 (feet (stH ⟨yp, pl, lb, le, sA, sk⟩ d.q))) u ((⟨2, 0, [], []⟩ : SStepL)).round) (h4 : IsInts (SL.off w1 (feet (stH ⟨yp, pl, lb, le, sA, sk⟩ d.q))) pv ((⟨2, 0, [], []⟩ : SStepL)).picks) => stDo_spec ⟨yp, pl, lb, le, sA, sk⟩ d.q (⟨2, 0, [], []⟩ : SStepL) u pv w1 h1 h2 hq h3 h4 (fun d hd => by cases hd)
   generalize doQ d.q (⟨2, 0, [], []⟩ : SStepL) = qc at *
   obtain ⟨q2, c2⟩ := qc
   dsimp only at hc2 hdo ⊢
   refine e_region <| wm rfl rfl <| wm rfl rfl <| wn rfl rfl <| w_val (v_fieldAddrB (o := 2) uT55 rfl rfl Tryz.nz48 rfl) rfl <| w_val (v_loadB 0 rfl uT48 rfl rfl rfl) rfl ?_
   refine w_val (v_build (v := sstV (⟨2, 0, [], []⟩ : SStepL) (.slice none 0 0) (.slice none 0 0)) _ rfl (by intro _; simp [Instr.build, Instr.fill, Tryz.zeroValue90, go_sem]; rfl)) rfl ?_
   refine w_op rfl ?_
   refine g_heap (m' := stH ⟨yp, pl, lb, le, sA, sk⟩ d.q ++ (dkT p A bv (ptrV yp) (.slice Ar d.r.length kr) told ++ rH (.slice Ar d.r.length kr) vs G d.r)) (fun _ hw => hw.pick [4, 5, 6, 7, 8, 0, 1, 2, 3] (by decide)) ?_; refine x_call (dst := some 45) (mc := stH ⟨yp, pl, lb, le, sA, sk⟩ d.q) (mr := dkT p A bv (ptrV yp) (.slice Ar d.r.length kr) told ++ rH (.slice Ar d.r.length kr) vs G d.r) (σ := (Value × Value) × Option Addr × Nat) (fun _ => True) (fun _ => .int .i64 c2) (fun z => stH ⟨yp, pl, z.1.1, z.1.2, z.2.1, z.2.2⟩ q2) rfl rfl rfl Tryz.call50 (fun w hw => hdo w (.slice none 0 0) (.slice none 0 0) (res_part hw).1 (res_part hw).2 (isRound_nil _) (isInts_nil _)) rfl (fun z _ => ?_); obtain ⟨⟨lb2, le2⟩, sA2, sk2⟩ := z; dsimp only
   refine w_op rfl ?_
   refine g_heap (m' := dkT p A bv (ptrV yp) (.slice Ar d.r.length kr) told ++ (rH (.slice Ar d.r.length kr) vs G d.r ++ stH ⟨yp, pl, lb2, le2, sA2, sk2⟩ q2)) (fun _ hw => hw.pick [5, 6, 7, 8, 0, 1, 2, 3, 4] (by decide)) ?_; refine x_call (dst := some 46) (mc := dkT p A bv (ptrV yp) (.slice Ar d.r.length kr) told) (mr := (rH (.slice Ar d.r.length kr) vs G d.r ++ stH ⟨yp, pl, lb2, le2, sA2, sk2⟩ q2)) (σ := Value) (fun _ => True) (fun _ => .tuple #[]) (fun b' => dkT p (some ⟨p, 0, none⟩) b' (ptrV yp) (.slice Ar d.r.length kr) (told ++ tellCode c2)) rfl rfl rfl Tryz.call49 (fun w hw => code_spec p A bv (ptrV yp) (.slice Ar d.r.length kr) told c2 w hA (res_part hw).1 (res_part hw).2 (hL.part hw) hc2 (by omega)) rfl (fun b' _ => ?_)
   refine w_nil <| e_blk <| esr <| wa rfl rfl <| w_nil ?_
   refine e_retQ (q_ret1 rfl (.tmp rfl) ?_)
   exact fun w' hw' => ⟨⟨some ⟨p, 0, none⟩, b', (.slice Ar d.r.length kr), vs, G, ⟨yp, pl, lb2, le2, sA2, sk2⟩⟩, ⟨.inr rfl, rfl⟩, rfl, hw'.res⟩
  ·have n1 := hk
   clear hk
   refine esr <| wm rfl rfl <| w_val (v_strEql rfl rfl) rfl <| wa rfl rfl <| w_nil ?_
   refine e_condD rfl (fun hk => ?_) (fun hk => ?_)
   ·rw [show askL d wd n = some _ from by unfold askL; rw [if_neg n0, if_neg n1, if_pos hk]]
    dsimp only [Option.isSome_some, Option.getD_some]
    have hc2 := code_in (q := d.q) (⟨3, 0, [], n⟩ : SStepL)
    have hdo := fun (w1 : World) (u pv : Value) h1 h2 (h3 : IsRound (SL.off w1 (feet (stH ⟨yp, pl, lb, le, sA, sk⟩ d.q))) u ((⟨3, 0, [], n⟩ : SStepL)).round) (h4 : IsInts (SL.off w1 (feet (stH ⟨yp, pl, lb, le, sA, sk⟩ d.q))) pv ((⟨3, 0, [], n⟩ : SStepL)).picks) => stDo_spec ⟨yp, pl, lb, le, sA, sk⟩ d.q (⟨3, 0, [], n⟩ : SStepL) u pv w1 h1 h2 hq h3 h4 (fun d hd => by cases hd)
    generalize doQ d.q (⟨3, 0, [], n⟩ : SStepL) = qc at *
    obtain ⟨q2, c2⟩ := qc
    dsimp only at hc2 hdo ⊢
    refine e_region <| wm rfl rfl <| wm rfl rfl <| wn rfl rfl <| w_val (v_fieldAddrB (o := 2) uT55 rfl rfl Tryz.nz48 rfl) rfl <| w_val (v_loadB 0 rfl uT48 rfl rfl rfl) rfl <| wm rfl rfl ?_
    refine w_val (v_build (v := sstV (⟨3, 0, [], n⟩ : SStepL) (.slice none 0 0) (.slice An n.length kn)) _ rfl (by intro _; simp [Instr.build, Instr.fill, Tryz.zeroValue90, go_sem]; rfl)) rfl ?_
    refine w_op rfl ?_
    refine g_heap (m' := stH ⟨yp, pl, lb, le, sA, sk⟩ d.q ++ (dkT p A bv (ptrV yp) (.slice Ar d.r.length kr) told ++ rH (.slice Ar d.r.length kr) vs G d.r)) (fun _ hw => hw.pick [4, 5, 6, 7, 8, 0, 1, 2, 3] (by decide)) ?_; refine x_call (dst := some 57) (mc := stH ⟨yp, pl, lb, le, sA, sk⟩ d.q) (mr := dkT p A bv (ptrV yp) (.slice Ar d.r.length kr) told ++ rH (.slice Ar d.r.length kr) vs G d.r) (σ := (Value × Value) × Option Addr × Nat) (fun _ => True) (fun _ => .int .i64 c2) (fun z => stH ⟨yp, pl, z.1.1, z.1.2, z.2.1, z.2.2⟩ q2) rfl rfl rfl Tryz.call50 (fun w hw => hdo w (.slice none 0 0) (.slice An n.length kn) (res_part hw).1 (res_part hw).2 (isRound_nil _) (Rds.mono (hw.offm (fun c hc => List.mem_append_left _ hc)) hn)) rfl (fun z _ => ?_); obtain ⟨⟨lb2, le2⟩, sA2, sk2⟩ := z; dsimp only
    refine w_op rfl ?_
    refine g_heap (m' := dkT p A bv (ptrV yp) (.slice Ar d.r.length kr) told ++ (rH (.slice Ar d.r.length kr) vs G d.r ++ stH ⟨yp, pl, lb2, le2, sA2, sk2⟩ q2)) (fun _ hw => hw.pick [5, 6, 7, 8, 0, 1, 2, 3, 4] (by decide)) ?_; refine x_call (dst := some 58) (mc := dkT p A bv (ptrV yp) (.slice Ar d.r.length kr) told) (mr := (rH (.slice Ar d.r.length kr) vs G d.r ++ stH ⟨yp, pl, lb2, le2, sA2, sk2⟩ q2)) (σ := Value) (fun _ => True) (fun _ => .tuple #[]) (fun b' => dkT p (some ⟨p, 0, none⟩) b' (ptrV yp) (.slice Ar d.r.length kr) (told ++ tellCode c2)) rfl rfl rfl Tryz.call49 (fun w hw => code_spec p A bv (ptrV yp) (.slice Ar d.r.length kr) told c2 w hA (res_part hw).1 (res_part hw).2 (hL.part hw) hc2 (by omega)) rfl (fun b' _ => ?_)
    refine w_nil <| e_blk <| esr <| wa rfl rfl <| w_nil ?_
    refine e_retQ (q_ret1 rfl (.tmp rfl) ?_)
    exact fun w' hw' => ⟨⟨some ⟨p, 0, none⟩, b', (.slice Ar d.r.length kr), vs, G, ⟨yp, pl, lb2, le2, sA2, sk2⟩⟩, ⟨.inr rfl, rfl⟩, rfl, hw'.res⟩
   ·have n2 := hk
    clear hk
    refine e_seq ?_
    refine e_test 59 (decide (wd = [99, 114, 97, 115, 104] ∧ n.length = 1)) ?_ ?_
    ·refine e_region <| wm rfl rfl ?_
     refine w_valD (v_strEql rfl rfl) rfl (fun hg1 => ?_) (fun hg1 => ?_)
     ·refine wm rfl rfl <| w_want rfl rfl <| wm rfl rfl <| w_want rfl rfl <| w_val (v_lenS uT70 rfl) rfl <| w_want rfl rfl ?_
      refine w_valD (v_eql rfl rfl) rfl (fun hg5 => ?_) (fun hg5 => ?_)
      ·refine w_val (v_pickT rfl rfl) rfl <| wa rfl rfl <| w_nil ?_
       exact e_testEnd rfl (by first | exact (decide_eq_false (fun h => hg1 h.1)).symm | exact (decide_eq_true ⟨hg1, by omega⟩).symm | exact (decide_eq_false (fun h => hg5 (by have := h.2; omega))).symm) (by repeat (first | exact Sub.refl _ | exact Sub.nil _ | exact Sub.del _ _ | refine Sub.skip rfl ?_)) (fun _ hw => hw)
      ·refine w_val (v_pickT rfl rfl) rfl <| wa rfl rfl <| w_nil ?_
       exact e_testEnd rfl (by first | exact (decide_eq_false (fun h => hg1 h.1)).symm | exact (decide_eq_true ⟨hg1, by omega⟩).symm | exact (decide_eq_false (fun h => hg5 (by have := h.2; omega))).symm) (by repeat (first | exact Sub.refl _ | exact Sub.nil _ | exact Sub.del _ _ | refine Sub.skip rfl ?_)) (fun _ hw => hw)
     ·refine wm rfl rfl <| w_skip rfl rfl rfl rfl <| w_skip rfl rfl rfl rfl <| w_skip rfl rfl rfl rfl <| w_val (v_pickF rfl rfl) rfl <| wa rfl rfl <| w_nil ?_
      exact e_testEnd rfl (by first | exact (decide_eq_false (fun h => hg1 h.1)).symm | exact (decide_eq_true ⟨hg1, by omega⟩).symm | exact (decide_eq_false (fun h => hg5 (by have := h.2; omega))).symm) (by repeat (first | exact Sub.refl _ | exact Sub.nil _ | exact Sub.del _ _ | refine Sub.skip rfl ?_)) (fun _ hw => hw)
    refine e_condD rfl (fun hk => ?_) (fun hk => ?_)
    ·rw [show askL d wd n = some _ from by unfold askL; rw [if_neg n0, if_neg n1, if_neg n2, if_pos hk]]
     dsimp only [Option.isSome_some, Option.getD_some]
     obtain ⟨z0, rfl⟩ : ∃ z0, n = [z0] := by match n, hk.2 with | [z0], _ => exact ⟨z0, rfl⟩
     obtain ⟨ad, rfl, hcl⟩ := hnc 0 (by simp)
     have hcell : SL.off w (feet (dkH p ⟨A, bv, (.slice Ar d.r.length kr), vs, G, ⟨yp, pl, lb, le, sA, sk⟩⟩ d told)) (ad.add ((0 : Int).toNat * 1)) = some (.int .i64 z0) := hcl
     rw [List.headD_cons]
     have hc2 := code_in (q := d.q) (⟨4, z0, [], []⟩ : SStepL)
     have hdo := fun (w1 : World) (u pv : Value) h1 h2 (h3 : IsRound (SL.off w1 (feet (stH ⟨yp, pl, lb, le, sA, sk⟩ d.q))) u ((⟨4, z0, [], []⟩ : SStepL)).round) (h4 : IsInts (SL.off w1 (feet (stH ⟨yp, pl, lb, le, sA, sk⟩ d.q))) pv ((⟨4, z0, [], []⟩ : SStepL)).picks) => stDo_spec ⟨yp, pl, lb, le, sA, sk⟩ d.q (⟨4, z0, [], []⟩ : SStepL) u pv w1 h1 h2 hq h3 h4 (fun d hd => by cases hd)
     generalize doQ d.q (⟨4, z0, [], []⟩ : SStepL) = qc at *
     obtain ⟨q2, c2⟩ := qc
     dsimp only at hc2 hdo ⊢
     refine e_draw ([Cel p (ptrV yp) (.slice Ar d.r.length kr)]) Tryz.mixed ?_
     refine a_take 0 pan_cx (by kernel_rfl) (fun _ hw => by first | exact hw.cel 0 rfl (List.nil_sublist _) | exact hw.cel 5 rfl (List.nil_sublist _)) rfl (by kernel_rfl) (by kernel_rfl) (v_move rfl) rfl ?_
     refine a_take 1 pan_cx (by kernel_rfl) (fun _ hw => by first | exact hw.cel 0 rfl (List.nil_sublist _) | exact hw.cel 5 rfl (List.nil_sublist _)) rfl (by kernel_rfl) (by kernel_rfl) (v_move rfl) rfl ?_
     refine a_take 2 pan_cx (by kernel_rfl) (fun _ hw => by first | exact hw.cel 0 rfl (List.nil_sublist _) | exact hw.cel 5 rfl (List.nil_sublist _)) rfl (by kernel_rfl) (by kernel_rfl) (v_nilCheck rfl) rfl ?_
     refine a_take 3 pan_cx (by kernel_rfl) (fun _ hw => by first | exact hw.cel 0 rfl (List.nil_sublist _) | exact hw.cel 5 rfl (List.nil_sublist _)) rfl (by kernel_rfl) (by kernel_rfl) (v_fieldAddrB (o := 2) uT55 rfl rfl Tryz.nz48 rfl) rfl ?_
     refine a_take 4 pan_cx (by kernel_rfl) (fun _ hw => by first | exact hw.cel 0 rfl (List.nil_sublist _) | exact hw.cel 5 rfl (List.nil_sublist _)) rfl (by kernel_rfl) (by kernel_rfl) (v_celS 0 rfl uT48 rfl rfl) rfl ?_
     refine a_take 5 pan_cx (by kernel_rfl) (fun _ hw => by first | exact hw.cel 0 rfl (List.nil_sublist _) | exact hw.cel 5 rfl (List.nil_sublist _)) rfl (by kernel_rfl) (by kernel_rfl) (v_move rfl) rfl ?_
     refine a_take 6 pan_cx (by kernel_rfl) (fun _ hw => by first | exact hw.cel 0 rfl (List.nil_sublist _) | exact hw.cel 5 rfl (List.nil_sublist _)) rfl (by kernel_rfl) (by kernel_rfl) (v_indexS uT70 Tryz.hi3 Tryz.cz3 rfl rfl (by first | omega | decide)) rfl ?_
     refine a_take 7 pan_cx (by kernel_rfl) (fun _ hw => by first | exact hw.cel 0 rfl (List.nil_sublist _) | exact hw.cel 5 rfl (List.nil_sublist _)) rfl (by kernel_rfl) (by kernel_rfl) (v_loadO uT3 rfl rfl (hcell)) rfl ?_
     refine a_take 8 pan_cx (by kernel_rfl) (fun _ hw => by first | exact hw.cel 0 rfl (List.nil_sublist _) | exact hw.cel 5 rfl (List.nil_sublist _)) rfl (by kernel_rfl) (by kernel_rfl) (v_build (v := sstV (⟨4, z0, [], []⟩ : SStepL) (.slice none 0 0) (.slice none 0 0)) _ rfl (by intro _; simp [Instr.build, Instr.fill, Tryz.zeroValue90, go_sem]; rfl)) rfl ?_
     refine t1 9 rfl rfl ?_
     refine g_heap (m' := stH ⟨yp, pl, lb, le, sA, sk⟩ d.q ++ (dkT p A bv (ptrV yp) (.slice Ar d.r.length kr) told ++ rH (.slice Ar d.r.length kr) vs G d.r)) (fun _ hw => hw.pick [4, 5, 6, 7, 8, 0, 1, 2, 3] (by decide)) ?_; refine x_call (dst := some 76) (mc := stH ⟨yp, pl, lb, le, sA, sk⟩ d.q) (mr := dkT p A bv (ptrV yp) (.slice Ar d.r.length kr) told ++ rH (.slice Ar d.r.length kr) vs G d.r) (σ := (Value × Value) × Option Addr × Nat) (fun _ => True) (fun _ => .int .i64 c2) (fun z => stH ⟨yp, pl, z.1.1, z.1.2, z.2.1, z.2.2⟩ q2) rfl rfl rfl Tryz.call50 (fun w hw => hdo w (.slice none 0 0) (.slice none 0 0) (res_part hw).1 (res_part hw).2 (isRound_nil _) (isInts_nil _)) rfl (fun z _ => ?_); obtain ⟨⟨lb2, le2⟩, sA2, sk2⟩ := z; dsimp only
     refine a_and (fun _ hw => by first | exact hw.cel 0 rfl (List.nil_sublist _) | exact hw.cel 5 rfl (List.nil_sublist _)) ?_
     refine t1 10 rfl rfl ?_
     refine g_heap (m' := dkT p A bv (ptrV yp) (.slice Ar d.r.length kr) told ++ (rH (.slice Ar d.r.length kr) vs G d.r ++ stH ⟨yp, pl, lb2, le2, sA2, sk2⟩ q2)) (fun _ hw => hw.pick [5, 6, 7, 8, 0, 1, 2, 3, 4] (by decide)) ?_; refine x_call (dst := some 77) (mc := dkT p A bv (ptrV yp) (.slice Ar d.r.length kr) told) (mr := (rH (.slice Ar d.r.length kr) vs G d.r ++ stH ⟨yp, pl, lb2, le2, sA2, sk2⟩ q2)) (σ := Value) (fun _ => True) (fun _ => .tuple #[]) (fun b' => dkT p (some ⟨p, 0, none⟩) b' (ptrV yp) (.slice Ar d.r.length kr) (told ++ tellCode c2)) rfl rfl rfl Tryz.call49 (fun w hw => code_spec p A bv (ptrV yp) (.slice Ar d.r.length kr) told c2 w hA (res_part hw).1 (res_part hw).2 (hL.part hw) hc2 (by omega)) rfl (fun b' _ => ?_)
     refine a_and (fun _ hw => by first | exact hw.cel 0 rfl (List.nil_sublist _) | exact hw.cel 5 rfl (List.nil_sublist _)) ?_
     refine td <| e_blk <| esr <| wa rfl rfl <| w_nil ?_
     refine e_retQ (q_ret1 rfl (.tmp rfl) ?_)
     exact fun w' hw' => ⟨⟨some ⟨p, 0, none⟩, b', (.slice Ar d.r.length kr), vs, G, ⟨yp, pl, lb2, le2, sA2, sk2⟩⟩, ⟨.inr rfl, rfl⟩, rfl, hw'.res⟩
    ·have n3 := hk
     clear hk
     refine e_seq ?_
     refine e_test 78 (decide (wd = [115, 116, 97, 116, 101] ∧ n.length = 0)) ?_ ?_
     ·refine e_region <| wm rfl rfl ?_
      refine w_valD (v_strEql rfl rfl) rfl (fun hg1 => ?_) (fun hg1 => ?_)
      ·refine wm rfl rfl <| w_want rfl rfl <| wm rfl rfl <| w_want rfl rfl <| w_val (v_lenS uT70 rfl) rfl <| w_want rfl rfl ?_
       refine w_valD (v_eql rfl rfl) rfl (fun hg5 => ?_) (fun hg5 => ?_)
       ·refine w_val (v_pickT rfl rfl) rfl <| wa rfl rfl <| w_nil ?_
        exact e_testEnd rfl (by first | exact (decide_eq_false (fun h => hg1 h.1)).symm | exact (decide_eq_true ⟨hg1, by omega⟩).symm | exact (decide_eq_false (fun h => hg5 (by have := h.2; omega))).symm) (by repeat (first | exact Sub.refl _ | exact Sub.nil _ | exact Sub.del _ _ | refine Sub.skip rfl ?_)) (fun _ hw => hw)
       ·refine w_val (v_pickT rfl rfl) rfl <| wa rfl rfl <| w_nil ?_
        exact e_testEnd rfl (by first | exact (decide_eq_false (fun h => hg1 h.1)).symm | exact (decide_eq_true ⟨hg1, by omega⟩).symm | exact (decide_eq_false (fun h => hg5 (by have := h.2; omega))).symm) (by repeat (first | exact Sub.refl _ | exact Sub.nil _ | exact Sub.del _ _ | refine Sub.skip rfl ?_)) (fun _ hw => hw)
      ·refine wm rfl rfl <| w_skip rfl rfl rfl rfl <| w_skip rfl rfl rfl rfl <| w_skip rfl rfl rfl rfl <| w_val (v_pickF rfl rfl) rfl <| wa rfl rfl <| w_nil ?_
       exact e_testEnd rfl (by first | exact (decide_eq_false (fun h => hg1 h.1)).symm | exact (decide_eq_true ⟨hg1, by omega⟩).symm | exact (decide_eq_false (fun h => hg5 (by have := h.2; omega))).symm) (by repeat (first | exact Sub.refl _ | exact Sub.nil _ | exact Sub.del _ _ | refine Sub.skip rfl ?_)) (fun _ hw => hw)
     refine e_condD rfl (fun hk => ?_) (fun hk => ?_)
     ·rw [show askL d wd n = some _ from by unfold askL; rw [if_neg n0, if_neg n1, if_neg n2, if_neg n3, if_pos hk]]
      dsimp only [Option.isSome_some, Option.getD_some]
      have hz := stL_len d.q.L d.q.dn
      have hzi := stL_in hq.inn d.q.dn
      have hll := longs_len hzi
      have hstate := fun (w1 : World) (h1 : StV w1.cell? ⟨yp, pl, lb, le, sA, sk⟩ d.q) => stState_spec ⟨yp, pl, lb, le, sA, sk⟩ d.q w1 h1
      unfold tellState
      refine esr <| wm rfl rfl <| wn rfl rfl <| w_val (v_fieldAddrB (o := 2) uT55 rfl rfl Tryz.nz48 rfl) rfl <| w_val (v_loadB 0 rfl uT48 rfl rfl rfl) rfl <| w_op rfl ?_
      refine x_call0 (v := intsV (stL d.q.L d.q.dn)) rfl rfl rfl Tryz.call51 rfl (fun w hw => hstate w (StV.of hw (fun c hc => List.mem_append_right _ hc))) ?_
      refine w_op rfl ?_
      refine x_alloc (z := .agg #[.int .i64 0, .int .i64 0, .int .i64 0, .int .i64 0, .int .i64 0, .int .i64 0, .int .i64 0, .int .i64 0, .int .i64 0, .int .i64 0]) (by intro w; exact Tryz.zeroValue32 w) rfl (fun b7 => ?_)
      refine w_op rfl ?_
      refine x_storeA (vs := (intCells (stL d.q.L d.q.dn)).toArray) 0 rfl rfl rfl Tryz.hi32 (Tryz.cz32.trans (by simp [intCells, hz])) (by simp [Value.cells, intCells, hz]) (one_intCells _) ?_
      refine wre <| wm rfl rfl ?_
      refine w_val (v_sliceArr uT32 (by decide) Tryz.hi2 Tryz.cz2 rfl) rfl ?_
      refine w_op rfl ?_
      refine x_call0 (v := strV (longsL (stL d.q.L d.q.dn))) rfl rfl rfl Tryz.call52 rfl (fun w hw => dkLongs_spec _ (stL d.q.L d.q.dn) w (ints_rds (hw.mem (i := 0) rfl) (fun j v hj => by simpa using hj) hz.symm) hzi (by omega) (hL.lai hw)) ?_
      refine w_val (v_strAdd rfl rfl (by simp only [lnA]; omega)) rfl ?_
      refine w_op rfl ?_
      refine x_buildSlice _ (strC [[115, 116, 97, 116, 101] ++ longsL (stL d.q.L d.q.dn)]) rfl (run_buildSlice uT22 Tryz.hi9 Tryz.cz9 Tryz.zeroValue9 rfl (by kernel_rfl)) rfl (fun b95 => ?_)
      refine w_op rfl ?_
      refine g_heap (m' := (dkT p A bv (ptrV yp) (.slice Ar d.r.length kr) (told) ++ [Chunk.blk b95 9 (strC [[115, 116, 97, 116, 101] ++ longsL (stL d.q.L d.q.dn)])]) ++ ([Chunk.blk b7 32 (intCells (stL d.q.L d.q.dn))] ++ (rH (.slice Ar d.r.length kr) vs G d.r ++ stH ⟨yp, pl, lb, le, sA, sk⟩ d.q))) (fun _ hw => hw.pick [2, 3, 0, 1, 4, 5, 6, 7, 8, 9, 10] (by decide)) ?_; refine x_call (dst := some 96) (mc := dkT p A bv (ptrV yp) (.slice Ar d.r.length kr) (told) ++ [Chunk.blk b95 9 (strC [[115, 116, 97, 116, 101] ++ longsL (stL d.q.L d.q.dn)])]) (mr := ([Chunk.blk b7 32 (intCells (stL d.q.L d.q.dn))] ++ (rH (.slice Ar d.r.length kr) vs G d.r ++ stH ⟨yp, pl, lb, le, sA, sk⟩ d.q))) (σ := Value) (fun _ => True) (fun _ => .tuple #[]) (fun b' => dkT p (some ⟨p, 0, none⟩) b' (ptrV yp) (.slice Ar d.r.length kr) ((told) ++ (Lib.join [[115, 116, 97, 116, 101] ++ longsL (stL d.q.L d.q.dn)] [32] ++ [10]))) rfl rfl rfl Tryz.call26 (fun w hw => say_spec p A bv (ptrV yp) (.slice Ar d.r.length kr) (told) b95 [[115, 116, 97, 116, 101] ++ longsL (stL d.q.L d.q.dn)] w hA (res_part hw).1 (res_part hw).2 (by simp) (by rw [join1]; simp only [lnA]; omega)) rfl (fun b' _ => ?_)
      refine w_nil <| e_blk <| esr <| wa rfl rfl <| w_nil ?_
      refine e_retQ (q_ret1 rfl (.tmp rfl) ?_)
      refine fun w' hw' => ⟨⟨some ⟨p, 0, none⟩, b', (.slice Ar d.r.length kr), vs, G, ⟨yp, pl, lb, le, sA, sk⟩⟩, ⟨.inr rfl, rfl⟩, rfl, ?_⟩
      have := (hw'.pick [0, 1, 3, 4, 5, 6, 7, 8, 9] (by decide)).res
      rw [join1] at this
      exact this
     ·have n4 := hk
      clear hk
      refine e_seq ?_
      refine e_test 97 (decide (wd = [108, 97, 115, 116] ∧ n.length = 0)) ?_ ?_
      ·refine e_region <| wm rfl rfl ?_
       refine w_valD (v_strEql rfl rfl) rfl (fun hg1 => ?_) (fun hg1 => ?_)
       ·refine wm rfl rfl <| w_want rfl rfl <| wm rfl rfl <| w_want rfl rfl <| w_val (v_lenS uT70 rfl) rfl <| w_want rfl rfl ?_
        refine w_valD (v_eql rfl rfl) rfl (fun hg5 => ?_) (fun hg5 => ?_)
        ·refine w_val (v_pickT rfl rfl) rfl <| wa rfl rfl <| w_nil ?_
         exact e_testEnd rfl (by first | exact (decide_eq_false (fun h => hg1 h.1)).symm | exact (decide_eq_true ⟨hg1, by omega⟩).symm | exact (decide_eq_false (fun h => hg5 (by have := h.2; omega))).symm) (by repeat (first | exact Sub.refl _ | exact Sub.nil _ | exact Sub.del _ _ | refine Sub.skip rfl ?_)) (fun _ hw => hw)
        ·refine w_val (v_pickT rfl rfl) rfl <| wa rfl rfl <| w_nil ?_
         exact e_testEnd rfl (by first | exact (decide_eq_false (fun h => hg1 h.1)).symm | exact (decide_eq_true ⟨hg1, by omega⟩).symm | exact (decide_eq_false (fun h => hg5 (by have := h.2; omega))).symm) (by repeat (first | exact Sub.refl _ | exact Sub.nil _ | exact Sub.del _ _ | refine Sub.skip rfl ?_)) (fun _ hw => hw)
       ·refine wm rfl rfl <| w_skip rfl rfl rfl rfl <| w_skip rfl rfl rfl rfl <| w_skip rfl rfl rfl rfl <| w_val (v_pickF rfl rfl) rfl <| wa rfl rfl <| w_nil ?_
        exact e_testEnd rfl (by first | exact (decide_eq_false (fun h => hg1 h.1)).symm | exact (decide_eq_true ⟨hg1, by omega⟩).symm | exact (decide_eq_false (fun h => hg5 (by have := h.2; omega))).symm) (by repeat (first | exact Sub.refl _ | exact Sub.nil _ | exact Sub.del _ _ | refine Sub.skip rfl ?_)) (fun _ hw => hw)
      refine e_condD rfl (fun hk => ?_) (fun hk => ?_)
      ·rw [show askL d wd n = some _ from by unfold askL; rw [if_neg n0, if_neg n1, if_neg n2, if_neg n3, if_neg n4, if_pos hk]]
       dsimp only [Option.isSome_some, Option.getD_some]
       refine e_region <| wm rfl rfl <| w_op rfl ?_
       refine g_heap (m' := dkT p A bv (ptrV yp) (.slice Ar d.r.length kr) told ++ (rH (.slice Ar d.r.length kr) vs G d.r ++ stH ⟨yp, pl, lb, le, sA, sk⟩ d.q)) (fun _ hw => hw) ?_; refine x_call (dst := some 106) (mc := dkT p A bv (ptrV yp) (.slice Ar d.r.length kr) told) (mr := (rH (.slice Ar d.r.length kr) vs G d.r ++ stH ⟨yp, pl, lb, le, sA, sk⟩ d.q)) (σ := Value × Unit) (fun _ => True) (fun _ => .tuple #[]) (fun b' => dkT p (some ⟨p, 0, none⟩) b'.1 (ptrV yp) (.slice Ar d.r.length kr) (told ++ ((lastL d.q.L d.q.dn).flatMap tellRes ++ tellEnd))) rfl rfl rfl Tryz.call53 (fun w hw => dkLast_spec p A bv (.slice Ar d.r.length kr) told ⟨yp, pl, lb, le, sA, sk⟩ d.q w hA (res_part hw).1 (res_part hw).2 (StV.aside (y := ⟨yp, pl, lb, le, sA, sk⟩) (q := d.q) hw (fun c hc => List.mem_append_right _ hc)) hq (hL.part hw) (by omega)) rfl (fun b' _ => ?_)
       refine w_nil <| e_blk <| esr <| wa rfl rfl <| w_nil ?_
       refine e_retQ (q_ret1 rfl (.tmp rfl) ?_)
       exact fun w' hw' => ⟨⟨some ⟨p, 0, none⟩, b'.1, (.slice Ar d.r.length kr), vs, G, ⟨yp, pl, lb, le, sA, sk⟩⟩, ⟨.inr rfl, rfl⟩, rfl, hw'.res⟩
      ·have n5 := hk
       clear hk
       refine e_seq ?_
       refine e_test 107 (decide (wd = [116, 104, 101, 110] ∧ n.length = 1)) ?_ ?_
       ·refine e_region <| wm rfl rfl ?_
        refine w_valD (v_strEql rfl rfl) rfl (fun hg1 => ?_) (fun hg1 => ?_)
        ·refine wm rfl rfl <| w_want rfl rfl <| wm rfl rfl <| w_want rfl rfl <| w_val (v_lenS uT70 rfl) rfl <| w_want rfl rfl ?_
         refine w_valD (v_eql rfl rfl) rfl (fun hg5 => ?_) (fun hg5 => ?_)
         ·refine w_val (v_pickT rfl rfl) rfl <| wa rfl rfl <| w_nil ?_
          exact e_testEnd rfl (by first | exact (decide_eq_false (fun h => hg1 h.1)).symm | exact (decide_eq_true ⟨hg1, by omega⟩).symm | exact (decide_eq_false (fun h => hg5 (by have := h.2; omega))).symm) (by repeat (first | exact Sub.refl _ | exact Sub.nil _ | exact Sub.del _ _ | refine Sub.skip rfl ?_)) (fun _ hw => hw)
         ·refine w_val (v_pickT rfl rfl) rfl <| wa rfl rfl <| w_nil ?_
          exact e_testEnd rfl (by first | exact (decide_eq_false (fun h => hg1 h.1)).symm | exact (decide_eq_true ⟨hg1, by omega⟩).symm | exact (decide_eq_false (fun h => hg5 (by have := h.2; omega))).symm) (by repeat (first | exact Sub.refl _ | exact Sub.nil _ | exact Sub.del _ _ | refine Sub.skip rfl ?_)) (fun _ hw => hw)
        ·refine wm rfl rfl <| w_skip rfl rfl rfl rfl <| w_skip rfl rfl rfl rfl <| w_skip rfl rfl rfl rfl <| w_val (v_pickF rfl rfl) rfl <| wa rfl rfl <| w_nil ?_
         exact e_testEnd rfl (by first | exact (decide_eq_false (fun h => hg1 h.1)).symm | exact (decide_eq_true ⟨hg1, by omega⟩).symm | exact (decide_eq_false (fun h => hg5 (by have := h.2; omega))).symm) (by repeat (first | exact Sub.refl _ | exact Sub.nil _ | exact Sub.del _ _ | refine Sub.skip rfl ?_)) (fun _ hw => hw)
       refine e_condD rfl (fun hk => ?_) (fun hk => ?_)
       ·rw [show askL d wd n = some _ from by unfold askL; rw [if_neg n0, if_neg n1, if_neg n2, if_neg n3, if_neg n4, if_neg n5, if_pos hk]]
        dsimp only [Option.isSome_some, Option.getD_some]
        obtain ⟨z0, rfl⟩ : ∃ z0, n = [z0] := by match n, hk.2 with | [z0], _ => exact ⟨z0, rfl⟩
        obtain ⟨ad, rfl, hcl⟩ := hnc 0 (by simp)
        have hcell : SL.off w (feet (dkH p ⟨A, bv, (.slice Ar d.r.length kr), vs, G, ⟨yp, pl, lb, le, sA, sk⟩⟩ d told)) (ad.add ((0 : Int).toNat * 1)) = some (.int .i64 z0) := hcl
        rw [List.headD_cons]
        refine e_region <| wm rfl rfl <| wm rfl rfl ?_
        refine w_val (v_indexS uT70 Tryz.hi3 Tryz.cz3 rfl rfl (by first | omega | decide)) rfl ?_
        refine w_val (v_loadO uT3 rfl rfl (hcell)) rfl <| w_op rfl ?_
        refine g_heap (m' := dkT p A bv (ptrV yp) (.slice Ar d.r.length kr) told ++ (rH (.slice Ar d.r.length kr) vs G d.r ++ stH ⟨yp, pl, lb, le, sA, sk⟩ d.q)) (fun _ hw => hw) ?_; refine x_call (dst := some 119) (mc := dkT p A bv (ptrV yp) (.slice Ar d.r.length kr) told) (mr := (rH (.slice Ar d.r.length kr) vs G d.r ++ stH ⟨yp, pl, lb, le, sA, sk⟩ d.q)) (σ := Value × Unit) (fun _ => True) (fun _ => .tuple #[]) (fun b' => dkT p (some ⟨p, 0, none⟩) b'.1 (ptrV yp) (.slice Ar d.r.length kr) (told ++ tellThen d.q.L z0)) rfl rfl rfl Tryz.call54 (fun w hw => dkThen_spec p A bv (.slice Ar d.r.length kr) told ⟨yp, pl, lb, le, sA, sk⟩ d.q z0 w hA (res_part hw).1 (res_part hw).2 (StV.aside (y := ⟨yp, pl, lb, le, sA, sk⟩) (q := d.q) hw (fun c hc => List.mem_append_right _ hc)) hq (hL.part hw) (by omega)) rfl (fun b' _ => ?_)
        refine w_nil <| e_blk <| esr <| wa rfl rfl <| w_nil ?_
        refine e_retQ (q_ret1 rfl (.tmp rfl) ?_)
        exact fun w' hw' => ⟨⟨some ⟨p, 0, none⟩, b'.1, (.slice Ar d.r.length kr), vs, G, ⟨yp, pl, lb, le, sA, sk⟩⟩, ⟨.inr rfl, rfl⟩, rfl, hw'.res⟩
       ·have n6 := hk
        clear hk
        refine e_seq ?_
        refine e_test 120 (decide (wd = [114, 111, 117, 110, 100] ∧ n.length = 1)) ?_ ?_
        ·refine e_region <| wm rfl rfl ?_
         refine w_valD (v_strEql rfl rfl) rfl (fun hg1 => ?_) (fun hg1 => ?_)
         ·refine wm rfl rfl <| w_want rfl rfl <| wm rfl rfl <| w_want rfl rfl <| w_val (v_lenS uT70 rfl) rfl <| w_want rfl rfl ?_
          refine w_valD (v_eql rfl rfl) rfl (fun hg5 => ?_) (fun hg5 => ?_)
          ·refine w_val (v_pickT rfl rfl) rfl <| wa rfl rfl <| w_nil ?_
           exact e_testEnd rfl (by first | exact (decide_eq_false (fun h => hg1 h.1)).symm | exact (decide_eq_true ⟨hg1, by omega⟩).symm | exact (decide_eq_false (fun h => hg5 (by have := h.2; omega))).symm) (by repeat (first | exact Sub.refl _ | exact Sub.nil _ | exact Sub.del _ _ | refine Sub.skip rfl ?_)) (fun _ hw => hw)
          ·refine w_val (v_pickT rfl rfl) rfl <| wa rfl rfl <| w_nil ?_
           exact e_testEnd rfl (by first | exact (decide_eq_false (fun h => hg1 h.1)).symm | exact (decide_eq_true ⟨hg1, by omega⟩).symm | exact (decide_eq_false (fun h => hg5 (by have := h.2; omega))).symm) (by repeat (first | exact Sub.refl _ | exact Sub.nil _ | exact Sub.del _ _ | refine Sub.skip rfl ?_)) (fun _ hw => hw)
         ·refine wm rfl rfl <| w_skip rfl rfl rfl rfl <| w_skip rfl rfl rfl rfl <| w_skip rfl rfl rfl rfl <| w_val (v_pickF rfl rfl) rfl <| wa rfl rfl <| w_nil ?_
          exact e_testEnd rfl (by first | exact (decide_eq_false (fun h => hg1 h.1)).symm | exact (decide_eq_true ⟨hg1, by omega⟩).symm | exact (decide_eq_false (fun h => hg5 (by have := h.2; omega))).symm) (by repeat (first | exact Sub.refl _ | exact Sub.nil _ | exact Sub.del _ _ | refine Sub.skip rfl ?_)) (fun _ hw => hw)
        refine e_condD rfl (fun hk => ?_) (fun hk => ?_)
        ·rw [show askL d wd n = some _ from by unfold askL; rw [if_neg n0, if_neg n1, if_neg n2, if_neg n3, if_neg n4, if_neg n5, if_neg n6, if_pos hk]]
         dsimp only [Option.isSome_some, Option.getD_some]
         obtain ⟨z0, rfl⟩ : ∃ z0, n = [z0] := by match n, hk.2 with | [z0], _ => exact ⟨z0, rfl⟩
         obtain ⟨ad, rfl, hcl⟩ := hnc 0 (by simp)
         have hcell : SL.off w (feet (dkH p ⟨A, bv, (.slice Ar d.r.length kr), vs, G, ⟨yp, pl, lb, le, sA, sk⟩⟩ d told)) (ad.add ((0 : Int).toNat * 1)) = some (.int .i64 z0) := hcl
         rw [List.headD_cons]
         refine e_region <| wm rfl rfl <| wm rfl rfl ?_
         refine w_val (v_indexS uT70 Tryz.hi3 Tryz.cz3 rfl rfl (by first | omega | decide)) rfl ?_
         refine w_val (v_loadO uT3 rfl rfl (hcell)) rfl <| w_op rfl ?_
         refine g_heap (m' := dkT p A bv (ptrV yp) (.slice Ar d.r.length kr) told ++ (rH (.slice Ar d.r.length kr) vs G d.r ++ stH ⟨yp, pl, lb, le, sA, sk⟩ d.q)) (fun _ hw => hw) ?_; refine x_call (dst := some 132) (mc := dkT p A bv (ptrV yp) (.slice Ar d.r.length kr) told) (mr := (rH (.slice Ar d.r.length kr) vs G d.r ++ stH ⟨yp, pl, lb, le, sA, sk⟩ d.q)) (σ := Value × Unit) (fun _ => True) (fun _ => .tuple #[]) (fun b' => dkT p (some ⟨p, 0, none⟩) b'.1 (ptrV yp) (.slice Ar d.r.length kr) (told ++ tellRound d.q.L z0)) rfl rfl rfl Tryz.call55 (fun w hw => dkRound_spec p A bv (.slice Ar d.r.length kr) told ⟨yp, pl, lb, le, sA, sk⟩ d.q z0 w hA (res_part hw).1 (res_part hw).2 (StV.aside (y := ⟨yp, pl, lb, le, sA, sk⟩) (q := d.q) hw (fun c hc => List.mem_append_right _ hc)) hq (hL.part hw) (by omega)) rfl (fun b' _ => ?_)
         refine w_nil <| e_blk <| esr <| wa rfl rfl <| w_nil ?_
         refine e_retQ (q_ret1 rfl (.tmp rfl) ?_)
         exact fun w' hw' => ⟨⟨some ⟨p, 0, none⟩, b'.1, (.slice Ar d.r.length kr), vs, G, ⟨yp, pl, lb, le, sA, sk⟩⟩, ⟨.inr rfl, rfl⟩, rfl, hw'.res⟩
        ·have n7 := hk
         clear hk
         refine e_seq ?_
         refine e_test 133 (decide (wd = [109, 97, 110, 121] ∧ n.length = 0)) ?_ ?_
         ·refine e_region <| wm rfl rfl ?_
          refine w_valD (v_strEql rfl rfl) rfl (fun hg1 => ?_) (fun hg1 => ?_)
          ·refine wm rfl rfl <| w_want rfl rfl <| wm rfl rfl <| w_want rfl rfl <| w_val (v_lenS uT70 rfl) rfl <| w_want rfl rfl ?_
           refine w_valD (v_eql rfl rfl) rfl (fun hg5 => ?_) (fun hg5 => ?_)
           ·refine w_val (v_pickT rfl rfl) rfl <| wa rfl rfl <| w_nil ?_
            exact e_testEnd rfl (by first | exact (decide_eq_false (fun h => hg1 h.1)).symm | exact (decide_eq_true ⟨hg1, by omega⟩).symm | exact (decide_eq_false (fun h => hg5 (by have := h.2; omega))).symm) (by repeat (first | exact Sub.refl _ | exact Sub.nil _ | exact Sub.del _ _ | refine Sub.skip rfl ?_)) (fun _ hw => hw)
           ·refine w_val (v_pickT rfl rfl) rfl <| wa rfl rfl <| w_nil ?_
            exact e_testEnd rfl (by first | exact (decide_eq_false (fun h => hg1 h.1)).symm | exact (decide_eq_true ⟨hg1, by omega⟩).symm | exact (decide_eq_false (fun h => hg5 (by have := h.2; omega))).symm) (by repeat (first | exact Sub.refl _ | exact Sub.nil _ | exact Sub.del _ _ | refine Sub.skip rfl ?_)) (fun _ hw => hw)
          ·refine wm rfl rfl <| w_skip rfl rfl rfl rfl <| w_skip rfl rfl rfl rfl <| w_skip rfl rfl rfl rfl <| w_val (v_pickF rfl rfl) rfl <| wa rfl rfl <| w_nil ?_
           exact e_testEnd rfl (by first | exact (decide_eq_false (fun h => hg1 h.1)).symm | exact (decide_eq_true ⟨hg1, by omega⟩).symm | exact (decide_eq_false (fun h => hg5 (by have := h.2; omega))).symm) (by repeat (first | exact Sub.refl _ | exact Sub.nil _ | exact Sub.del _ _ | refine Sub.skip rfl ?_)) (fun _ hw => hw)
         refine e_condD rfl (fun hk => ?_) (fun hk => ?_)
         ·rw [show askL d wd n = some _ from by unfold askL; rw [if_neg n0, if_neg n1, if_neg n2, if_neg n3, if_neg n4, if_neg n5, if_neg n6, if_neg n7, if_pos hk]]
          dsimp only [Option.isSome_some, Option.getD_some]
          have h25 := hq.log.len
          have hkl := hq.log.sure
          have hdk := hq.dn
          have i0 : In64 (d.q.L.length : Int) := by unfold In64; omega
          have i1 : In64 (d.q.k : Int) := by unfold In64; omega
          have i2 : In64 (d.q.dn : Int) := by unfold In64; omega
          have j0 := itoa_len i0
          have j1 := itoa_len i1
          have j2 := itoa_len i2
          refine e_draw ([Cel p (ptrV yp) (.slice Ar d.r.length kr), stB ⟨yp, pl, lb, le, sA, sk⟩ d.q]) Tryz.mixed ?_
          refine a_take 0 pan_cx (by kernel_rfl) (fun _ hw => by first | exact hw.cel 0 rfl (by repeat first | exact .slnil | exact .refl _ | apply List.Sublist.cons_cons | apply List.Sublist.cons) | exact hw.cel 1 rfl (by repeat first | exact .slnil | exact .refl _ | apply List.Sublist.cons_cons | apply List.Sublist.cons)) rfl (by kernel_rfl) (by kernel_rfl) (v_move rfl) rfl ?_
          refine a_take 1 pan_cx (by kernel_rfl) (fun _ hw => by first | exact hw.cel 0 rfl (by repeat first | exact .slnil | exact .refl _ | apply List.Sublist.cons_cons | apply List.Sublist.cons) | exact hw.cel 1 rfl (by repeat first | exact .slnil | exact .refl _ | apply List.Sublist.cons_cons | apply List.Sublist.cons)) rfl (by kernel_rfl) (by kernel_rfl) (v_move rfl) rfl ?_
          refine a_take 2 pan_cx (by kernel_rfl) (fun _ hw => by first | exact hw.cel 0 rfl (by repeat first | exact .slnil | exact .refl _ | apply List.Sublist.cons_cons | apply List.Sublist.cons) | exact hw.cel 1 rfl (by repeat first | exact .slnil | exact .refl _ | apply List.Sublist.cons_cons | apply List.Sublist.cons)) rfl (by kernel_rfl) (by kernel_rfl) (v_nilCheck rfl) rfl ?_
          refine a_take 3 pan_cx (by kernel_rfl) (fun _ hw => by first | exact hw.cel 0 rfl (by repeat first | exact .slnil | exact .refl _ | apply List.Sublist.cons_cons | apply List.Sublist.cons) | exact hw.cel 1 rfl (by repeat first | exact .slnil | exact .refl _ | apply List.Sublist.cons_cons | apply List.Sublist.cons)) rfl (by kernel_rfl) (by kernel_rfl) (v_fieldAddrB (o := 2) uT55 rfl rfl Tryz.nz48 rfl) rfl ?_
          refine a_take 4 pan_cx (by kernel_rfl) (fun _ hw => by first | exact hw.cel 0 rfl (by repeat first | exact .slnil | exact .refl _ | apply List.Sublist.cons_cons | apply List.Sublist.cons) | exact hw.cel 1 rfl (by repeat first | exact .slnil | exact .refl _ | apply List.Sublist.cons_cons | apply List.Sublist.cons)) rfl (by kernel_rfl) (by kernel_rfl) (v_celS 0 rfl uT48 rfl rfl) rfl ?_
          refine a_take 5 pan_cx (by kernel_rfl) (fun _ hw => by first | exact hw.cel 0 rfl (by repeat first | exact .slnil | exact .refl _ | apply List.Sublist.cons_cons | apply List.Sublist.cons) | exact hw.cel 1 rfl (by repeat first | exact .slnil | exact .refl _ | apply List.Sublist.cons_cons | apply List.Sublist.cons)) rfl (by kernel_rfl) (by kernel_rfl) (v_nilCheck rfl) rfl ?_
          refine a_take 6 pan_cx (by kernel_rfl) (fun _ hw => by first | exact hw.cel 0 rfl (by repeat first | exact .slnil | exact .refl _ | apply List.Sublist.cons_cons | apply List.Sublist.cons) | exact hw.cel 1 rfl (by repeat first | exact .slnil | exact .refl _ | apply List.Sublist.cons_cons | apply List.Sublist.cons)) rfl (by kernel_rfl) (by kernel_rfl) (v_fieldAddrB (o := 0) uT63 rfl rfl Tryz.nz60 rfl) rfl ?_
          refine a_take 7 pan_cx (by kernel_rfl) (fun _ hw => by first | exact hw.cel 0 rfl (by repeat first | exact .slnil | exact .refl _ | apply List.Sublist.cons_cons | apply List.Sublist.cons) | exact hw.cel 1 rfl (by repeat first | exact .slnil | exact .refl _ | apply List.Sublist.cons_cons | apply List.Sublist.cons)) rfl (by kernel_rfl) (by kernel_rfl) (v_loadB 1 rfl uT60 rfl rfl rfl) rfl ?_
          refine a_take 10 pan_cx (by kernel_rfl) (fun _ hw => by first | exact hw.cel 0 rfl (by repeat first | exact .slnil | exact .refl _ | apply List.Sublist.cons_cons | apply List.Sublist.cons) | exact hw.cel 1 rfl (by repeat first | exact .slnil | exact .refl _ | apply List.Sublist.cons_cons | apply List.Sublist.cons)) rfl (by kernel_rfl) (by kernel_rfl) (v_move rfl) rfl ?_
          refine a_take 11 pan_cx (by kernel_rfl) (fun _ hw => by first | exact hw.cel 0 rfl (by repeat first | exact .slnil | exact .refl _ | apply List.Sublist.cons_cons | apply List.Sublist.cons) | exact hw.cel 1 rfl (by repeat first | exact .slnil | exact .refl _ | apply List.Sublist.cons_cons | apply List.Sublist.cons)) rfl (by kernel_rfl) (by kernel_rfl) (v_nilCheck rfl) rfl ?_
          refine a_take 12 pan_cx (by kernel_rfl) (fun _ hw => by first | exact hw.cel 0 rfl (by repeat first | exact .slnil | exact .refl _ | apply List.Sublist.cons_cons | apply List.Sublist.cons) | exact hw.cel 1 rfl (by repeat first | exact .slnil | exact .refl _ | apply List.Sublist.cons_cons | apply List.Sublist.cons)) rfl (by kernel_rfl) (by kernel_rfl) (v_fieldAddrB (o := 2) uT55 rfl rfl Tryz.nz48 rfl) rfl ?_
          refine a_take 13 pan_cx (by kernel_rfl) (fun _ hw => by first | exact hw.cel 0 rfl (by repeat first | exact .slnil | exact .refl _ | apply List.Sublist.cons_cons | apply List.Sublist.cons) | exact hw.cel 1 rfl (by repeat first | exact .slnil | exact .refl _ | apply List.Sublist.cons_cons | apply List.Sublist.cons)) rfl (by kernel_rfl) (by kernel_rfl) (v_celS 0 rfl uT48 rfl rfl) rfl ?_
          refine a_take 14 pan_cx (by kernel_rfl) (fun _ hw => by first | exact hw.cel 0 rfl (by repeat first | exact .slnil | exact .refl _ | apply List.Sublist.cons_cons | apply List.Sublist.cons) | exact hw.cel 1 rfl (by repeat first | exact .slnil | exact .refl _ | apply List.Sublist.cons_cons | apply List.Sublist.cons)) rfl (by kernel_rfl) (by kernel_rfl) (v_nilCheck rfl) rfl ?_
          refine a_take 15 pan_cx (by kernel_rfl) (fun _ hw => by first | exact hw.cel 0 rfl (by repeat first | exact .slnil | exact .refl _ | apply List.Sublist.cons_cons | apply List.Sublist.cons) | exact hw.cel 1 rfl (by repeat first | exact .slnil | exact .refl _ | apply List.Sublist.cons_cons | apply List.Sublist.cons)) rfl (by kernel_rfl) (by kernel_rfl) (v_fieldAddrB (o := 0) uT63 rfl rfl Tryz.nz60 rfl) rfl ?_
          refine a_take 16 pan_cx (by kernel_rfl) (fun _ hw => by first | exact hw.cel 0 rfl (by repeat first | exact .slnil | exact .refl _ | apply List.Sublist.cons_cons | apply List.Sublist.cons) | exact hw.cel 1 rfl (by repeat first | exact .slnil | exact .refl _ | apply List.Sublist.cons_cons | apply List.Sublist.cons)) rfl (by kernel_rfl) (by kernel_rfl) (v_loadB 1 rfl uT60 rfl rfl rfl) rfl ?_
          refine a_take 19 pan_cx (by kernel_rfl) (fun _ hw => by first | exact hw.cel 0 rfl (by repeat first | exact .slnil | exact .refl _ | apply List.Sublist.cons_cons | apply List.Sublist.cons) | exact hw.cel 1 rfl (by repeat first | exact .slnil | exact .refl _ | apply List.Sublist.cons_cons | apply List.Sublist.cons)) rfl (by kernel_rfl) (by kernel_rfl) (v_move rfl) rfl ?_
          refine a_take 20 pan_cx (by kernel_rfl) (fun _ hw => by first | exact hw.cel 0 rfl (by repeat first | exact .slnil | exact .refl _ | apply List.Sublist.cons_cons | apply List.Sublist.cons) | exact hw.cel 1 rfl (by repeat first | exact .slnil | exact .refl _ | apply List.Sublist.cons_cons | apply List.Sublist.cons)) rfl (by kernel_rfl) (by kernel_rfl) (v_nilCheck rfl) rfl ?_
          refine a_take 21 pan_cx (by kernel_rfl) (fun _ hw => by first | exact hw.cel 0 rfl (by repeat first | exact .slnil | exact .refl _ | apply List.Sublist.cons_cons | apply List.Sublist.cons) | exact hw.cel 1 rfl (by repeat first | exact .slnil | exact .refl _ | apply List.Sublist.cons_cons | apply List.Sublist.cons)) rfl (by kernel_rfl) (by kernel_rfl) (v_fieldAddrB (o := 2) uT55 rfl rfl Tryz.nz48 rfl) rfl ?_
          refine a_take 22 pan_cx (by kernel_rfl) (fun _ hw => by first | exact hw.cel 0 rfl (by repeat first | exact .slnil | exact .refl _ | apply List.Sublist.cons_cons | apply List.Sublist.cons) | exact hw.cel 1 rfl (by repeat first | exact .slnil | exact .refl _ | apply List.Sublist.cons_cons | apply List.Sublist.cons)) rfl (by kernel_rfl) (by kernel_rfl) (v_celS 0 rfl uT48 rfl rfl) rfl ?_
          refine t1 8 rfl rfl ?_
          refine x_call0 (v := .int .i64 (d.q.L.length : Int)) rfl rfl rfl Tryz.call56 rfl (fun w hw => logLen_spec pl lb le d.q.L d.q.k w (StV.of (y := ⟨yp, pl, lb, le, sA, sk⟩) (q := d.q) hw (fun c hc => List.mem_append_right _ hc)).lg) ?_
          refine a_and (fun _ hw => by first | exact hw.cel 0 rfl (by repeat first | exact .slnil | exact .refl _ | apply List.Sublist.cons_cons | apply List.Sublist.cons) | exact hw.cel 1 rfl (by repeat first | exact .slnil | exact .refl _ | apply List.Sublist.cons_cons | apply List.Sublist.cons)) ?_
          refine t1 9 rfl rfl ?_
          refine x_call0 (v := strV (Lib.itoa (d.q.L.length : Int))) rfl rfl rfl Tryz.call25 rfl (fun w hw => dkNum_spec _ w i0 (hL.lai hw)) ?_
          refine a_and (fun _ hw => by first | exact hw.cel 0 rfl (by repeat first | exact .slnil | exact .refl _ | apply List.Sublist.cons_cons | apply List.Sublist.cons) | exact hw.cel 1 rfl (by repeat first | exact .slnil | exact .refl _ | apply List.Sublist.cons_cons | apply List.Sublist.cons)) ?_
          refine t1 17 rfl rfl ?_
          refine x_call0 (v := .int .i64 (d.q.k : Int)) rfl rfl rfl Tryz.call57 rfl (fun w hw => logSure_spec pl lb le d.q.L d.q.k w (StV.of (y := ⟨yp, pl, lb, le, sA, sk⟩) (q := d.q) hw (fun c hc => List.mem_append_right _ hc)).lg h25 hkl) ?_
          refine a_and (fun _ hw => by first | exact hw.cel 0 rfl (by repeat first | exact .slnil | exact .refl _ | apply List.Sublist.cons_cons | apply List.Sublist.cons) | exact hw.cel 1 rfl (by repeat first | exact .slnil | exact .refl _ | apply List.Sublist.cons_cons | apply List.Sublist.cons)) ?_
          refine t1 18 rfl rfl ?_
          refine x_call0 (v := strV (Lib.itoa (d.q.k : Int))) rfl rfl rfl Tryz.call25 rfl (fun w hw => dkNum_spec _ w i1 (hL.lai hw)) ?_
          refine a_and (fun _ hw => by first | exact hw.cel 0 rfl (by repeat first | exact .slnil | exact .refl _ | apply List.Sublist.cons_cons | apply List.Sublist.cons) | exact hw.cel 1 rfl (by repeat first | exact .slnil | exact .refl _ | apply List.Sublist.cons_cons | apply List.Sublist.cons)) ?_
          refine t1 23 rfl rfl ?_
          refine x_call0 (v := .int .i64 (d.q.dn : Int)) rfl rfl rfl Tryz.call58 rfl (fun w hw => stDone_spec ⟨yp, pl, lb, le, sA, sk⟩ d.q w (StV.of (y := ⟨yp, pl, lb, le, sA, sk⟩) (q := d.q) hw (fun c hc => List.mem_append_right _ hc))) ?_
          refine a_and (fun _ hw => by first | exact hw.cel 0 rfl (by repeat first | exact .slnil | exact .refl _ | apply List.Sublist.cons_cons | apply List.Sublist.cons) | exact hw.cel 1 rfl (by repeat first | exact .slnil | exact .refl _ | apply List.Sublist.cons_cons | apply List.Sublist.cons)) ?_
          refine t1 24 rfl rfl ?_
          refine x_call0 (v := strV (Lib.itoa (d.q.dn : Int))) rfl rfl rfl Tryz.call25 rfl (fun w hw => dkNum_spec _ w i2 (hL.lai hw)) ?_
          refine a_and (fun _ hw => by first | exact hw.cel 0 rfl (by repeat first | exact .slnil | exact .refl _ | apply List.Sublist.cons_cons | apply List.Sublist.cons) | exact hw.cel 1 rfl (by repeat first | exact .slnil | exact .refl _ | apply List.Sublist.cons_cons | apply List.Sublist.cons)) ?_
          refine t1 25 rfl rfl ?_
          refine x_buildSlice _ (strC [[109, 97, 110, 121], Lib.itoa (d.q.L.length : Int), Lib.itoa (d.q.k : Int), Lib.itoa (d.q.dn : Int)]) rfl (run_buildSlice uT22 Tryz.hi9 Tryz.cz9 Tryz.zeroValue9 rfl (by kernel_rfl)) rfl (fun b166 => ?_)
          refine a_and (fun _ hw => by first | exact hw.cel 0 rfl (by repeat first | exact .slnil | exact .refl _ | apply List.Sublist.cons_cons | apply List.Sublist.cons) | exact hw.cel 1 rfl (by repeat first | exact .slnil | exact .refl _ | apply List.Sublist.cons_cons | apply List.Sublist.cons)) ?_
          refine t1 26 rfl rfl ?_
          refine g_heap (m' := (dkT p A bv (ptrV yp) (.slice Ar d.r.length kr) (told) ++ [Chunk.blk b166 9 (strC [[109, 97, 110, 121], Lib.itoa (d.q.L.length : Int), Lib.itoa (d.q.k : Int), Lib.itoa (d.q.dn : Int)])]) ++ (rH (.slice Ar d.r.length kr) vs G d.r ++ stH ⟨yp, pl, lb, le, sA, sk⟩ d.q)) (fun _ hw => hw.pick [1, 2, 0, 3, 4, 5, 6, 7, 8, 9] (by decide)) ?_; refine x_call (dst := some 167) (mc := dkT p A bv (ptrV yp) (.slice Ar d.r.length kr) (told) ++ [Chunk.blk b166 9 (strC [[109, 97, 110, 121], Lib.itoa (d.q.L.length : Int), Lib.itoa (d.q.k : Int), Lib.itoa (d.q.dn : Int)])]) (mr := (rH (.slice Ar d.r.length kr) vs G d.r ++ stH ⟨yp, pl, lb, le, sA, sk⟩ d.q)) (σ := Value) (fun _ => True) (fun _ => .tuple #[]) (fun b' => dkT p (some ⟨p, 0, none⟩) b' (ptrV yp) (.slice Ar d.r.length kr) ((told) ++ (Lib.join [[109, 97, 110, 121], Lib.itoa (d.q.L.length : Int), Lib.itoa (d.q.k : Int), Lib.itoa (d.q.dn : Int)] [32] ++ [10]))) rfl rfl rfl Tryz.call26 (fun w hw => say_spec p A bv (ptrV yp) (.slice Ar d.r.length kr) (told) b166 [[109, 97, 110, 121], Lib.itoa (d.q.L.length : Int), Lib.itoa (d.q.k : Int), Lib.itoa (d.q.dn : Int)] w hA (res_part hw).1 (res_part hw).2 (by simp) (by rw [join4]; simp only [lnA]; omega)) rfl (fun b' _ => ?_)
          refine a_and (fun _ hw => by first | exact hw.cel 0 rfl (by repeat first | exact .slnil | exact .refl _ | apply List.Sublist.cons_cons | apply List.Sublist.cons) | exact hw.cel 1 rfl (by repeat first | exact .slnil | exact .refl _ | apply List.Sublist.cons_cons | apply List.Sublist.cons)) ?_
          refine td <| e_blk <| esr <| wa rfl rfl <| w_nil ?_
          refine e_retQ (q_ret1 rfl (.tmp rfl) ?_)
          refine fun w' hw' => ⟨⟨some ⟨p, 0, none⟩, b', (.slice Ar d.r.length kr), vs, G, ⟨yp, pl, lb, le, sA, sk⟩⟩, ⟨.inr rfl, rfl⟩, rfl, ?_⟩
          have := hw'.res
          rw [join4] at this
          exact this
         ·have n8 := hk
          clear hk
          rw [show askL d wd n = none from by unfold askL; rw [if_neg n0, if_neg n1, if_neg n2, if_neg n3, if_neg n4, if_neg n5, if_neg n6, if_neg n7, if_neg n8]]
          refine esr <| wa rfl rfl <| w_nil ?_
          refine e_retQ (q_ret1 rfl (.tmp rfl) ?_)
          refine fun w' hw' => ⟨⟨A, bv, (.slice Ar d.r.length kr), vs, G, ⟨yp, pl, lb, le, sA, sk⟩⟩, ⟨hA, rfl⟩, rfl, ?_⟩
          rw [Option.getD_none, List.append_nil]
          exact hw'.res
end Go.SL
end
