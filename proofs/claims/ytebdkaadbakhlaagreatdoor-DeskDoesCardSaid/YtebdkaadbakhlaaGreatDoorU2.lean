/- YtebdkaadbakhlaaGreatDoor: part U2 of this seat's own texts. -/
import Derived.Test.YtebdkaadbakhlaaGreatDoorU1
import Derived.Test.YtebdkaadbakhlaaGreatDoorW2
set_option linter.unusedVariables false
set_option linter.unusedSimpArgs false
section
open Go Go.Proofs Go.SL
set_option maxRecDepth 100000
namespace Go.SL
theorem gt_st (l : List Int) (i x : Int) (k : Nat) : gt (st l i x) k = if i.toNat = k ∧ k < l.length then x else gt l k := by
 simp only [gt, st, List.getD, Int.toNat_natCast, List.getElem?_set]
 by_cases h1 : i.toNat = k
 ·by_cases h2 : k < l.length
  ·simp [h1, h2]
  ·simp [h1, h2]
 ·simp [h1]
theorem gt_nat (l : List Int) (i : Int) : gt l ((i.toNat : Nat) : Int) = gt l i := by simp only [gt, Int.toNat_natCast]
structure Rel (L : Nat → Prop) (s t s1 t1 : List Int) : Prop where
 len : s1.length = t1.length
 key : ∀ k : Nat, gt s1 k = gt t1 k ∨ (gt s1 k = gt s k ∧ gt t1 k = gt t k ∧ ¬ L k)
theorem Rel.store {L : Nat → Prop} {s t s1 t1 : List Int} (h : Rel L s t s1 t1) (i x : Int) : Rel L s t (st s1 i x) (st t1 i x) := by
 refine ⟨by simp [st, h.len], fun k => ?_⟩
 rw [gt_st, gt_st, h.len]
 by_cases hc : i.toNat = k ∧ k < t1.length
 ·rw [if_pos hc, if_pos hc]; exact .inl rfl
 ·rw [if_neg hc, if_neg hc]; exact h.key k
theorem Rel.step (ar : Int → Int → Int → Int) {L : Nat → Prop} {s t s1 t1 : List Int} (h : Rel L s t s1 t1) {o : OpL} (hl : o.kind = 2 → L o.b.toNat) (g : List Int) :
  (stepL ar o g s1 = none ∧ stepL ar o g t1 = none) ∨ ∃ g' s' t' j, stepL ar o g s1 = some (g', s', j) ∧ stepL ar o g t1 = some (g', t', j) ∧ Rel L s t s' t' := by
 unfold stepL
 by_cases h1 : o.kind = 1
 ·rw [if_pos h1, if_pos h1]; exact .inr ⟨_, _, _, _, rfl, rfl, h⟩
 rw [if_neg h1, if_neg h1]
 by_cases h2 : o.kind = 2
 ·rw [if_pos h2, if_pos h2]
  have e : gt s1 o.b = gt t1 o.b := by
   have := h.key o.b.toNat
   have ht : ∀ l : List Int, gt l ((o.b.toNat : Nat) : Int) = gt l o.b := fun l => gt_nat l o.b
   rw [ht, ht] at this
   rcases this with h3 | h3
   ·exact h3
   ·exact absurd (hl h2) h3.2.2
  rw [e]; exact .inr ⟨_, _, _, _, rfl, rfl, h⟩
 rw [if_neg h2, if_neg h2]
 by_cases h7 : o.kind = 7
 ·rw [if_pos h7, if_pos h7]; exact .inr ⟨_, _, _, _, rfl, rfl, h.store _ _⟩
 rw [if_neg h7, if_neg h7]
 by_cases h8 : o.kind = 8
 ·rw [if_pos h8, if_pos h8]
  by_cases hz : gt g o.a ≠ 0
  ·rw [if_pos hz, if_pos hz]; exact .inl ⟨rfl, rfl⟩
  ·rw [if_neg hz, if_neg hz]; exact .inr ⟨_, _, _, _, rfl, rfl, h⟩
 rw [if_neg h8, if_neg h8]
 by_cases h9 : o.kind = 9
 ·rw [if_pos h9, if_pos h9]
  by_cases hz : gt g o.a = 0
  ·rw [if_pos hz, if_pos hz]; exact .inr ⟨_, _, _, _, rfl, rfl, h⟩
  ·rw [if_neg hz, if_neg hz]; exact .inr ⟨_, _, _, _, rfl, rfl, h⟩
 rw [if_neg h9, if_neg h9]
 exact .inr ⟨_, _, _, _, rfl, rfl, h⟩
theorem Rel.run (ar : Int → Int → Int → Int) {L : Nat → Prop} {s t : List Int} : ∀ (n : Nat) (d : DeedL) (g s1 t1 : List Int), (∀ o ∈ d, o.kind = 2 → L o.b.toNat) → Rel L s t s1 t1 →
  (runF ar n d g s1).1 = (runF ar n d g t1).1 ∧ (runF ar n d g s1).2.1 = (runF ar n d g t1).2.1 ∧ Rel L s t (runF ar n d g s1).2.2 (runF ar n d g t1).2.2
 | 0, _, _, _, _, _, h => ⟨rfl, rfl, h⟩
 | _ + 1, [], _, _, _, _, h => ⟨rfl, rfl, h⟩
 | n + 1, o :: rest, g, s1, t1, hd, h => by
  rcases h.step ar (hd o (by simp)) g with ⟨h1, h2⟩ | ⟨g', s', t', j, h1, h2, h3⟩
  ·simp only [runF, h1, h2]; exact ⟨trivial, trivial, h⟩
  ·simp only [runF, h1, h2]
   exact Rel.run ar n (rest.drop j) g' s' t' (fun o ho => hd o (by simp [List.mem_of_mem_drop ho])) h3
end Go.SL
end
section
open Go Go.Proofs Go.SL
set_option maxRecDepth 100000
namespace Go.SL
theorem zero10_len : zero10.length = 10 := rfl
abbrev ResL := List (Int × List Int)
def resL (rs : ResL) : List Value := rs.flatMap fun x => resCells x.1 x.2
theorem resL_app (a b : ResL) : resL (a ++ b) = resL a ++ resL b := by simp [resL]
theorem resL_one (c : Int) (g : List Int) : resL [(c, g)] = resCells c g := by simp [resL]
def allL (s : List Int) : RoundL → List Int × ResL
 | [] => (s, [])
 | d :: r => ((allL (doL arithL s d).1 r).1, (doL arithL s d).2 :: (allL (doL arithL s d).1 r).2)
theorem allL_at {r : RoundL} {k : Nat} (h : k < r.length) (s : List Int) : allL s (r.drop k) = ((allL (doL arithL s r[k]).1 (r.drop (k + 1))).1, (doL arithL s r[k]).2 :: (allL (doL arithL s r[k]).1 (r.drop (k + 1))).2) := by
 rw [List.drop_eq_getElem_cons h]; rfl
theorem doL_len {s : List Int} {d : DeedL} (hs : s.length = 10) : (doL arithL s d).1.length = 10 ∧ (doL arithL s d).2.2.length = 4 := by
 have h : (runL arithL d zero4 s).2.1.length = 4 ∧ (runL arithL d zero4 s).2.2.length = s.length := runF_len arithL d.length d zero4 s
 simp only [doL]
 generalize runL arithL d zero4 s = R at h
 by_cases hb : R.1 = true
 ·rw [if_pos hb]; exact ⟨hs, h.1⟩
 ·rw [if_neg hb]; exact ⟨h.2.trans hs, h.1⟩
end Go.SL
end
section
open Go Go.Proofs Go.SL
set_option maxRecDepth 100000
namespace Go.SL
theorem refAll_spec (s0 : List Int) (v : Value) (r : RoundL) (w : World) (h : IsRound w.cell? v r) (hs0 : s0.length = 10) (hf' : roundFaultL r = 0) : Calls Tryz.prog 63 #[intsV s0, v] w
  fun e w' => ∃ sl : Value, True ∧ e = .returned (.tuple #[intsV (allL s0 r).1, sl]) ∧ Res w [] [Own sl 96 5 (allL s0 r).2.length (resL (allL s0 r).2)] w' := by
 have hr := h
 rw [← off_none w] at h hr
 obtain ⟨A, kp, rfl, hle, hc⟩ := h.form
 obtain ⟨h8, hck⟩ := roundFault_ok hf'
 generalize hR : allL s0 r = R
 refine enter0 (N := 32) Tryz.func63 rfl rfl rfl <| esr <| w_op rfl ?_
 refine x_box rfl rfl (fun b2 => ?_)
 refine w_op rfl ?_
 refine x_alloc (z := .agg #[.int .i64 0, .int .i64 0, .int .i64 0, .int .i64 0, .int .i64 0, .int .i64 0, .int .i64 0, .int .i64 0, .int .i64 0, .int .i64 0]) (by intro w; exact Tryz.zeroValue32 w) rfl (fun b4 => ?_)
 refine wa rfl rfl <| wsr <| wa rfl rfl <| w_nil <| e_seq <| esr <| wa rfl rfl <| w_nil <| e_block ?_
 refine e_loopH (σ := Nat × List Int × ResL × Value) [1, 2, 4, 5] (.cons rfl (.cons rfl (.cons rfl (.cons rfl .nil)))) (fun x => [(7, .int .i64 x.1), (6, x.2.2.2)]) (fun x => [Own x.2.2.2 96 5 x.2.2.1.length (resL x.2.2.1), .blk b4 32 (intCells zero10), .blk b2 32 (intCells x.2.1)]) (fun x => x.1 ≤ r.length ∧ x.2.1.length = 10 ∧ x.2.2.1.length = x.1 ∧ ((allL x.2.1 (r.drop x.1)).1, x.2.2.1 ++ (allL x.2.1 (r.drop x.1)).2) = R) (fun x => r.length - x.1) (0, s0, [], .slice none 0 0) ⟨by simp, hs0, rfl, hR⟩ (by repeat first | exact .nil _ | refine .cons rfl ?_) (fun _ hw => hw.ownNil 96 5) ?_
 rintro ⟨k, s, rs, sl⟩ ⟨hk, hs, hrs, hrun⟩
 dsimp only at hk hs hrs hrun
 refine e_seq <| esr <| wm rfl rfl <| wm rfl rfl <| w_val (v_lenS uT37 rfl) rfl <| w_val (v_lss rfl rfl) rfl <| w_nil ?_
 refine e_condD rfl (fun hlt => ?_) (fun hlt => ?_)
 ·have hlt' : k < r.length := by omega
  obtain ⟨ad, u, rfl, hcell, hd⟩ := hc k hlt'
  have hdck := hck r[k] (List.getElem_mem _)
  rw [allL_at hlt'] at hrun
  generalize r[k] = d at *
  obtain ⟨hx10, hg4⟩ := doL_len (d := d) hs
  have hcall := fun (w1 : World) (hl : Le (off w (feet [])) w1.cell?) => refDo_spec s u d w1 (hd.mono hl) hs hdck
  generalize doL arithL s d = x at *
  obtain ⟨x, c, g⟩ := x
  dsimp only at hx10 hg4 hrun hcall
  refine e_skip <| e_seq <| e_block <| e_seq ?_
  refine e_cutH (σ := Nat × Nat) [1, 2, 4, 5, 6, 7] (.cons rfl (.cons rfl (.cons rfl (.cons rfl (.cons rfl (.cons rfl .nil)))))) (fun y => [(8, .pointer (some ⟨y.1, 0, none⟩)), (9, .pointer (some ⟨y.2, 0, none⟩))]) (fun y => [.blk y.1 32 (intCells x), .blk y.2 96 (resCells c g), Own sl 96 5 rs.length (resL rs), .blk b4 32 (intCells zero10), .blk b2 32 (intCells s)]) (fun _ => True) ?_ ?_
  ·refine e_draw ([.blk b2 32 (intCells s)]) Tryz.mixed ?_
   refine tk 0 rfl (v_loadBA 0 rfl uT32 rfl Tryz.hi32 (Tryz.cz32.trans (by simp [Value.cells, intsV, resCells, intCells, hs0, hs, hx10, hg4])) rfl) rfl ?_
   refine tk 1 rfl (v_move rfl) rfl <| tk 2 rfl (v_move rfl) rfl ?_
   refine tk 3 rfl (v_indexS uT37 Tryz.hi80 Tryz.cz80 rfl rfl (by first | omega | decide)) rfl ?_
   refine tk 4 rfl (v_loadO uT80 rfl rfl (hcell)) rfl ?_
   refine a_all [5, 9, 10] (by kernel_rfl) rfl ?_
   intro i hi
   simp only [List.mem_cons, List.not_mem_nil, or_false] at hi
   rcases hi with rfl | rfl | rfl
   ·refine a_op rfl rfl ?_
    refine x_call0 (v := .tuple #[intsV x, .agg (resCells c g).toArray]) rfl rfl rfl Tryz.call102 rfl (fun w hw => hcall w hw.off) ?_
    refine tn <| tk 6 rfl (v_move rfl) rfl <| tk 7 rfl (v_extract rfl rfl) rfl <| tk 8 rfl (v_extract rfl rfl) rfl ?_
    refine a_all [9, 10] (by kernel_rfl) rfl ?_
    intro i hi
    simp only [List.mem_cons, List.not_mem_nil, or_false] at hi
    rcases hi with rfl | rfl
    ·refine a_op rfl rfl ?_
     refine x_alloc (z := .agg #[.int .i64 0, .int .i64 0, .int .i64 0, .int .i64 0, .int .i64 0, .int .i64 0, .int .i64 0, .int .i64 0, .int .i64 0, .int .i64 0]) (by intro w; exact Tryz.zeroValue32 w) rfl (fun b8 => ?_)
     refine tn <| t1 10 rfl rfl ?_
     refine x_alloc (z := .agg #[.int .i64 0, .int .i64 0, .int .i64 0, .int .i64 0, .int .i64 0]) (by intro w; exact Tryz.zeroValue96 w) rfl (fun b9 => ?_)
     refine tn <| t1 11 rfl rfl ?_
     refine x_storeA 1 rfl rfl rfl Tryz.hi32 (Tryz.cz32.trans (by simp [Value.cells, intsV, resCells, intCells, hs0, hs, hx10, hg4])) (by simp [Value.cells, intsV, resCells, intCells, hs0, hs, hx10, hg4]) (by first | exact one_intCells _ | exact one_resCells _ _) ?_
     refine tn <| t1 12 rfl rfl ?_
     refine x_storeA 0 rfl rfl rfl Tryz.hi96 (Tryz.cz96.trans (by simp [Value.cells, intsV, resCells, intCells, hs0, hs, hx10, hg4])) (by simp [Value.cells, intsV, resCells, intCells, hs0, hs, hx10, hg4]) (by first | exact one_intCells _ | exact one_resCells _ _) ?_
     refine tn <| td ?_
     exact e_cutEnd (b8, b9) trivial (by repeat first | exact .nil _ | refine .cons rfl ?_) (fun _ hw => by first | exact hw | exact hw.perm (.swap _ _ _))
    ·refine a_op rfl rfl ?_
     refine x_alloc (z := .agg #[.int .i64 0, .int .i64 0, .int .i64 0, .int .i64 0, .int .i64 0]) (by intro w; exact Tryz.zeroValue96 w) rfl (fun b9 => ?_)
     refine tn <| t1 9 rfl rfl ?_
     refine x_alloc (z := .agg #[.int .i64 0, .int .i64 0, .int .i64 0, .int .i64 0, .int .i64 0, .int .i64 0, .int .i64 0, .int .i64 0, .int .i64 0, .int .i64 0]) (by intro w; exact Tryz.zeroValue32 w) rfl (fun b8 => ?_)
     refine tn <| t1 11 rfl rfl ?_
     refine x_storeA 0 rfl rfl rfl Tryz.hi32 (Tryz.cz32.trans (by simp [Value.cells, intsV, resCells, intCells, hs0, hs, hx10, hg4])) (by simp [Value.cells, intsV, resCells, intCells, hs0, hs, hx10, hg4]) (by first | exact one_intCells _ | exact one_resCells _ _) ?_
     refine tn <| t1 12 rfl rfl ?_
     refine x_storeA 1 rfl rfl rfl Tryz.hi96 (Tryz.cz96.trans (by simp [Value.cells, intsV, resCells, intCells, hs0, hs, hx10, hg4])) (by simp [Value.cells, intsV, resCells, intCells, hs0, hs, hx10, hg4]) (by first | exact one_intCells _ | exact one_resCells _ _) ?_
     refine tn <| td ?_
     exact e_cutEnd (b8, b9) trivial (by repeat first | exact .nil _ | refine .cons rfl ?_) (fun _ hw => by first | exact hw | exact hw.perm (.swap _ _ _))
   ·refine a_op rfl rfl ?_
    refine x_alloc (z := .agg #[.int .i64 0, .int .i64 0, .int .i64 0, .int .i64 0, .int .i64 0, .int .i64 0, .int .i64 0, .int .i64 0, .int .i64 0, .int .i64 0]) (by intro w; exact Tryz.zeroValue32 w) rfl (fun b8 => ?_)
    refine tn ?_
    refine a_all [5, 10] (by kernel_rfl) rfl ?_
    intro i hi
    simp only [List.mem_cons, List.not_mem_nil, or_false] at hi
    rcases hi with rfl | rfl
    ·refine a_op rfl rfl ?_
     refine x_call0 (v := .tuple #[intsV x, .agg (resCells c g).toArray]) rfl rfl rfl Tryz.call102 rfl (fun w hw => hcall w hw.off) ?_
     refine tn <| tk 6 rfl (v_move rfl) rfl <| tk 7 rfl (v_extract rfl rfl) rfl <| tk 8 rfl (v_extract rfl rfl) rfl <| t1 10 rfl rfl ?_
     refine x_alloc (z := .agg #[.int .i64 0, .int .i64 0, .int .i64 0, .int .i64 0, .int .i64 0]) (by intro w; exact Tryz.zeroValue96 w) rfl (fun b9 => ?_)
     refine tn <| t1 11 rfl rfl ?_
     refine x_storeA 1 rfl rfl rfl Tryz.hi32 (Tryz.cz32.trans (by simp [Value.cells, intsV, resCells, intCells, hs0, hs, hx10, hg4])) (by simp [Value.cells, intsV, resCells, intCells, hs0, hs, hx10, hg4]) (by first | exact one_intCells _ | exact one_resCells _ _) ?_
     refine tn <| t1 12 rfl rfl ?_
     refine x_storeA 0 rfl rfl rfl Tryz.hi96 (Tryz.cz96.trans (by simp [Value.cells, intsV, resCells, intCells, hs0, hs, hx10, hg4])) (by simp [Value.cells, intsV, resCells, intCells, hs0, hs, hx10, hg4]) (by first | exact one_intCells _ | exact one_resCells _ _) ?_
     refine tn <| td ?_
     exact e_cutEnd (b8, b9) trivial (by repeat first | exact .nil _ | refine .cons rfl ?_) (fun _ hw => by first | exact hw | exact hw.perm (.swap _ _ _))
    ·refine a_op rfl rfl ?_
     refine x_alloc (z := .agg #[.int .i64 0, .int .i64 0, .int .i64 0, .int .i64 0, .int .i64 0]) (by intro w; exact Tryz.zeroValue96 w) rfl (fun b9 => ?_)
     refine tn <| t1 5 rfl rfl ?_
     refine x_call0 (v := .tuple #[intsV x, .agg (resCells c g).toArray]) rfl rfl rfl Tryz.call102 rfl (fun w hw => hcall w hw.off) ?_
     refine tn <| tk 6 rfl (v_move rfl) rfl <| tk 7 rfl (v_extract rfl rfl) rfl <| tk 8 rfl (v_extract rfl rfl) rfl <| t1 11 rfl rfl ?_
     refine x_storeA 1 rfl rfl rfl Tryz.hi32 (Tryz.cz32.trans (by simp [Value.cells, intsV, resCells, intCells, hs0, hs, hx10, hg4])) (by simp [Value.cells, intsV, resCells, intCells, hs0, hs, hx10, hg4]) (by first | exact one_intCells _ | exact one_resCells _ _) ?_
     refine tn <| t1 12 rfl rfl ?_
     refine x_storeA 0 rfl rfl rfl Tryz.hi96 (Tryz.cz96.trans (by simp [Value.cells, intsV, resCells, intCells, hs0, hs, hx10, hg4])) (by simp [Value.cells, intsV, resCells, intCells, hs0, hs, hx10, hg4]) (by first | exact one_intCells _ | exact one_resCells _ _) ?_
     refine tn <| td ?_
     exact e_cutEnd (b8, b9) trivial (by repeat first | exact .nil _ | refine .cons rfl ?_) (fun _ hw => by first | exact hw | exact hw.perm (.swap _ _ _))
   ·refine a_op rfl rfl ?_
    refine x_alloc (z := .agg #[.int .i64 0, .int .i64 0, .int .i64 0, .int .i64 0, .int .i64 0]) (by intro w; exact Tryz.zeroValue96 w) rfl (fun b9 => ?_)
    refine tn ?_
    refine a_all [5, 9] (by kernel_rfl) rfl ?_
    intro i hi
    simp only [List.mem_cons, List.not_mem_nil, or_false] at hi
    rcases hi with rfl | rfl
    ·refine a_op rfl rfl ?_
     refine x_call0 (v := .tuple #[intsV x, .agg (resCells c g).toArray]) rfl rfl rfl Tryz.call102 rfl (fun w hw => hcall w hw.off) ?_
     refine tn <| tk 6 rfl (v_move rfl) rfl <| tk 7 rfl (v_extract rfl rfl) rfl <| tk 8 rfl (v_extract rfl rfl) rfl <| t1 9 rfl rfl ?_
     refine x_alloc (z := .agg #[.int .i64 0, .int .i64 0, .int .i64 0, .int .i64 0, .int .i64 0, .int .i64 0, .int .i64 0, .int .i64 0, .int .i64 0, .int .i64 0]) (by intro w; exact Tryz.zeroValue32 w) rfl (fun b8 => ?_)
     refine tn <| t1 11 rfl rfl ?_
     refine x_storeA 0 rfl rfl rfl Tryz.hi32 (Tryz.cz32.trans (by simp [Value.cells, intsV, resCells, intCells, hs0, hs, hx10, hg4])) (by simp [Value.cells, intsV, resCells, intCells, hs0, hs, hx10, hg4]) (by first | exact one_intCells _ | exact one_resCells _ _) ?_
     refine tn <| t1 12 rfl rfl ?_
     refine x_storeA 1 rfl rfl rfl Tryz.hi96 (Tryz.cz96.trans (by simp [Value.cells, intsV, resCells, intCells, hs0, hs, hx10, hg4])) (by simp [Value.cells, intsV, resCells, intCells, hs0, hs, hx10, hg4]) (by first | exact one_intCells _ | exact one_resCells _ _) ?_
     refine tn <| td ?_
     exact e_cutEnd (b8, b9) trivial (by repeat first | exact .nil _ | refine .cons rfl ?_) (fun _ hw => by first | exact hw | exact hw.perm (.swap _ _ _))
    ·refine a_op rfl rfl ?_
     refine x_alloc (z := .agg #[.int .i64 0, .int .i64 0, .int .i64 0, .int .i64 0, .int .i64 0, .int .i64 0, .int .i64 0, .int .i64 0, .int .i64 0, .int .i64 0]) (by intro w; exact Tryz.zeroValue32 w) rfl (fun b8 => ?_)
     refine tn <| t1 5 rfl rfl ?_
     refine x_call0 (v := .tuple #[intsV x, .agg (resCells c g).toArray]) rfl rfl rfl Tryz.call102 rfl (fun w hw => hcall w hw.off) ?_
     refine tn <| tk 6 rfl (v_move rfl) rfl <| tk 7 rfl (v_extract rfl rfl) rfl <| tk 8 rfl (v_extract rfl rfl) rfl <| t1 11 rfl rfl ?_
     refine x_storeA 0 rfl rfl rfl Tryz.hi32 (Tryz.cz32.trans (by simp [Value.cells, intsV, resCells, intCells, hs0, hs, hx10, hg4])) (by simp [Value.cells, intsV, resCells, intCells, hs0, hs, hx10, hg4]) (by first | exact one_intCells _ | exact one_resCells _ _) ?_
     refine tn <| t1 12 rfl rfl ?_
     refine x_storeA 1 rfl rfl rfl Tryz.hi96 (Tryz.cz96.trans (by simp [Value.cells, intsV, resCells, intCells, hs0, hs, hx10, hg4])) (by simp [Value.cells, intsV, resCells, intCells, hs0, hs, hx10, hg4]) (by first | exact one_intCells _ | exact one_resCells _ _) ?_
     refine tn <| td ?_
     exact e_cutEnd (b8, b9) trivial (by repeat first | exact .nil _ | refine .cons rfl ?_) (fun _ hw => by first | exact hw | exact hw.perm (.swap _ _ _))
  ·rintro ⟨b8, b9⟩ -
   dsimp only
   obtain ⟨g0, g1, g2, g3, rfl⟩ := list4 hg4
   refine esr ?_
   refine w_val (v_loadBA 0 rfl uT32 rfl Tryz.hi32 (Tryz.cz32.trans (by simp [Value.cells, intsV, resCells, intCells, hs0, hs, hx10, hg4])) rfl) rfl ?_
   refine w_op rfl ?_
   refine x_storeA 4 rfl rfl rfl Tryz.hi32 (Tryz.cz32.trans (by simp [Value.cells, intsV, resCells, intCells, hs0, hs, hx10, hg4])) (by simp [Value.cells, intsV, resCells, intCells, hs0, hs, hx10, hg4]) (by first | exact one_intCells _ | exact one_resCells _ _) ?_
   refine wre <| wm rfl rfl <| w_val (v_loadBA 1 rfl uT96 rfl Tryz.hi96 Tryz.cz96 rfl) rfl <| w_op rfl ?_
   refine x_buildSlice _ (resCells c [g0, g1, g2, g3]) rfl (run_buildSlice uT33 Tryz.hi96 Tryz.cz96 Tryz.zeroValue96 rfl (by kernel_rfl)) rfl (fun b28 => ?_)
   refine w_op rfl ?_
   refine x_appendI (z := .agg #[.int .i64 0, .int .i64 0, .int .i64 0, .int .i64 0, .int .i64 0]) (n := rs.length) (xs := resL rs) (size := 5) (bytes := 40) (k := 1) (news := resCells c [g0, g1, g2, g3]) 3 rfl rfl rfl uT33 (by kernel_rfl) rfl (by decide) (fun w hw => blk_rds (hw.hold _ (List.mem_cons_self ..)) rfl) (by intro u hu; exact one_resCells c [g0, g1, g2, g3] u (by simpa using hu)) (by omega) (by simp only [maxLen]; omega) rfl (fun sl' => ?_)
   refine wa rfl rfl <| w_nil <| e_blk <| e_region <| wm rfl rfl ?_
   refine w_val (v_add rfl rfl (by omega)) rfl ?_
   refine wa rfl rfl <| w_nil ?_
   refine e_round ((k + 1, x, rs ++ [(c, [g0, g1, g2, g3])], sl')) (⟨by dsimp only; omega, hx10, by simp [hrs], by rw [← hrun]; simp⟩) (by dsimp only; omega) (by repeat first | exact .nil _ | refine .cons rfl ?_) (fun _ hw => ?_)
   have h1 : resL (rs ++ [(c, [g0, g1, g2, g3])]) = resL rs ++ resCells c [g0, g1, g2, g3] := by rw [resL_app, resL_one]
   have h2 : (rs ++ [(c, [g0, g1, g2, g3])]).length = rs.length + 1 := by simp
   dsimp only
   rw [h1, h2]
   exact hw.sub (.cons _ (.cons _ (.cons _ (List.Sublist.refl _))))
 ·obtain rfl : k = r.length := by omega
  have e0 : allL s (r.drop r.length) = (s, []) := by rw [List.drop_length]; rfl
  rw [e0] at hrun
  simp only [List.append_nil] at hrun
  subst hrun
  refine e_exit rfl <| esr ?_
  refine w_val (v_loadBA 2 rfl uT32 rfl Tryz.hi32 (Tryz.cz32.trans (by simp [Value.cells, intsV, resCells, intCells, hs0, hs, zero10_len])) rfl) rfl ?_
  refine wm rfl rfl <| w_op rfl ?_
  refine x_storeA 1 rfl rfl rfl Tryz.hi32 (Tryz.cz32.trans (by simp [Value.cells, intsV, resCells, intCells, hs0, hs, zero10_len])) (by simp [Value.cells, intsV, resCells, intCells, hs0, hs, zero10_len]) (by first | exact one_intCells _ | exact one_resCells _ _) ?_
  refine wa rfl rfl <| w_nil ?_
  refine e_retQ (q_ret2 rfl (ResV.agg 1 rfl rfl (by rw [isAggD, uT32]; rfl) (Tryz.cz32.trans (by simp [intCells, hs])) Tryz.hi32) (.tmp rfl) ?_)
  exact fun w' hw' => ⟨sl, trivial, rfl, hw'.res.sub (.cons_cons _ (List.nil_sublist _))⟩
theorem resL_at : ∀ {a : ResL}, (∀ x ∈ a, x.2.length = 4) → ∀ {k : Nat} (hk : k < a.length) (j : Nat) (v : Value), (resCells a[k].1 a[k].2)[j]? = some v → (resL a)[k * 5 + j]? = some v
 | [], _, k, hk, _, _, _ => by simp at hk
 | x :: a, ha, 0, hk, j, v, hj => by
  have h4 := ha x (by simp)
  simp only [List.getElem_cons_zero] at hj
  simp only [resL, List.flatMap_cons, Nat.zero_mul, Nat.zero_add]
  rw [List.getElem?_append_left (List.getElem?_eq_some_iff.1 hj).1]
  exact hj
 | x :: a, ha, k + 1, hk, j, v, hj => by
  have h4 := ha x (by simp)
  have hl : (resCells x.1 x.2).length = 5 := by simp [resCells, intCells, h4]
  have := resL_at (a := a) (fun y hy => ha y (by simp [hy])) (k := k) (by simpa using hk) j v (by simpa using hj)
  simp only [resL, List.flatMap_cons]
  rw [List.getElem?_append_right (by rw [hl]; omega), hl, show (k + 1) * 5 + j - 5 = k * 5 + j from by omega]
  exact this
theorem resL_cells {c : View} {ad : Addr} {a : ResL} (ha : ∀ x ∈ a, x.2.length = 4) (h : Cells c ad (resL a)) {k : Nat} (hk : k < a.length) : Cells c (ad.add (k * 5)) (resCells a[k].1 a[k].2) := by
 intro j v hj
 rw [add_add]
 exact h _ _ (resL_at ha hk j v hj)
end Go.SL
end
