/- YtebdkaadbakhlaaGreatDoor: part DK2 of this seat's own texts. -/
import Derived.Test.YtebdkaadbakhlaaGreatDoorDK1
set_option linter.unusedVariables false
set_option linter.unusedSimpArgs false
section
open Go Go.Proofs Go.SL Go.RowKit
set_option maxRecDepth 100000
set_option maxHeartbeats 4000000
namespace Go.SL
abbrev gTop : Nat := 5
theorem var_chgF {P : Program} {w0 w : World} {F : Nat → Prop} {n : String} {g : Nat} {cs : Array Value} (hg : P.globalNamed n = some g) (hc : Chg w0 F w) (hF : ¬ F g) (h : w0.var? P n = some cs) : w.var? P n = some cs := by
 unfold World.var? at h ⊢
 rw [hg, Option.bind_some] at h ⊢
 cases hb : w0.heap[g]? with
 | none => rw [hb] at h; cases h
 | some o =>
  have hlt : g < w0.heap.size := (Array.getElem?_eq_some_iff.1 hb).1
  rw [hc.block g hlt hF, hb]
  rw [hb] at h
  exact h
theorem LaidD.keep {w0 w : World} {F : Nat → Prop} (h : LaidD w0) (hc : Chg w0 F w) (hF : ∀ b, F b → gTop < b) : LaidD w :=
 ⟨var_chgF (g := 5) (by kernel_rfl) hc (fun hf => absurd (hF _ hf) (by decide)) h.tab, h.syn.imp fun _ ⟨p, hp⟩ => ⟨p, var_chgF (g := 3) (by kernel_rfl) hc (fun hf => absurd (hF _ hf) (by decide)) hp⟩, h.rng.imp fun _ ⟨p, hp⟩ => ⟨p, var_chgF (g := 4) (by kernel_rfl) hc (fun hf => absurd (hF _ hf) (by decide)) hp⟩, h.top.imp fun m hm => by
  have hm : w0.cell? ⟨2, 0, none⟩ = some (.int .i64 m) := hm
  have hlt : 2 < w0.heap.size := Lib.lt_of_cell hm
  have := hc.block 2 hlt (fun hf => absurd (hF _ hf) (by decide))
  show w.cell? ⟨2, 0, none⟩ = _
  rw [World.cell?] at hm ⊢
  dsimp only at hm ⊢
  rwa [this]⟩
structure LF (w : World) (F : Nat → Prop) : Prop where
 laid : LaidD w
 far : ∀ b, F b → gTop < b
 top : gTop < w.heap.size
theorem LF.lai {w0 w : World} {F : Nat → Prop} {m : Hp} (h : LF w0 F) (hw : St w0 F m w) : LaidD w := h.laid.keep hw.chg h.far
theorem LF.at {w0 w : World} {F : Nat → Prop} {m : Hp} (h : LF w0 F) (hw : St w0 F m w) {mc : Hp} (hs : ∀ c ∈ mc, c ∈ m) : LF w (feet mc) :=
 ⟨h.lai hw, fun b ⟨c, hc, hb⟩ => by
  rcases hw.own c (hs c hc) b hb with h1 | h1
  ·have := h.top; omega
  ·exact h.far b h1, by have := hw.chg.size; have := h.top; omega⟩
theorem LF.part {w0 w : World} {F : Nat → Prop} {mc mr : Hp} (h : LF w0 F) (hw : St w0 F (mc ++ mr) w) : LF w (feet mc) := h.at hw fun c hc => List.mem_append_left _ hc
theorem StV.ofH {w : World} {y : StP} {q : QL} (h : ∀ c ∈ stH y q, c.holds w) : StV w.cell? y q :=
 ⟨blk_cells (h (stB y q) (by simp)) 0 (fun j v hj => by simpa using hj), own_rds (h (stO y q) (by simp)), LgV.of fun c hc => h c (List.mem_append_right _ hc)⟩
theorem StV.aside {w0 w : World} {F : Nat → Prop} {mc mr : Hp} {y : StP} {q : QL} (h : St w0 F (mc ++ mr) w) (hm : ∀ c ∈ stH y q, c ∈ mr) : StV (SL.off w (feet mc)) y q := (StV.ofH fun c hc => h.partR c (hm c hc)).mono h.apart
theorem join1 (a s : List UInt8) : Lib.join [a] s = a := by simp [Lib.join]
theorem join2 (a b s : List UInt8) : Lib.join [a, b] s = a ++ s ++ b := by simp [Lib.join]
theorem join3 (a b c s : List UInt8) : Lib.join [a, b, c] s = a ++ s ++ b ++ s ++ c := by simp [Lib.join]
theorem join4 (a b c d s : List UInt8) : Lib.join [a, b, c, d] s = a ++ s ++ b ++ s ++ c ++ s ++ d := by simp [Lib.join]
theorem say_spec (p : Nat) (A : Option Addr) (bv cv rv : Value) (told : List UInt8) (b : Nat) (xs : List (List UInt8)) (w : World) (hA : AdOk p A) (h : ∀ c ∈ dkT p A bv cv rv told ++ [Chunk.blk b 9 (strC xs)], c.holds w) (hsep : (dkT p A bv cv rv told ++ [Chunk.blk b 9 (strC xs)]).Pairwise Disj) (hx : xs.length ≤ 1000) (hlen : told.length + (Lib.join xs [32]).length ≤ 1000000000) :
  Calls Tryz.prog 26 #[.pointer (some ⟨p, 0, none⟩), .slice (some ⟨b, 0, none⟩) xs.length xs.length] w fun e w' => ∃ b' : Value, True ∧ e = .returned (.tuple #[]) ∧ Res w (dkT p A bv cv rv told ++ [Chunk.blk b 9 (strC xs)]) (dkT p (some ⟨p, 0, none⟩) b' cv rv (told ++ (Lib.join xs [32] ++ [10]))) w' := by
 refine enter (mc := dkT p A bv cv rv told ++ [Chunk.blk b 9 (strC xs)]) (N := 11) Tryz.func26 rfl rfl rfl ?_ ?_ ?_
 ·exact h
 ·exact hsep
 have hj := fun (w1 : World) (h1 : (Chunk.blk b 9 (strC xs)).holds w1) => joinB_spec xs (.slice (some ⟨b, 0, none⟩) xs.length xs.length) 9 w1 (blk_own h1 (by rw [strC_len, Nat.mul_one]) (by simp only [maxLen]; omega)) (by omega) (by omega)
 generalize Lib.join xs [32] = J at *
 refine e_draw (([] : Hp)) Tryz.mixed <| tk 0 rfl (v_move rfl) rfl <| tk 1 rfl (v_nilCheck rfl) rfl <| tk 2 rfl (v_fieldAddrB (o := 0) uT55 rfl rfl Tryz.nz53 rfl) rfl <| tk 3 rfl (v_move rfl) rfl <| t1 4 rfl rfl ?_
 refine x_call0 (v := strV J) rfl rfl rfl Tryz.call48 rfl (fun w hw => hj w (hw.mem (i := 2) rfl)) ?_
 refine tn ?_
 refine tk 5 rfl (v_strAdd rfl rfl (by simp only [lnA]; omega)) rfl ?_
 refine t1 6 rfl rfl ?_
 refine x_call (dst := some 10) (mc := dkT p A bv cv rv told) (mr := [.blk b 9 (strC xs)]) (σ := Value) (fun _ => True) (fun _ => .tuple #[.int .i64 ((J ++ [10] : List UInt8).length : Int), .nilIface]) (fun b' => dkT p (some ⟨p, 0, none⟩) b' cv rv (told ++ (J ++ [10]))) rfl rfl rfl Tryz.call47 (fun w hw => write_spec p A bv cv rv told (J ++ [10]) w hA (res_part hw).1 (res_part hw).2 (by simp only [lnA]; omega)) rfl (fun b' _ => ?_)
 refine tn <| td ?_
 refine e_endQ (q_ret0 rfl ?_)
 exact fun w' hw' => ⟨b', trivial, rfl, (hw'.sub (.cons_cons _ (.cons_cons _ (.cons _ (List.Sublist.refl _))))).res⟩
theorem code_spec (p : Nat) (A : Option Addr) (bv cv rv : Value) (told : List UInt8) (c : Int) (w : World) (hA : AdOk p A) (h : ∀ c ∈ dkT p A bv cv rv told, c.holds w) (hsep : (dkT p A bv cv rv told).Pairwise Disj) (hL : LF w (feet (dkT p A bv cv rv told))) (hc : In64 c) (ht : told.length ≤ 100000000) :
  Calls Tryz.prog 49 #[.pointer (some ⟨p, 0, none⟩), .int .i64 c] w fun e w' => ∃ b' : Value, True ∧ e = .returned (.tuple #[]) ∧ Res w (dkT p A bv cv rv told) (dkT p (some ⟨p, 0, none⟩) b' cv rv (told ++ tellCode c)) w' := by
 have hi := itoa_len hc
 refine enter (mc := dkT p A bv cv rv told) (N := 14) Tryz.func49 rfl rfl rfl ?_ ?_ ?_
 ·exact h
 ·exact hsep
 refine e_seq <| esr <| wm rfl rfl <| w_val (v_neq rfl rfl) rfl <| w_nil ?_
 refine e_condD rfl (fun hne => ?_) (fun hne => ?_)
 ·refine esr <| wm rfl rfl <| wm rfl rfl <| w_op rfl ?_
  refine x_call0 (v := strV (Lib.itoa c)) rfl rfl rfl Tryz.call25 rfl (fun w hw => dkNum_spec c w hc (hL.lai hw)) ?_
  refine w_op rfl ?_
  refine x_buildSlice _ (strC [[110, 111], Lib.itoa c]) rfl (run_buildSlice uT22 Tryz.hi9 Tryz.cz9 Tryz.zeroValue9 rfl (by kernel_rfl)) rfl (fun b9 => ?_)
  refine w_op rfl ?_
  refine x_callM (dst := some 10) (dkT p A bv cv rv (told) ++ [Chunk.blk b9 9 (strC [[110, 111], Lib.itoa c])]) [] (σ := Value) (fun _ => True) (fun _ => .tuple #[]) (fun b' => dkT p (some ⟨p, 0, none⟩) b' cv rv ((told) ++ (Lib.join [[110, 111], Lib.itoa c] [32] ++ [10]))) (List.Perm.append_right _ (List.perm_append_comm (l₁ := [_]) (l₂ := [_, _]))) rfl rfl rfl Tryz.call26 (fun w hw => say_spec p A bv cv rv (told) b9 [[110, 111], Lib.itoa c] w hA (res_part hw).1 (res_part hw).2 (by simp) (by rw [join2]; simp only [lnA]; omega)) rfl (fun b' _ => ?_)
  refine w_nil ?_
  refine e_retQ (q_ret0 rfl ?_)
  refine fun w' hw' => ⟨b', trivial, rfl, ?_⟩
  rw [show tellCode c = Lib.join [[110, 111], Lib.itoa c] [32] ++ [10] from by unfold tellCode; rw [if_pos hne, join2]; rfl]
  exact hw'.res
 ·refine e_skip <| e_region <| wm rfl rfl <| w_op rfl ?_
  refine x_buildSlice _ (strC [[111, 107]]) rfl (run_buildSlice uT22 Tryz.hi9 Tryz.cz9 Tryz.zeroValue9 rfl (by kernel_rfl)) rfl (fun b12 => ?_)
  refine w_op rfl ?_
  refine x_callM (dst := some 13) (dkT p A bv cv rv (told) ++ [Chunk.blk b12 9 (strC [[111, 107]])]) [] (σ := Value) (fun _ => True) (fun _ => .tuple #[]) (fun b' => dkT p (some ⟨p, 0, none⟩) b' cv rv ((told) ++ (Lib.join [[111, 107]] [32] ++ [10]))) (List.Perm.append_right _ (List.perm_append_comm (l₁ := [_]) (l₂ := [_, _]))) rfl rfl rfl Tryz.call26 (fun w hw => say_spec p A bv cv rv (told) b12 [[111, 107]] w hA (res_part hw).1 (res_part hw).2 (by simp) (by rw [join1]; simp only [List.length_cons, List.length_nil]; omega)) rfl (fun b' _ => ?_)
  refine w_nil ?_
  refine e_endQ (q_ret0 rfl ?_)
  refine fun w' hw' => ⟨b', trivial, rfl, ?_⟩
  rw [show tellCode c = Lib.join [[111, 107]] [32] ++ [10] from by unfold tellCode; rw [if_neg hne, join1]]
  exact hw'.res
theorem longs_snoc (l : List Int) (x : Int) : longsL (l ++ [x]) = longsL l ++ ([32] ++ Lib.itoa x) := by simp [longsL]
theorem dkLongs_spec (v : Value) (l : List Int) (w : World) (h : Rds w.cell? v 1 l.length (intCells l)) (hin : ∀ x ∈ l, In64 x) (hl : l.length ≤ 100) (hL : LaidD w) :
  Calls Tryz.prog 52 #[v] w fun e w' => e = .returned (strV (longsL l)) ∧ Res w [] [] w' := by
 rw [← off_none w] at h
 obtain ⟨Al, kl, rfl, hkl, _, hc⟩ := h
 refine enter0 (N := 19) Tryz.func52 rfl rfl rfl <| esr <| wa rfl rfl <| wsr <| wa rfl rfl <| w_nil <| e_seq <| esr <| wm rfl rfl <| w_val (v_lenS uT92 rfl) rfl <| wm rfl rfl <| w_nil <| e_block ?_
 refine e_loopK (σ := Nat) [6, 7] (.cons rfl (.cons rfl .nil)) (fun i => [(8, .int .i64 (i : Int)), (3, strV (longsL (l.take i)))]) (fun i => i ≤ l.length) (fun i => l.length - i) 0 (Nat.zero_le _) (by repeat first | exact .nil _ | refine .cons rfl ?_) ?_
 rintro i hi
 dsimp only at hi ⊢
 refine esr <| w_val (v_lss rfl rfl) rfl <| w_nil <| e_seq ?_
 refine e_condD rfl (fun hlt => ?_) (fun hlt => ?_)
 ·have hi' : i < l.length := by omega
  obtain ⟨ad, rfl, hcl⟩ := hc (by omega)
  have hcell : SL.off w (feet []) (ad.add (((i : Int)).toNat * 1)) = some (.int .i64 l[i]) := hcl _ _ (by rw [Int.toNat_natCast, Nat.mul_one]; simp [intCells, hi'])
  have hxi := hin _ (List.getElem_mem hi')
  have hix := itoa_len hxi
  have hsn := longs_snoc (l.take i) l[i]
  rw [← List.take_succ_eq_append_getElem hi'] at hsn
  have hpl := longs_len (l := l.take i) (fun x hx => hin x (List.mem_of_mem_take hx))
  rw [List.length_take] at hpl
  generalize longsL (l.take i) = pre at *
  generalize l[i] = x at *
  refine e_skip <| e_seq <| e_block <| esr ?_
  refine w_val (v_indexS uT92 Tryz.hi2 Tryz.cz2 rfl rfl (by first | omega | decide)) rfl ?_
  refine w_val (v_loadO uT2 rfl rfl (hcell)) rfl <| wa rfl rfl <| wre <| wm rfl rfl <| wm rfl rfl <| w_op rfl ?_
  refine x_call0 (v := strV (Lib.itoa x)) rfl rfl rfl Tryz.call61 rfl (fun w hw => fmt_spec x w hxi (hL.chg hw.chg)) ?_
  refine w_val (v_strAdd rfl rfl (by simp only [lnA]; omega)) rfl ?_
  refine w_val (v_is (v' := strV (longsL (l.take (i + 1)))) (v_strAdd rfl rfl (by simp only [lnA]; omega)) (by rw [hsn])) rfl ?_
  refine wa rfl rfl <| w_nil <| e_blk <| e_region ?_
  refine w_val (v_add rfl rfl (by omega)) rfl ?_
  refine wm rfl rfl <| w_nil ?_
  exact e_round (i + 1) (by omega) (by omega) (by repeat first | exact .nil _ | refine .cons rfl ?_) (fun _ hw => hw)
 ·have e : i = l.length := by omega
  subst e
  rw [List.take_length]
  refine e_exit rfl <| esr <| wm rfl rfl <| wa rfl rfl <| w_nil ?_
  refine e_retQ (q_ret1 rfl (.tmp rfl) ?_)
  exact fun w' hw' => ⟨rfl, hw'.res.nil⟩
end Go.SL
end
section
open Go Go.Proofs Go.SL Go.RowKit
set_option maxRecDepth 100000
set_option maxHeartbeats 4000000
namespace Go.SL
theorem ints_rds {w : World} {b o e n : Nat} {cs : List Value} {l : List Int} (h : (Chunk.blk b e cs).holds w) (hc : ∀ j v, (intCells l)[j]? = some v → cs[o + j]? = some v) (hn : n = l.length) : Rds w.cell? (.slice (some ⟨b, o, none⟩) n n) 1 l.length (intCells l) := by
 subst hn
 exact ⟨_, _, rfl, Nat.le_refl _, by simp [intCells], fun _ => ⟨_, rfl, blk_cells h o hc⟩⟩
theorem res_regs (c : Int) (g : List Int) (j : Nat) (v : Value) (h : (intCells g)[j]? = some v) : (resCells c g)[0 + 1 + j]? = some v := by
 rw [show 0 + 1 + j = j + 1 from by omega]; exact h
theorem own_resD {w : World} {ad : Addr} {n k e : Nat} {a : ResL} (h : (Own (.slice (some ad) n k) e 5 n (resL a)).holds w) (ha : ∀ x ∈ a, x.2.length = 4) (hl : a.length = n) {i : Nat} (hi : i < n) {x : Int × List Int} (hx : a[i]? = some x) : Cells w.cell? (ad.add (((i : Nat) : Int).toNat * 5)) (resCells x.1 x.2) := by
 obtain ⟨A, k', he, _, _, hc⟩ := own_rds h
 injection he with e1
 subst e1
 obtain ⟨ad', h1, h2⟩ := hc (by omega)
 injection h1 with h1
 subst h1
 have hi' : i < a.length := by omega
 have := resL_cells ha h2 hi'
 rw [List.getElem?_eq_getElem hi'] at hx
 injection hx with hx
 rw [hx] at this
 rw [Int.toNat_natCast]
 exact this
theorem dkThen_spec (p : Nat) (A : Option Addr) (bv rv : Value) (told : List UInt8) (y : StP) (q : QL) (n : Int) (w : World) (hA : AdOk p A) (h : ∀ c ∈ dkT p A bv (ptrV y.p) rv told, c.holds w) (hsep : (dkT p A bv (ptrV y.p) rv told).Pairwise Disj) (hv : StV (SL.off w (feet (dkT p A bv (ptrV y.p) rv told))) y q) (hok : q.Ok) (hL : LF w (feet (dkT p A bv (ptrV y.p) rv told))) (ht : told.length ≤ 90000000) :
  Calls Tryz.prog 54 #[.pointer (some ⟨p, 0, none⟩), .int .i64 n] w fun e w' => ∃ b' : Value × Unit, True ∧ e = .returned (.tuple #[]) ∧ Res w (dkT p A bv (ptrV y.p) rv told) (dkT p (some ⟨p, 0, none⟩) b'.1 (ptrV y.p) rv (told ++ tellThen q.L n)) w' := by
 have hcall := fun (w1 : World) (h1 : StV w1.cell? y q) => stThen_spec y q n w1 h1 hok
 have hz := thenL_len q.L n
 have hzi := thenL_in hok.inn n
 have hll := longs_len hzi
 unfold tellThen
 refine enter (mc := dkT p A bv (ptrV y.p) rv told) (N := 25) Tryz.func54 rfl rfl rfl ?_ ?_ ?_
 ·exact h
 ·exact hsep
 generalize thenL q.L n = tn at *
 obtain ⟨z, bb⟩ := tn
 dsimp only at hcall hz hzi hll ⊢
 have hlz : (intCells z).length = 10 := by simp [intCells, hz]
 refine esr <| wm rfl rfl <| wn rfl rfl <| w_val (v_fieldAddrB (o := 2) uT55 rfl rfl Tryz.nz48 rfl) rfl <| w_val (v_loadB 0 rfl uT48 rfl rfl rfl) rfl <| wm rfl rfl <| w_op rfl ?_
 refine x_call0 (v := .tuple #[intsV z, .bool bb]) rfl rfl rfl Tryz.call91 rfl (fun w hw => hcall w (hv.mono hw.off)) ?_
 refine wm rfl rfl <| w_val (v_extract rfl rfl) rfl <| w_val (v_extract rfl rfl) rfl <| w_op rfl ?_
 refine x_alloc (z := .agg #[.int .i64 0, .int .i64 0, .int .i64 0, .int .i64 0, .int .i64 0, .int .i64 0, .int .i64 0, .int .i64 0, .int .i64 0, .int .i64 0]) (by intro w; exact Tryz.zeroValue32 w) rfl (fun b4 => ?_)
 refine w_op rfl ?_
 refine x_storeA (vs := (intCells z).toArray) 0 rfl rfl rfl Tryz.hi32 (Tryz.cz32.trans (by simp [intCells, hz])) (by simp [Value.cells, intCells, hz]) (one_intCells _) ?_
 refine wa rfl rfl <| w_nil <| e_seq <| esr <| wm rfl rfl <| w_val (v_not rfl) rfl <| w_nil ?_
 cases bb with
 | false =>
  refine e_condT rfl <| esr <| wm rfl rfl <| w_op rfl ?_
  refine g_heap (m' := dkT p A bv (ptrV y.p) rv (told) ++ [.blk b4 32 (intCells z)]) (fun _ hw => hw.pick [1, 2, 0] (by decide)) ?_; refine x_call (dst := some 18) (mc := dkT p A bv (ptrV y.p) rv (told)) (mr := [.blk b4 32 (intCells z)]) (σ := Value) (fun _ => True) (fun _ => .tuple #[]) (fun b' => dkT p (some ⟨p, 0, none⟩) b' (ptrV y.p) rv ((told) ++ tellCode 7)) rfl rfl rfl Tryz.call49 (fun w hw => code_spec p A bv (ptrV y.p) rv (told) 7 w hA (res_part hw).1 (res_part hw).2 (hL.part hw) (by simp [In64]) (by omega)) rfl (fun b' _ => ?_)
  refine w_nil ?_
  refine e_retQ (q_ret0 rfl ?_)
  exact fun w' hw' => ⟨(b', ()), trivial, rfl, (hw'.pick [0, 1] (by decide)).res⟩
 | true =>
  refine e_condF rfl <| e_skip <| e_region <| wm rfl rfl ?_
  refine w_val (v_sliceArr uT32 (by decide) Tryz.hi2 Tryz.cz2 rfl) rfl ?_
  refine w_op rfl ?_
  refine x_call0 (v := strV (longsL z)) rfl rfl rfl Tryz.call52 rfl (fun w hw => dkLongs_spec _ z w (ints_rds (hw.mem (i := 0) rfl) (fun j v hj => by simpa using hj) hz.symm) hzi (by omega) (hL.lai hw)) ?_
  refine w_val (v_strAdd rfl rfl (by simp only [lnA]; omega)) rfl ?_
  refine w_op rfl ?_
  refine x_buildSlice _ (strC [[115, 116, 97, 116, 101] ++ longsL z]) rfl (run_buildSlice uT22 Tryz.hi9 Tryz.cz9 Tryz.zeroValue9 rfl (by kernel_rfl)) rfl (fun b23 => ?_)
  refine w_op rfl ?_
  refine g_heap (m' := (dkT p A bv (ptrV y.p) rv (told) ++ [Chunk.blk b23 9 (strC [[115, 116, 97, 116, 101] ++ longsL z])]) ++ [.blk b4 32 (intCells z)]) (fun _ hw => hw.pick [2, 3, 0, 1] (by decide)) ?_; refine x_call (dst := some 24) (mc := dkT p A bv (ptrV y.p) rv (told) ++ [Chunk.blk b23 9 (strC [[115, 116, 97, 116, 101] ++ longsL z])]) (mr := [.blk b4 32 (intCells z)]) (σ := Value) (fun _ => True) (fun _ => .tuple #[]) (fun b' => dkT p (some ⟨p, 0, none⟩) b' (ptrV y.p) rv ((told) ++ (Lib.join [[115, 116, 97, 116, 101] ++ longsL z] [32] ++ [10]))) rfl rfl rfl Tryz.call26 (fun w hw => say_spec p A bv (ptrV y.p) rv (told) b23 [[115, 116, 97, 116, 101] ++ longsL z] w hA (res_part hw).1 (res_part hw).2 (by simp) (by rw [join1]; simp only [lnA]; omega)) rfl (fun b' _ => ?_)
  refine w_nil ?_
  refine e_endQ (q_ret0 rfl ?_)
  refine fun w' hw' => ⟨(b', ()), trivial, rfl, ?_⟩
  rw [if_pos rfl]
  have := (hw'.pick [0, 1] (by decide)).res
  rw [join1] at this
  exact this
theorem dkLast_spec (p : Nat) (A : Option Addr) (bv rv : Value) (told : List UInt8) (y : StP) (q : QL) (w : World) (hA : AdOk p A) (h : ∀ c ∈ dkT p A bv (ptrV y.p) rv told, c.holds w) (hsep : (dkT p A bv (ptrV y.p) rv told).Pairwise Disj) (hv : StV (SL.off w (feet (dkT p A bv (ptrV y.p) rv told))) y q) (hok : q.Ok) (hL : LF w (feet (dkT p A bv (ptrV y.p) rv told))) (ht : told.length ≤ 90000000) :
  Calls Tryz.prog 53 #[.pointer (some ⟨p, 0, none⟩)] w fun e w' => ∃ b' : Value × Unit, True ∧ e = .returned (.tuple #[]) ∧ Res w (dkT p A bv (ptrV y.p) rv told) (dkT p (some ⟨p, 0, none⟩) b'.1 (ptrV y.p) rv (told ++ ((lastL q.L q.dn).flatMap tellRes ++ tellEnd))) w' := by
 have h8 := hok.last8 hok.len
 have hcall := fun (w1 : World) (h1 : StV w1.cell? y q) => stLast_spec y q w1 h1 h8
 have hrg := lastL_regs q.L q.dn
 have hrin := lastL_in hok.inn q.dn
 refine enter (mc := dkT p A bv (ptrV y.p) rv told) (N := 29) Tryz.func53 rfl rfl rfl ?_ ?_ ?_
 ·exact h
 ·exact hsep
 generalize lastL q.L q.dn = R at *
 refine e_seq <| esr <| wm rfl rfl <| wn rfl rfl <| w_val (v_fieldAddrB (o := 2) uT55 rfl rfl Tryz.nz48 rfl) rfl <| w_val (v_loadB 0 rfl uT48 rfl rfl rfl) rfl <| w_op rfl ?_
 refine x_call (dst := some 8) (mc := []) (σ := Value) (fun _ => True) (fun sl => sl) (fun sl => [Own sl 96 5 R.length (resL R)]) rfl rfl rfl Tryz.call90 (fun w hw => hcall w (hv.mono hw.off)) rfl (fun sl _ => ?_); refine g_shape2 0 rfl (fun As ks hsl _ had => ?_); subst hsl
 refine w_val (v_lenS uT33 rfl) rfl <| wm rfl rfl <| w_nil <| e_block ?_
 refine e_loopH (σ := Nat × Option Addr × Value) [0, 8, 9] (.cons rfl (.cons rfl (.cons rfl .nil))) (fun x => [(10, .int .i64 (x.1 : Int))]) (fun x => Own (.slice As R.length ks) 96 5 R.length (resL R) :: dkT p x.2.1 x.2.2 (ptrV y.p) rv (told ++ (R.take x.1).flatMap tellRes)) (fun x => x.1 ≤ R.length ∧ AdOk p x.2.1) (fun x => R.length - x.1) (0, A, bv) ⟨Nat.zero_le _, hA⟩ (by repeat first | exact .nil _ | refine .cons rfl ?_) (fun _ hw => by simpa using hw) ?_
 rintro ⟨i, A1, bv1⟩ ⟨hi, hA1⟩
 dsimp only at hi hA1 ⊢
 have htl : ((R.take i).flatMap tellRes).length ≤ 120 * R.length := by
  have := flat_len (f := tellRes) (m := 120) (l := R.take i) (fun x hx => tellRes_len (hrg x (List.mem_of_mem_take hx)) (hrin x (List.mem_of_mem_take hx)).1 (hrin x (List.mem_of_mem_take hx)).2)
  rw [List.length_take] at this
  have : 120 * min i R.length ≤ 120 * R.length := Nat.mul_le_mul_left _ (Nat.min_le_right _ _)
  omega
 refine esr <| w_val (v_lss rfl rfl) rfl <| w_nil <| e_seq ?_
 refine e_condD rfl (fun hlt => ?_) (fun hlt => ?_)
 ·have hi' : i < R.length := by omega
  have hx4 := hrg _ (List.getElem_mem hi')
  have hxi := hrin _ (List.getElem_mem hi')
  have hat : R[i]? = some R[i] := List.getElem?_eq_getElem hi'
  have hsn : (R.take (i + 1)).flatMap tellRes = (R.take i).flatMap tellRes ++ tellRes R[i] := by rw [List.take_succ_eq_append_getElem hi', List.flatMap_append, List.flatMap_cons, List.flatMap_nil, List.append_nil]
  obtain ⟨ad, rfl⟩ := had (by omega)
  have hcode := itoa_len hxi.1
  have hlg := longs_len hxi.2
  generalize hT : told ++ (R.take i).flatMap tellRes = told1 at *
  have hT1 : told1.length ≤ 90001000 := by rw [← hT, List.length_append]; omega
  generalize R[i] = x at *
  obtain ⟨c, g⟩ := x
  dsimp only at hx4 hxi hcode hlg
  refine e_skip <| e_seq <| e_block <| esr ?_
  refine w_val (v_indexS uT33 Tryz.hi96 Tryz.cz96 rfl rfl (by first | omega | decide)) rfl ?_
  refine w_val (v_loadN uT96 rfl Tryz.hi96 (Tryz.cz96.trans (by simp [resCells, intCells, hx4])) rfl (fun w hw => own_resD (hw.mem (i := 0) rfl) hrg rfl hi' hat)) rfl ?_
  refine w_op rfl ?_
  refine x_alloc (z := .agg #[.int .i64 0, .int .i64 0, .int .i64 0, .int .i64 0, .int .i64 0]) (by intro w; exact Tryz.zeroValue96 w) rfl (fun b3 => ?_)
  refine w_op rfl ?_
  refine x_storeA (vs := (resCells c g).toArray) 0 rfl rfl rfl Tryz.hi96 (Tryz.cz96.trans (by simp [resCells, intCells, hx4])) (by simp [Value.cells, resCells, intCells, hx4]) (one_resCells _ _) ?_
  refine w_nil <| e_draw ([.blk b3 96 (resCells c g)]) Tryz.mixed <| tk 0 rfl (v_move rfl) rfl <| tk 1 rfl (v_fieldAddrB (o := 0) uT96 rfl rfl Tryz.nz3 rfl) rfl <| tk 2 rfl (v_loadB 0 rfl uT3 rfl rfl rfl) rfl <| tk 5 rfl (v_fieldAddrB (o := 1) uT96 rfl rfl Tryz.nz94 rfl) rfl ?_
  refine tk 6 rfl (v_sliceArr uT94 (by decide) Tryz.hi2 Tryz.cz2 rfl) rfl ?_
  refine t1 3 rfl rfl ?_
  refine x_call0 (v := strV (Lib.itoa c)) rfl rfl rfl Tryz.call25 rfl (fun w hw => dkNum_spec c w hxi.1 (hL.lai hw)) ?_
  refine tn ?_
  refine tk 4 rfl (v_strAdd rfl rfl (by simp only [lnA]; omega)) rfl ?_
  refine t1 7 rfl rfl ?_
  refine x_call0 (v := strV (longsL g)) rfl rfl rfl Tryz.call52 rfl (fun w hw => dkLongs_spec _ g w (ints_rds (hw.mem (i := 0) rfl) (res_regs c g) hx4.symm) hxi.2 (by omega) (hL.lai hw)) ?_
  refine tn ?_
  refine tk 8 rfl (v_strAdd rfl rfl (by simp only [lnA]; omega)) rfl ?_
  refine t1 9 rfl rfl ?_
  refine x_buildSlice _ (strC [([99, 97, 109, 101, 32] ++ Lib.itoa c) ++ longsL g]) rfl (run_buildSlice uT22 Tryz.hi9 Tryz.cz9 Tryz.zeroValue9 rfl (by kernel_rfl)) rfl (fun b23 => ?_)
  refine tn <| t1 10 rfl rfl ?_
  refine g_heap (m' := (dkT p A1 bv1 (ptrV y.p) rv (told1) ++ [Chunk.blk b23 9 (strC [([99, 97, 109, 101, 32] ++ Lib.itoa c) ++ longsL g])]) ++ [.blk b3 96 (resCells c g), Own (.slice (some ad) R.length ks) 96 5 R.length (resL R)]) (fun _ hw => hw.pick [3, 4, 0, 1, 2] (by decide)) ?_; refine x_call (dst := some 24) (mc := dkT p A1 bv1 (ptrV y.p) rv (told1) ++ [Chunk.blk b23 9 (strC [([99, 97, 109, 101, 32] ++ Lib.itoa c) ++ longsL g])]) (mr := [.blk b3 96 (resCells c g), Own (.slice (some ad) R.length ks) 96 5 R.length (resL R)]) (σ := Value) (fun _ => True) (fun _ => .tuple #[]) (fun b' => dkT p (some ⟨p, 0, none⟩) b' (ptrV y.p) rv ((told1) ++ (Lib.join [([99, 97, 109, 101, 32] ++ Lib.itoa c) ++ longsL g] [32] ++ [10]))) rfl rfl rfl Tryz.call26 (fun w hw => say_spec p A1 bv1 (ptrV y.p) rv (told1) b23 [([99, 97, 109, 101, 32] ++ Lib.itoa c) ++ longsL g] w hA1 (res_part hw).1 (res_part hw).2 (by simp) (by rw [join1]; simp only [lnA]; omega)) rfl (fun b' _ => ?_)
  refine tn <| td <| e_blk <| e_region ?_
  refine w_val (v_add rfl rfl (by omega)) rfl ?_
  refine wm rfl rfl <| w_nil ?_
  exact e_round ((i + 1, some ⟨p, 0, none⟩, b')) (⟨by dsimp only; omega, .inr rfl⟩) (by dsimp only; omega) (by repeat first | exact .nil _ | refine .cons rfl ?_) (fun _ hw => by have h9 := hw.pick [3, 0, 1] (by decide); rw [join1] at h9; dsimp only; rw [hsn, ← List.append_assoc, hT]; exact h9)
 ·have e : i = R.length := by omega
  subst e
  rw [List.take_length] at htl ⊢
  refine e_exit rfl <| e_region <| wm rfl rfl <| w_op rfl ?_
  refine x_buildSlice _ (strC [[101, 110, 100]]) rfl (run_buildSlice uT22 Tryz.hi9 Tryz.cz9 Tryz.zeroValue9 rfl (by kernel_rfl)) rfl (fun b27 => ?_)
  refine w_op rfl ?_
  refine g_heap (m' := (dkT p A1 bv1 (ptrV y.p) rv (told ++ R.flatMap tellRes) ++ [Chunk.blk b27 9 (strC [[101, 110, 100]])]) ++ [Own (.slice As R.length ks) 96 5 R.length (resL R)]) (fun _ hw => hw.pick [2, 3, 0, 1] (by decide)) ?_; refine x_call (dst := some 28) (mc := dkT p A1 bv1 (ptrV y.p) rv (told ++ R.flatMap tellRes) ++ [Chunk.blk b27 9 (strC [[101, 110, 100]])]) (mr := [Own (.slice As R.length ks) 96 5 R.length (resL R)]) (σ := Value) (fun _ => True) (fun _ => .tuple #[]) (fun b' => dkT p (some ⟨p, 0, none⟩) b' (ptrV y.p) rv ((told ++ R.flatMap tellRes) ++ (Lib.join [[101, 110, 100]] [32] ++ [10]))) rfl rfl rfl Tryz.call26 (fun w hw => say_spec p A1 bv1 (ptrV y.p) rv (told ++ R.flatMap tellRes) b27 [[101, 110, 100]] w hA1 (res_part hw).1 (res_part hw).2 (by simp) (by rw [join1]; simp only [lnA]; omega)) rfl (fun b' _ => ?_)
  refine w_nil ?_
  refine e_endQ (q_ret0 rfl ?_)
  refine fun w' hw' => ⟨(b', ()), trivial, rfl, ?_⟩
  have := (hw'.pick [0, 1] (by decide)).res
  rw [join1, List.append_assoc] at this
  exact this
end Go.SL
end
