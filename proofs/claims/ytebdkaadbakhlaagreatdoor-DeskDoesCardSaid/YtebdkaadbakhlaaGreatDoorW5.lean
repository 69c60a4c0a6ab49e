/- YtebdkaadbakhlaaGreatDoor: part W5 of this seat's own texts. -/
import Derived.Test.YtebdkaadbakhlaaGreatDoorW4
import Derived.Test.YtebdkaadbakhlaaGreatDoorP3
set_option linter.unusedVariables false
set_option linter.unusedSimpArgs false
section
open Go Go.Proofs Go.SL
set_option maxRecDepth 100000
namespace Go.SL
abbrev lgB (p : Nat) (bv ev : Value) (L : List RoundL) (k : Nat) : Chunk := .blk p 101 [bv, ev, .int .i64 (endAt L k : Int)]
abbrev lgH (p : Nat) (bv ev : Value) (L : List RoundL) (k : Nat) : Hp := [lgB p bv ev L k, Rw bv 5 1 (bytesOf L).length (byteCells (bytesOf L)), Rw ev 3 1 L.length (intCells (endsOf L))]
structure LgV (c : View) (p : Nat) (bv ev : Value) (L : List RoundL) (k : Nat) : Prop where
 cells : Cells c ⟨p, 0, none⟩ [bv, ev, .int .i64 (endAt L k : Int)]
 by_ : IsBytes c bv (bytesOf L)
 en : Rds c ev 1 L.length (intCells (endsOf L))
theorem LgV.mono {c c' : View} (hl : Le c c') {p : Nat} {bv ev : Value} {L : List RoundL} {k : Nat} (h : LgV c p bv ev L k) : LgV c' p bv ev L k := ⟨h.cells.mono hl, h.by_.mono hl, h.en.mono hl⟩
theorem LgV.of {p : Nat} {bv ev : Value} {L : List RoundL} {k : Nat} {w : World} (h : ∀ c ∈ lgH p bv ev L k, c.holds w) : LgV w.cell? p bv ev L k :=
 ⟨blk_cells (h _ (List.mem_cons_self ..)) 0 (fun j v hj => by simpa using hj), row_rds (h _ (List.mem_cons_of_mem _ (List.mem_cons_self ..))), row_rds (h _ (List.mem_cons_of_mem _ (List.mem_cons_of_mem _ (List.mem_cons_self ..))))⟩
theorem LgV.c0 {c : View} {p : Nat} {bv ev : Value} {L : List RoundL} {k : Nat} (h : LgV c p bv ev L k) : c ⟨p, 0, none⟩ = some bv := by have := h.cells 0 _ rfl; rwa [add_mk] at this
theorem LgV.c1 {c : View} {p : Nat} {bv ev : Value} {L : List RoundL} {k : Nat} (h : LgV c p bv ev L k) : c ⟨p, 0 + 1, none⟩ = some ev := by have := h.cells 1 _ rfl; rwa [add_mk] at this
theorem LgV.c2 {c : View} {p : Nat} {bv ev : Value} {L : List RoundL} {k : Nat} (h : LgV c p bv ev L k) : c ⟨p, 0 + 2, none⟩ = some (.int .i64 (endAt L k : Int)) := by have := h.cells 2 _ rfl; rwa [add_mk] at this
structure LogOk (L : List RoundL) (k : Nat) : Prop where
 len : L.length ≤ 25
 bytes : (bytesOf L).length ≤ 4000
 sure : k ≤ L.length
 all : ∀ r ∈ L, roundFaultL r = 0 ∧ ∀ d ∈ r, ∀ o ∈ d, OpIn o
theorem logNew_spec (w : World) : Calls Tryz.prog 17 #[] w fun e w' => ∃ p, True ∧ e = .returned (.pointer (some ⟨p, 0, none⟩)) ∧ Res w [] (lgH p (.slice none 0 0) (.slice none 0 0) [] 0) w' := by
 refine enter0 (N := 3) Tryz.func17 rfl rfl rfl <| esr <| wa rfl rfl <| wsr ?_
 refine w_val (v_build _ rfl (by intro _; simp [Instr.build, Instr.fill, Tryz.zeroValue101, go_sem]; rfl)) rfl ?_
 refine w_op rfl ?_
 refine x_box rfl rfl (fun b2 => ?_)
 refine wa rfl rfl <| w_nil ?_
 refine e_retQ (q_ret1 rfl (.tmp rfl) ?_)
 refine fun w' hw' => ⟨b2, trivial, rfl, ?_⟩
 exact (((hw'.rowNil 3 1).rowNil 5 1).perm (List.perm_append_comm (l₁ := [_, _]) (l₂ := [_]) |>.trans (.cons _ (.refl _)))).res
theorem logLen_spec (p : Nat) (bv ev : Value) (L : List RoundL) (k : Nat) (w : World) (h : LgV w.cell? p bv ev L k) : Calls Tryz.prog 56 #[.pointer (some ⟨p, 0, none⟩)] w fun e w' => e = .returned (.int .i64 (L.length : Int)) ∧ Res w [] [] w' := by
 rw [← off_none w] at h
 obtain ⟨Ae, ke, rfl, _, _⟩ := id h.en
 have h1 := h.c1
 refine enter0 (N := 8) Tryz.func56 rfl rfl rfl <| esr <| wa rfl rfl <| wsr <| wm rfl rfl <| wn rfl rfl <| w_val (v_fieldAddrB (o := 1) uT101 rfl rfl Tryz.nz70 rfl) rfl <| w_val (v_loadO uT70 rfl rfl (h1)) rfl <| w_val (v_lenS uT70 rfl) rfl <| wa rfl rfl <| w_nil ?_
 refine e_retQ (q_ret1 rfl (.tmp rfl) ?_)
 exact fun w' hw' => ⟨rfl, hw'.res.nil⟩
theorem logSync_spec (p : Nat) (bv ev : Value) (L : List RoundL) (k : Nat) (w : World) (h : (lgB p bv ev L k).holds w) (he : (Rw bv 5 1 (bytesOf L).length (byteCells (bytesOf L))).holds w) : Calls Tryz.prog 87 #[.pointer (some ⟨p, 0, none⟩)] w fun e w' => e = .returned (.tuple #[]) ∧ Res w [lgB p bv ev L k] [lgB p bv ev L L.length] w' := by
 obtain ⟨Ae, ke, rfl, _, _⟩ := row_rds he
 refine enter (mc := [lgB p (.slice Ae (bytesOf L).length ke) ev L k]) (N := 10) Tryz.func87 rfl rfl rfl ?_ ?_ ?_
 ·intro c hc; simp only [List.mem_singleton] at hc; subst hc; exact h
 ·simp
 refine e_region <| wm rfl rfl <| wm rfl rfl <| wn rfl rfl <| w_val (v_fieldAddrB (o := 0) uT101 rfl rfl Tryz.nz51 rfl) rfl <| w_val (v_loadB 0 rfl uT51 rfl rfl rfl) rfl <| w_val (v_lenS uT51 rfl) rfl <| wn rfl rfl <| w_val (v_fieldAddrB (o := 2) uT101 rfl rfl Tryz.nz3 rfl) rfl <| w_op rfl ?_
 refine x_store1 0 rfl rfl rfl Tryz.hi3 Tryz.cz3 rfl (by first | (simp; done) | (simp [intCells_len]; omega) | exact Nat.zero_lt_succ _) rfl ?_
 refine w_nil ?_
 refine e_endQ (q_ret0 rfl ?_)
 refine fun w' hw' => ⟨rfl, ?_⟩
 have := hw'.res
 simp only [lgB, endAt_all]
 exact this
theorem sureOne_spec (b1 p : Nat) (bv ev : Value) (L : List RoundL) (k : Nat) (x : Int) (w : World) (h1 : w.cell? ⟨b1, 0, none⟩ = some (.pointer (some ⟨p, 0, none⟩))) (h : LgV w.cell? p bv ev L k) :
  Calls Tryz.prog 95 #[.int .i64 x, .pointer (some ⟨b1, 0, none⟩)] w fun e w' => e = .returned (.bool (decide (x ≤ (endAt L k : Int)))) ∧ Res w [] [] w' := by
 rw [← off_none w] at h1 h
 have h2 := h.c2
 refine enter0 (N := 10) Tryz.func95 rfl rfl rfl <| esr <| wa rfl rfl <| wsr <| wm rfl rfl <| w_val (v_loadO uT60 rfl rfl (h1)) rfl <| wn rfl rfl <| w_val (v_fieldAddrB (o := 2) uT101 rfl rfl Tryz.nz3 rfl) rfl <| w_val (v_loadO uT3 rfl rfl (h2)) rfl <| w_val (v_leq rfl rfl) rfl <| wa rfl rfl <| w_nil ?_
 refine e_retQ (q_ret1 rfl (.tmp rfl) ?_)
 exact fun w' hw' => ⟨rfl, hw'.res.nil⟩
theorem crashOne_spec (b1 : Nat) (x y : Int) (w : World) (h1 : w.cell? ⟨b1, 0, none⟩ = some (.int .i64 y)) :
  Calls Tryz.prog 153 #[.int .i64 x, .pointer (some ⟨b1, 0, none⟩)] w fun e w' => e = .returned (.bool (decide (x ≤ y))) ∧ Res w [] [] w' := by
 rw [← off_none w] at h1
 refine enter0 (N := 7) Tryz.func153 rfl rfl rfl <| esr <| wa rfl rfl <| wsr <| wm rfl rfl <| w_val (v_loadO uT3 rfl rfl (h1)) rfl <| w_val (v_leq rfl rfl) rfl <| wa rfl rfl <| w_nil ?_
 refine e_retQ (q_ret1 rfl (.tmp rfl) ?_)
 exact fun w' hw' => ⟨rfl, hw'.res.nil⟩
def cntTo (L : List RoundL) (y : Int) (j : Nat) : Nat := ((endsOf L).take j).countP fun e => decide (e ≤ y)
theorem logCount_spec (p : Nat) (bv ev : Value) (L : List RoundL) (k : Nat) (f : FuncId) (cap : Value) (y : Int) (w : World) (h : LgV w.cell? p bv ev L k) (hL : L.length ≤ 25)
  (hcall : ∀ args w, (callFunc f args).run Tryz.prog w = .ok (.enter f args) w)
  (hf : ∀ (x : Int) (w1 : World), Le (off w (feet [])) w1.cell? → Calls Tryz.prog f #[.int .i64 x, cap] w1 fun e w' => e = .returned (.bool (decide (x ≤ y))) ∧ Res w1 [] [] w') :
  Calls Tryz.prog 94 #[.pointer (some ⟨p, 0, none⟩), .func (.func f) #[] #[cap]] w fun e w' => e = .returned (.int .i64 (cntL L y : Int)) ∧ Res w [] [] w' := by
 rw [← off_none w] at h
 obtain ⟨Ae, ke, rfl, hke, _, hc⟩ := id h.en
 have h1 := h.c1
 refine enter0 (N := 24) Tryz.func94 rfl rfl rfl <| esr <| wa rfl rfl <| wsr <| wa rfl rfl <| w_nil <| e_seq <| esr <| wm rfl rfl <| wn rfl rfl <| w_val (v_fieldAddrB (o := 1) uT101 rfl rfl Tryz.nz70 rfl) rfl <| w_val (v_loadO uT70 rfl rfl (h1)) rfl <| w_val (v_lenS uT70 rfl) rfl <| wm rfl rfl <| w_nil <| e_block ?_
 refine e_loopK (σ := Nat) [0, 1, 11, 12] (.cons rfl (.cons rfl (.cons rfl (.cons rfl .nil)))) (fun j => [(5, .int .i64 ((cntTo L y j : Nat) : Int)), (13, .int .i64 j)]) (fun j => j ≤ L.length) (fun j => L.length - j) 0 (by omega) (by repeat first | exact .nil _ | refine .cons rfl ?_) ?_
 rintro j hj
 refine esr <| w_val (v_lss rfl rfl) rfl <| w_nil <| e_seq ?_
 refine e_condD rfl (fun hlt => ?_) (fun hlt => ?_)
 ·have hlt' : j < L.length := by omega
  obtain ⟨ad, rfl, hcl⟩ := hc (by omega)
  have hat := endsOf_at hlt'
  have hcell : off w (feet []) (ad.add (((j : Int)).toNat * 1)) = some (.int .i64 (endAt L (j + 1) : Int)) := hcl _ _ (by rw [Int.toNat_natCast, Nat.mul_one]; simp [intCells, hat])
  have hlen : j < (endsOf L).length := by rw [endsOf_len]; exact hlt'
  have hget : (endsOf L)[j] = (endAt L (j + 1) : Int) := by rw [List.getElem?_eq_getElem hlen] at hat; injection hat
  have hnext : cntTo L y (j + 1) = cntTo L y j + (if (endAt L (j + 1) : Int) ≤ y then 1 else 0) := by
   unfold cntTo
   rw [List.take_succ_eq_append_getElem hlen, List.countP_append, hget]
   congr 1
   by_cases hy : (endAt L (j + 1) : Int) ≤ y <;> simp [hy]
  have hsm : cntTo L y j ≤ 25 := by
   have := List.countP_le_length (p := fun e => decide (e ≤ y)) (l := (endsOf L).take j)
   rw [List.length_take, endsOf_len] at this
   unfold cntTo
   omega
  generalize endAt L (j + 1) = E at *
  refine e_skip <| e_seq <| e_block <| esr ?_
  refine w_val (v_indexS uT70 Tryz.hi3 Tryz.cz3 rfl rfl (by first | omega | decide)) rfl ?_
  refine w_val (v_loadO uT3 rfl rfl (hcell)) rfl <| wa rfl rfl <| wsr <| wm rfl rfl <| wm rfl rfl <| w_op rfl ?_
  refine x_call0 (v := .bool (decide ((E : Int) ≤ y))) rfl rfl rfl hcall rfl (fun w hw => hf E w hw.off) ?_
  refine w_nil ?_
  refine e_condD rfl (fun hy => ?_) (fun hy => ?_)
  ·refine e_region <| wm rfl rfl ?_
   refine w_val (v_is (v' := .int .i64 (cntTo L y (j + 1) : Int)) (v_add rfl rfl (by omega)) (by rw [hnext, if_pos hy]; rfl)) rfl ?_
   refine wa rfl rfl <| w_nil <| e_blk <| e_region ?_
   refine w_val (v_add rfl rfl (by omega)) rfl ?_
   refine wm rfl rfl <| w_nil ?_
   exact e_round (j + 1) (by omega) (by omega) (by repeat first | exact .nil _ | refine .cons rfl ?_) (fun _ hw => hw)
  ·have hcc : cntTo L y j = cntTo L y (j + 1) := by rw [hnext, if_neg hy]; rfl
   rw [hcc]
   refine e_skip <| e_blk <| e_region ?_
   refine w_val (v_add rfl rfl (by omega)) rfl ?_
   refine wm rfl rfl <| w_nil ?_
   exact e_round (j + 1) (by omega) (by omega) (by repeat first | exact .nil _ | refine .cons rfl ?_) (fun _ hw => hw)
 ·obtain rfl : j = L.length := by omega
  refine e_exit rfl <| esr <| wm rfl rfl <| wa rfl rfl <| w_nil ?_
  refine e_retQ (q_ret1 rfl (.tmp rfl) ?_)
  refine fun w' hw' => ⟨?_, hw'.res.nil⟩
  unfold cntTo
  rw [List.take_of_length_le (by rw [endsOf_len]; exact Nat.le_refl _)]
  rfl
theorem logSure_spec (p : Nat) (bv ev : Value) (L : List RoundL) (k : Nat) (w : World) (h : LgV w.cell? p bv ev L k) (hL : L.length ≤ 25) (hk : k ≤ L.length) :
  Calls Tryz.prog 57 #[.pointer (some ⟨p, 0, none⟩)] w fun e w' => e = .returned (.int .i64 (k : Int)) ∧ Res w [] [] w' := by
 have hk' := cntL_end hk
 rw [← off_none w] at h
 refine enter0 (N := 6) Tryz.func57 rfl rfl rfl <| esr <| w_op rfl ?_
 refine x_box rfl rfl (fun b1 => ?_)
 refine wa rfl rfl <| wsr <| w_val (v_loadB 0 rfl uT60 rfl rfl rfl) rfl <| w_val (v_makeFunc rfl) rfl <| w_op rfl ?_
 refine x_call0 (v := .int .i64 (cntL L (endAt L k) : Int)) rfl rfl rfl Tryz.call94 rfl (fun w1 hw => logCount_spec p bv ev L k _ _ _ w1 (h.mono hw.off) hL Tryz.call95 (fun x w2 hle => sureOne_spec b1 p bv ev L k x w2 (hle _ _ (by rw [off_none, blk_cell (hw.mem (i := 0) rfl)]; rfl)) ((h.mono hw.off).mono (by rw [← off_none w1]; exact hle)))) ?_
 refine wa rfl rfl <| w_nil ?_
 refine e_retQ (q_ret1 rfl (.tmp rfl) ?_)
 exact fun w' hw' => ⟨by rw [hk'], hw'.res.nil⟩
end Go.SL
end
section
open Go Go.Proofs Go.SL
set_option maxRecDepth 100000
namespace Go.SL
theorem logCrash_spec (p : Nat) (bv ev : Value) (L : List RoundL) (k : Nat) (keep : Int) (w : World) (h : ∀ c ∈ lgH p bv ev L k, c.holds w) (hsep : (lgH p bv ev L k).Pairwise Disj) (hok : LogOk L k) :
  Calls Tryz.prog 126 #[.pointer (some ⟨p, 0, none⟩), .int .i64 keep] w fun e w' => ∃ s : Value × Value, True ∧ e = .returned (.tuple #[]) ∧ Res w (lgH p bv ev L k) (lgH p s.1 s.2 (L.take (crashL L k keep)) (crashL L k keep)) w' := by
 obtain ⟨hkn, hnL, hnl, _⟩ := crashL_spec (keep := keep) hok.sure hok.bytes
 have hke := endAt_le_all hok.sure
 have hB := hok.bytes
 have h25 := hok.len
 have hleft : leftL L k keep = min ((endAt L k : Int) + max (min keep 4000) 0) ((bytesOf L).length : Int) := rfl
 have hne := endAt_le_all hnL
 have hcr : crashL L k keep = cntL L (leftL L k keep) := rfl
 refine enter (mc := lgH p bv ev L k) (N := 58) Tryz.func126 rfl rfl rfl ?_ ?_ ?_
 ·exact h
 ·exact hsep
 refine g_shapeR2 1 rfl fun Ab kb hbv hkb _ => ?_
 subst hbv
 refine g_shapeR2 2 rfl fun Ae ke hev hke2 hAe => ?_
 subst hev
 refine e_seq <| e_draw (lgH p (.slice Ab (bytesOf L).length kb) (.slice Ae L.length ke) L k) Tryz.mixed <| tk 0 rfl (v_move rfl) rfl <| tk 1 rfl (v_nilCheck rfl) rfl <| tk 2 rfl (v_fieldAddrB (o := 2) uT101 rfl rfl Tryz.nz3 rfl) rfl <| tk 3 rfl (v_loadB 0 rfl uT3 rfl rfl rfl) rfl <| tk 4 rfl (v_move rfl) rfl <| tk 5 rfl (v_min rfl rfl) rfl <| tk 6 rfl (v_max rfl rfl) rfl ?_
 refine tk 7 rfl (v_add rfl rfl (by omega)) rfl ?_
 refine tk 8 rfl (v_move rfl) rfl <| tk 9 rfl (v_nilCheck rfl) rfl <| tk 10 rfl (v_fieldAddrB (o := 0) uT101 rfl rfl Tryz.nz51 rfl) rfl <| tk 11 rfl (v_loadB 0 rfl uT51 rfl rfl rfl) rfl <| tk 12 rfl (v_lenS uT51 rfl) rfl <| tk 13 rfl (v_min rfl rfl) rfl <| t1 14 rfl rfl ?_
 refine x_alloc (z := .int .i64 0) (by intro w; exact Tryz.zeroValue3 w) rfl (fun b4 => ?_)
 refine tn <| t1 15 rfl rfl ?_
 refine x_store1 0 rfl rfl rfl Tryz.hi3 Tryz.cz3 rfl (by first | (simp; done) | (simp [intCells_len]; omega) | exact Nat.zero_lt_succ _) rfl ?_
 refine tn <| td ?_
 rw [← hleft]
 generalize leftL L k keep = left at *
 refine esr <| wm rfl rfl <| w_val (v_makeFunc rfl) rfl <| w_op rfl ?_
 refine x_call0 (v := .int .i64 (cntL L left : Int)) rfl rfl rfl Tryz.call94 rfl (fun w1 hw => logCount_spec p _ _ L k _ _ _ w1 (LgV.of fun c hc => hw.hold c (List.mem_cons_of_mem _ hc)) h25 Tryz.call153 (fun x w2 hle => crashOne_spec b4 x left w2 (hle _ _ (by rw [off_none, blk_cell (hw.mem (i := 0) rfl)]; rfl)))) ?_
 rw [← hcr]
 generalize crashL L k keep = n at *
 refine wa rfl rfl <| wsr <| wm rfl rfl <| wm rfl rfl <| wn rfl rfl <| w_val (v_fieldAddrB (o := 1) uT101 rfl rfl Tryz.nz70 rfl) rfl <| w_val (v_loadB 1 rfl uT70 rfl rfl rfl) rfl <| wm rfl rfl <| wm rfl rfl ?_
 refine w_val (v_is (v' := .slice Ae n n) (v_sliceHM uT70 Tryz.hi3 Tryz.cz3 rfl rfl rfl (by omega)) (by rw [Int.toNat_natCast, slV_0'])) rfl ?_
 refine wn rfl rfl <| w_val (v_fieldAddrB (o := 1) uT101 rfl rfl Tryz.nz70 rfl) rfl <| w_op rfl ?_
 refine x_store1 1 rfl rfl rfl Tryz.hi70 Tryz.cz70 rfl (by first | (simp; done) | (simp [intCells_len]; omega) | exact Nat.zero_lt_succ _) rfl ?_
 refine wsr <| wa rfl rfl <| w_nil <| e_seq <| esr <| wm rfl rfl <| w_val (v_gtr rfl rfl) rfl <| w_nil <| g_cutR (j := n) 3 rfl hnL ?_
 refine e_cutK (σ := Unit) [0, 5] (.cons rfl (.cons rfl .nil)) (fun _ => [(6, .int .i64 (endAt L n : Int))]) (fun _ => True) ?_ ?_
 ·refine e_condD rfl (fun hn0 => ?_) (fun hn0 => ?_)
  ·obtain ⟨ad, rfl⟩ := hAe (by omega)
   have hlt : n - 1 < L.length := by omega
   have hat := endsOf_at hlt
   rw [show n - 1 + 1 = n from by omega] at hat
   have hj : ((intCells (endsOf L)).take (n * 1))[((n : Int) - 1).toNat * 1]? = some (.int .i64 (endAt L n : Int)) := by
    rw [show ((n : Int) - 1).toNat * 1 = n - 1 from by omega, List.getElem?_take, if_pos (by omega)]
    simp [intCells, hat]
   refine e_region <| wm rfl rfl <| wn rfl rfl <| w_val (v_fieldAddrB (o := 1) uT101 rfl rfl Tryz.nz70 rfl) rfl <| w_val (v_loadB 1 rfl uT70 rfl rfl rfl) rfl <| wm rfl rfl ?_
   refine w_val (v_sub rfl rfl (by omega)) rfl ?_
   refine w_val (v_indexS uT70 Tryz.hi3 Tryz.cz3 rfl rfl (by first | omega | decide)) rfl ?_
   refine w_val (v_loadR 3 rfl (by omega) hj uT3 rfl rfl) rfl ?_
   refine wa rfl rfl <| w_nil ?_
   exact e_cutEnd (()) (trivial) (by repeat first | exact .nil _ | refine .cons rfl ?_) (fun _ hw => hw)
  ·obtain rfl : n = 0 := by omega
   refine e_skip ?_
   exact e_cutEnd () trivial (Sub.cons (by rw [endAt_zero]; rfl) (by repeat first | exact .nil _ | refine .cons rfl ?_)) (fun _ hw => hw)
 ·rintro - -
  refine esr <| wm rfl rfl <| wm rfl rfl <| wn rfl rfl <| w_val (v_fieldAddrB (o := 0) uT101 rfl rfl Tryz.nz51 rfl) rfl <| w_val (v_loadB 1 rfl uT51 rfl rfl rfl) rfl <| wm rfl rfl <| wm rfl rfl ?_
  refine w_val (v_is (v' := .slice Ab (endAt L n) (endAt L n)) (v_sliceHM uT51 Tryz.hi5 Tryz.cz5 rfl rfl rfl (by omega)) (by rw [Int.toNat_natCast, slV_0'])) rfl ?_
  refine wn rfl rfl <| w_val (v_fieldAddrB (o := 0) uT101 rfl rfl Tryz.nz51 rfl) rfl <| w_op rfl ?_
  refine x_store1 1 rfl rfl rfl Tryz.hi51 Tryz.cz51 rfl (by first | (simp; done) | (simp [intCells_len]; omega) | exact Nat.zero_lt_succ _) rfl ?_
  refine wre <| wm rfl rfl <| wm rfl rfl <| wn rfl rfl <| w_val (v_fieldAddrB (o := 2) uT101 rfl rfl Tryz.nz3 rfl) rfl <| w_op rfl ?_
  refine x_store1 1 rfl rfl rfl Tryz.hi3 Tryz.cz3 rfl (by first | (simp; done) | (simp [intCells_len]; omega) | exact Nat.zero_lt_succ _) rfl ?_
  refine w_nil <| g_cutR (j := endAt L n) 2 rfl hne ?_
  refine e_endQ (q_ret0 rfl ?_)
  refine fun w' hw' => ⟨(.slice Ab (endAt L n) (endAt L n), .slice Ae n n), trivial, rfl, ?_⟩
  have e1 : bytesOf (L.take n) = (bytesOf L).take (endAt L n) := bytesOf_take
  have e2 : (bytesOf (L.take n)).length = endAt L n := rfl
  have e3 := endsOf_take hnL
  have e4 : (L.take n).length = n := by simp; omega
  have e5 : endAt (L.take n) n = endAt L n := endAt_take (Nat.le_refl _)
  have hr := (hw'.sub (.cons _ (List.Sublist.refl _))).res
  simp only [lgH, lgB, e2, e4, e5, e3, intCells_take]
  rw [e1, byteCells_take]
  simpa using hr
end Go.SL
end
section
open Go Go.Proofs Go.SL
set_option maxRecDepth 100000
namespace Go.SL
def putL (L : List RoundL) (r : RoundL) : List RoundL × Int × Int :=
 if roundFaultL r ≠ 0 then (L, 0, roundFaultL r) else if L.length = 25 ∨ 4000 < (bytesOf L).length + (encL r).length then (L, 0, 8) else (L ++ [r], (L.length : Int), 0)
theorem putL_bad {L : List RoundL} {r : RoundL} (h : roundFaultL r ≠ 0) : putL L r = (L, 0, roundFaultL r) := by unfold putL; rw [if_pos h]
theorem putL_full {L : List RoundL} {r : RoundL} (h : ¬ roundFaultL r ≠ 0) (h2 : L.length = 25 ∨ 4000 < (bytesOf L).length + (encL r).length) : putL L r = (L, 0, 8) := by unfold putL; rw [if_neg h, if_pos h2]
theorem putL_ok {L : List RoundL} {r : RoundL} (h : ¬ roundFaultL r ≠ 0) (h2 : ¬ (L.length = 25 ∨ 4000 < (bytesOf L).length + (encL r).length)) : putL L r = (L ++ [r], (L.length : Int), 0) := by unfold putL; rw [if_neg h, if_neg h2]
theorem logPut_spec (p : Nat) (bv ev : Value) (L : List RoundL) (k : Nat) (v : Value) (r : RoundL) (w : World) (h : ∀ c ∈ lgH p bv ev L k, c.holds w) (hsep : (lgH p bv ev L k).Pairwise Disj) (hok : LogOk L k)
  (hr : IsRound (off w (feet (lgH p bv ev L k))) v r) (hin : ∀ d ∈ r, ∀ o ∈ d, OpIn o) :
  Calls Tryz.prog 86 #[.pointer (some ⟨p, 0, none⟩), v] w fun e w' => ∃ s : Value × Value, True ∧ e = .returned (.tuple #[.int .i64 (putL L r).2.1, .int .i64 (putL L r).2.2]) ∧ Res w (lgH p bv ev L k) (lgH p s.1 s.2 (putL L r).1 k) w' := by
 have hB := hok.bytes
 have h25 := hok.len
 obtain ⟨A, kp, rfl, hle, _⟩ := hr.form
 refine enter (mc := lgH p bv ev L k) (N := 64) Tryz.func86 rfl rfl rfl ?_ ?_ ?_
 ·exact h
 ·exact hsep
 refine g_shapeR2 1 rfl fun Ab kb hbv hkb _ => ?_
 subst hbv
 refine g_shapeR2 2 rfl fun Ae ke hev hke2 hAe => ?_
 subst hev
 refine esr <| wa rfl rfl <| wa rfl rfl <| wsr <| wm rfl rfl <| w_op rfl ?_
 refine x_call (dst := some 10) (mc := []) (σ := Value) (fun _ => True) (fun sl => .tuple #[sl, .int .i64 (encodeL r).2]) (fun sl => [Own sl 5 1 (encodeL r).1.length (byteCells (encodeL r).1)]) rfl rfl rfl Tryz.call124 (fun w hw => Encode_spec _ r w (hr.mono hw.off) hin) rfl (fun vx _ => ?_)
 refine g_shape 0 rfl fun Ax kx hvx hkx => ?_
 subst hvx
 rw [encodeL_code]
 by_cases hf : roundFaultL r ≠ 0
 ·rw [putL_bad hf]
  refine wm rfl rfl <| w_val (v_extract rfl rfl) rfl <| w_val (v_extract rfl rfl) rfl <| wa rfl rfl <| wa rfl rfl <| w_nil <| e_seq <| e_block <| esr <| wm rfl rfl <| w_val (v_neq rfl rfl) rfl <| wa rfl rfl <| w_nil ?_
  refine e_condDT rfl (by omega) ?_
  refine esr <| wm rfl rfl <| wa rfl rfl <| wa rfl rfl <| w_nil ?_
  refine e_retQ (q_ret2 rfl (.tmp rfl) (.tmp rfl) ?_)
  exact fun w' hw' => ⟨(.slice Ab (bytesOf L).length kb, .slice Ae L.length ke), trivial, rfl, (hw'.sub (.cons _ (List.Sublist.refl _))).res⟩
 ·have hE : encodeL r = (encL r, 0) := by rw [encodeL, if_neg hf]
  have hok2 := okRound_of (by omega) hin
  have hlen := encL_len r
  have hlen2 := encBody_len hok2
  have hlen3 := encL_pos r
  rw [hE] at hkx ⊢
  dsimp only at hkx ⊢
  by_cases hl25 : L.length = 25
  ·rw [putL_full hf (.inl hl25)]
   refine wm rfl rfl <| w_val (v_extract rfl rfl) rfl <| w_val (v_extract rfl rfl) rfl <| wa rfl rfl <| wa rfl rfl <| w_nil <| e_seq <| e_block <| esr <| wm rfl rfl <| w_val (v_neq rfl rfl) rfl <| wa rfl rfl <| w_nil ?_
   refine e_condDF rfl (by omega) ?_
   refine e_seq <| e_region <| wm rfl rfl <| wn rfl rfl <| w_val (v_fieldAddrB (o := 1) uT101 rfl rfl Tryz.nz70 rfl) rfl <| w_val (v_loadB 1 rfl uT70 rfl rfl rfl) rfl <| w_val (v_lenS uT70 rfl) rfl ?_
   refine w_val (v_is (v' := .bool true) (v_eql rfl rfl) (by rw [decide_eq_true (by omega)])) rfl ?_
   refine wm rfl rfl <| w_skip rfl rfl rfl rfl <| w_skip rfl rfl rfl rfl <| w_skip rfl rfl rfl rfl <| w_skip rfl rfl rfl rfl <| w_skip rfl rfl rfl rfl <| w_skip rfl rfl rfl rfl <| w_skip rfl rfl rfl rfl <| w_skip rfl rfl rfl rfl <| w_skip rfl rfl rfl rfl <| w_val (v_pickT rfl rfl) rfl <| wa rfl rfl <| w_nil <| e_condT rfl <| esr <| wa rfl rfl <| wa rfl rfl <| w_nil ?_
   refine e_retQ (q_ret2 rfl (.tmp rfl) (.tmp rfl) ?_)
   exact fun w' hw' => ⟨(.slice Ab (bytesOf L).length kb, .slice Ae L.length ke), trivial, rfl, (hw'.sub (.cons _ (List.Sublist.refl _))).res⟩
  ·by_cases hbig : 4000 < (bytesOf L).length + (encL r).length
   ·rw [putL_full hf (.inr hbig)]
    refine wm rfl rfl <| w_val (v_extract rfl rfl) rfl <| w_val (v_extract rfl rfl) rfl <| wa rfl rfl <| wa rfl rfl <| w_nil <| e_seq <| e_block <| esr <| wm rfl rfl <| w_val (v_neq rfl rfl) rfl <| wa rfl rfl <| w_nil ?_
    refine e_condDF rfl (by omega) ?_
    refine e_seq <| e_region <| wm rfl rfl <| wn rfl rfl <| w_val (v_fieldAddrB (o := 1) uT101 rfl rfl Tryz.nz70 rfl) rfl <| w_val (v_loadB 1 rfl uT70 rfl rfl rfl) rfl <| w_val (v_lenS uT70 rfl) rfl ?_
    refine w_val (v_is (v' := .bool false) (v_eql rfl rfl) (by rw [decide_eq_false (by omega)])) rfl ?_
    refine wm rfl rfl <| w_want rfl rfl <| wm rfl rfl <| w_want rfl rfl <| wn rfl rfl <| w_want rfl rfl <| w_val (v_fieldAddrB (o := 0) uT101 rfl rfl Tryz.nz51 rfl) rfl <| w_want rfl rfl <| w_val (v_loadB 1 rfl uT51 rfl rfl rfl) rfl <| w_want rfl rfl <| w_val (v_lenS uT51 rfl) rfl <| w_want rfl rfl <| wm rfl rfl <| w_want rfl rfl <| w_val (v_lenS uT51 rfl) rfl <| w_want rfl rfl ?_
    refine w_val (v_add rfl rfl (by omega)) rfl ?_
    refine w_want rfl rfl ?_
    refine w_val (v_is (v' := .bool true) (v_gtr rfl rfl) (by rw [decide_eq_true (by omega)])) rfl ?_
    refine w_val (v_pickF rfl rfl) rfl <| wa rfl rfl <| w_nil <| e_condT rfl <| esr <| wa rfl rfl <| wa rfl rfl <| w_nil ?_
    refine e_retQ (q_ret2 rfl (.tmp rfl) (.tmp rfl) ?_)
    exact fun w' hw' => ⟨(.slice Ab (bytesOf L).length kb, .slice Ae L.length ke), trivial, rfl, (hw'.sub (.cons _ (List.Sublist.refl _))).res⟩
   ·rw [putL_ok hf (by omega)]
    have e1 : bytesOf (L ++ [r]) = bytesOf L ++ encL r := by rw [bytesOf_app, bytesOf_one]
    have e2 : (bytesOf (L ++ [r])).length = (bytesOf L).length + (encL r).length := by rw [e1, List.length_append]
    have e3 := endsOf_snoc L r
    have e4 : (L ++ [r]).length = L.length + 1 := by simp
    have e5 : endAt (L ++ [r]) k = endAt L k := endAt_app hok.sure
    refine wm rfl rfl <| w_val (v_extract rfl rfl) rfl <| w_val (v_extract rfl rfl) rfl <| wa rfl rfl <| wa rfl rfl <| w_nil <| e_seq <| e_block <| esr <| wm rfl rfl <| w_val (v_neq rfl rfl) rfl <| wa rfl rfl <| w_nil ?_
    refine e_condDF rfl (by omega) ?_
    refine e_seq <| e_region <| wm rfl rfl <| wn rfl rfl <| w_val (v_fieldAddrB (o := 1) uT101 rfl rfl Tryz.nz70 rfl) rfl <| w_val (v_loadB 1 rfl uT70 rfl rfl rfl) rfl <| w_val (v_lenS uT70 rfl) rfl ?_
    refine w_val (v_is (v' := .bool false) (v_eql rfl rfl) (by rw [decide_eq_false (by omega)])) rfl ?_
    refine wm rfl rfl <| w_want rfl rfl <| wm rfl rfl <| w_want rfl rfl <| wn rfl rfl <| w_want rfl rfl <| w_val (v_fieldAddrB (o := 0) uT101 rfl rfl Tryz.nz51 rfl) rfl <| w_want rfl rfl <| w_val (v_loadB 1 rfl uT51 rfl rfl rfl) rfl <| w_want rfl rfl <| w_val (v_lenS uT51 rfl) rfl <| w_want rfl rfl <| wm rfl rfl <| w_want rfl rfl <| w_val (v_lenS uT51 rfl) rfl <| w_want rfl rfl ?_
    refine w_val (v_add rfl rfl (by omega)) rfl ?_
    refine w_want rfl rfl ?_
    refine w_val (v_is (v' := .bool false) (v_gtr rfl rfl) (by rw [decide_eq_false (by omega)])) rfl ?_
    refine w_val (v_pickF rfl rfl) rfl <| wa rfl rfl <| w_nil <| e_condF rfl <| e_skip <| e_blk <| esr <| wm rfl rfl <| wm rfl rfl <| wn rfl rfl <| w_val (v_fieldAddrB (o := 0) uT101 rfl rfl Tryz.nz51 rfl) rfl <| w_val (v_loadB 1 rfl uT51 rfl rfl rfl) rfl <| wm rfl rfl <| w_op rfl ?_
    refine x_appendR (z := .int .u8 0) (n := (bytesOf L).length) (xs := byteCells (bytesOf L)) (size := 1) (bytes := 1) (k := (encL r).length) (news := byteCells (encL r)) 2 rfl rfl rfl uT51 (by kernel_rfl) rfl (by decide) (by omega) (fun w hw => own_rds (hw.mem (i := 0) rfl)) (one_byteCells _) (by omega) (by simp only [maxLen]; omega) rfl (fun bv2 => ?_)
    refine g_shapeR 2 rfl fun Ab2 kb2 hbv2 hkb2 => ?_
    subst hbv2
    refine wn rfl rfl <| w_val (v_fieldAddrB (o := 0) uT101 rfl rfl Tryz.nz51 rfl) rfl <| w_op rfl ?_
    refine x_store1 1 rfl rfl rfl Tryz.hi51 Tryz.cz51 rfl (by first | (simp; done) | (simp [intCells_len]; omega) | exact Nat.zero_lt_succ _) rfl ?_
    refine w_nil <| e_seq ?_
    refine e_cutH (σ := Value) [0] (.cons rfl .nil) (fun _ => []) (fun ev2 => [.blk p 101 [.slice Ab2 ((bytesOf L).length + (encL r).length) kb2, ev2, .int .i64 (endAt L k : Int)], Rw (.slice Ab2 ((bytesOf L).length + (encL r).length) kb2) 5 1 ((bytesOf L).length + (encL r).length) (byteCells (bytesOf L) ++ byteCells (encL r)), Rw ev2 3 1 (L.length + 1) (intCells (endsOf L) ++ intCells [(((bytesOf L).length + (encL r).length : Nat) : Int)])]) (fun _ => True) ?_ ?_
    ·refine e_draw ([]) Tryz.mixed <| tk 0 rfl (v_move rfl) rfl <| tk 1 rfl (v_move rfl) rfl <| tk 2 rfl (v_nilCheck rfl) rfl <| tk 3 rfl (v_fieldAddrB (o := 1) uT101 rfl rfl Tryz.nz70 rfl) rfl <| tk 5 rfl (v_move rfl) rfl <| tk 6 rfl (v_nilCheck rfl) rfl <| tk 7 rfl (v_fieldAddrB (o := 0) uT101 rfl rfl Tryz.nz51 rfl) rfl ?_
     refine a_all [4, 8] (by kernel_rfl) rfl ?_
     intro i hi
     simp only [List.mem_cons, List.not_mem_nil, or_false] at hi
     rcases hi with rfl | rfl
     ·refine a_op rfl rfl <| x_val (v_loadB 1 rfl uT70 rfl rfl rfl) rfl <| tn <| t1 8 rfl rfl <| x_val (v_loadB 1 rfl uT51 rfl rfl rfl) rfl <| tn <| tk 9 rfl (v_lenS uT51 rfl) rfl <| t1 10 rfl rfl ?_
      refine x_buildSlice _ (intCells [(((bytesOf L).length + (encL r).length : Nat) : Int)]) rfl (run_buildSlice uT70 Tryz.hi3 Tryz.cz3 Tryz.zeroValue3 rfl (by kernel_rfl)) rfl (fun b54 => ?_)
      refine tn <| t1 11 rfl rfl ?_
      refine x_appendRS (z := .int .i64 0) (n := L.length) (xs := intCells (endsOf L)) (size := 1) (bytes := 8) (k := 1) (news := intCells [(((bytesOf L).length + (encL r).length : Nat) : Int)]) 4 rfl rfl rfl uT70 (by kernel_rfl) rfl (by decide) (by omega) (fun w hw => blk_rds (hw.hold _ (List.mem_cons_self ..)) rfl) (by intro u hu; simp only [intCells, List.map_cons, List.map_nil, List.mem_singleton] at hu; subst hu; rfl) (by omega) (by simp only [maxLen]; omega) rfl (fun Ae2 ke2 hke2' => ?_)
      refine tn <| tk 12 rfl (v_nilCheck rfl) rfl <| tk 13 rfl (v_fieldAddrB (o := 1) uT101 rfl rfl Tryz.nz70 rfl) rfl <| t1 14 rfl rfl ?_
      refine x_store1 2 rfl rfl rfl Tryz.hi70 Tryz.cz70 rfl (by first | (simp; done) | (simp [intCells_len]; omega) | exact Nat.zero_lt_succ _) rfl ?_
      refine tn <| td ?_
      exact e_cutEnd (.slice Ae2 (L.length + 1) ke2) trivial (by repeat first | exact .nil _ | refine .cons rfl ?_) (fun _ hw => hw.sub (.cons _ (by exact .cons _ (.refl _))))
     ·refine a_op rfl rfl <| x_val (v_loadB 1 rfl uT51 rfl rfl rfl) rfl <| tn <| tk 9 rfl (v_lenS uT51 rfl) rfl ?_
      refine a_all [4, 10] (by kernel_rfl) rfl ?_
      intro i hi
      simp only [List.mem_cons, List.not_mem_nil, or_false] at hi
      rcases hi with rfl | rfl
      ·refine a_op rfl rfl <| x_val (v_loadB 1 rfl uT70 rfl rfl rfl) rfl <| tn <| t1 10 rfl rfl ?_
       refine x_buildSlice _ (intCells [(((bytesOf L).length + (encL r).length : Nat) : Int)]) rfl (run_buildSlice uT70 Tryz.hi3 Tryz.cz3 Tryz.zeroValue3 rfl (by kernel_rfl)) rfl (fun b54 => ?_)
       refine tn <| t1 11 rfl rfl ?_
       refine x_appendRS (z := .int .i64 0) (n := L.length) (xs := intCells (endsOf L)) (size := 1) (bytes := 8) (k := 1) (news := intCells [(((bytesOf L).length + (encL r).length : Nat) : Int)]) 4 rfl rfl rfl uT70 (by kernel_rfl) rfl (by decide) (by omega) (fun w hw => blk_rds (hw.hold _ (List.mem_cons_self ..)) rfl) (by intro u hu; simp only [intCells, List.map_cons, List.map_nil, List.mem_singleton] at hu; subst hu; rfl) (by omega) (by simp only [maxLen]; omega) rfl (fun Ae2 ke2 hke2' => ?_)
       refine tn <| tk 12 rfl (v_nilCheck rfl) rfl <| tk 13 rfl (v_fieldAddrB (o := 1) uT101 rfl rfl Tryz.nz70 rfl) rfl <| t1 14 rfl rfl ?_
       refine x_store1 2 rfl rfl rfl Tryz.hi70 Tryz.cz70 rfl (by first | (simp; done) | (simp [intCells_len]; omega) | exact Nat.zero_lt_succ _) rfl ?_
       refine tn <| td ?_
       exact e_cutEnd (.slice Ae2 (L.length + 1) ke2) trivial (by repeat first | exact .nil _ | refine .cons rfl ?_) (fun _ hw => hw.sub (.cons _ (by exact .cons _ (.refl _))))
      ·refine a_op rfl rfl ?_
       refine x_buildSlice _ (intCells [(((bytesOf L).length + (encL r).length : Nat) : Int)]) rfl (run_buildSlice uT70 Tryz.hi3 Tryz.cz3 Tryz.zeroValue3 rfl (by kernel_rfl)) rfl (fun b54 => ?_)
       refine tn <| t1 4 rfl rfl <| x_val (v_loadB 2 rfl uT70 rfl rfl rfl) rfl <| tn <| t1 11 rfl rfl ?_
       refine x_appendRS (z := .int .i64 0) (n := L.length) (xs := intCells (endsOf L)) (size := 1) (bytes := 8) (k := 1) (news := intCells [(((bytesOf L).length + (encL r).length : Nat) : Int)]) 4 rfl rfl rfl uT70 (by kernel_rfl) rfl (by decide) (by omega) (fun w hw => blk_rds (hw.hold _ (List.mem_cons_self ..)) rfl) (by intro u hu; simp only [intCells, List.map_cons, List.map_nil, List.mem_singleton] at hu; subst hu; rfl) (by omega) (by simp only [maxLen]; omega) rfl (fun Ae2 ke2 hke2' => ?_)
       refine tn <| tk 12 rfl (v_nilCheck rfl) rfl <| tk 13 rfl (v_fieldAddrB (o := 1) uT101 rfl rfl Tryz.nz70 rfl) rfl <| t1 14 rfl rfl ?_
       refine x_store1 2 rfl rfl rfl Tryz.hi70 Tryz.cz70 rfl (by first | (simp; done) | (simp [intCells_len]; omega) | exact Nat.zero_lt_succ _) rfl ?_
       refine tn <| td ?_
       exact e_cutEnd (.slice Ae2 (L.length + 1) ke2) trivial (by repeat first | exact .nil _ | refine .cons rfl ?_) (fun _ hw => hw.sub (.cons _ (by exact .cons _ (.refl _))))
    ·rintro ev2 -
     refine g_shapeR 2 rfl fun Ae2 ke2 hev2 hkev2 => ?_
     subst hev2
     refine esr <| wm rfl rfl <| wn rfl rfl <| w_val (v_fieldAddrB (o := 1) uT101 rfl rfl Tryz.nz70 rfl) rfl <| w_val (v_loadB 0 rfl uT70 rfl rfl rfl) rfl <| w_val (v_lenS uT70 rfl) rfl ?_
     refine w_val (v_is (v' := .int .i64 (L.length : Int)) (v_sub rfl rfl (by omega)) (by congr 1; omega)) rfl ?_
     refine wa rfl rfl <| wa rfl rfl <| w_nil ?_
     refine e_retQ (q_ret2 rfl (.tmp rfl) (.tmp rfl) ?_)
     refine fun w' hw' => ⟨(.slice Ab2 ((bytesOf L).length + (encL r).length) kb2, .slice Ae2 (L.length + 1) ke2), trivial, ?_, ?_⟩
     ·rfl
     ·have e3' : endsOf (L ++ [r]) = endsOf L ++ [(((bytesOf L).length + (encL r).length : Nat) : Int)] := by rw [e3, e2]
      simp only [lgH, lgB, e2, e3', e4, e5, intCells_app]
      rw [e1, byteCells_app]
      exact hw'.res
end Go.SL
end
section
open Go Go.Proofs Go.SL
set_option maxRecDepth 100000
namespace Go.SL
theorem bytes_slice {L : List RoundL} {i : Nat} (h : i < L.length) : ((bytesOf L).drop (endAt L i)).take (endAt L (i + 1) - endAt L i) = encL L[i] := by
 have h1 : bytesOf L = bytesOf (L.take i) ++ (encL L[i] ++ bytesOf (L.drop (i + 1))) := by
  rw [← bytesOf_one, ← bytesOf_app, ← bytesOf_app]
  congr 1
  rw [List.singleton_append, ← List.drop_eq_getElem_cons h, List.take_append_drop]
 have h2 : endAt L i = (bytesOf (L.take i)).length := rfl
 rw [endAt_succ h, Nat.add_sub_cancel_left, h2, h1, List.drop_left', List.take_left']
 ·rfl
 ·rfl
theorem logRound_none (p : Nat) (bv ev : Value) (L : List RoundL) (k : Nat) (n : Int) (w : World) (h : LgV w.cell? p bv ev L k) (hn : n < 0 ∨ (L.length : Int) ≤ n) :
  Calls Tryz.prog 92 #[.pointer (some ⟨p, 0, none⟩), .int .i64 n] w fun e w' => e = .returned (.tuple #[.slice none 0 0, .bool false]) ∧ Res w [] [] w' := by
 rw [← off_none w] at h
 obtain ⟨Ae, ke, rfl, hke, _, hc⟩ := id h.en
 have h1 := h.c1
 refine enter0 (N := 50) Tryz.func92 rfl rfl rfl <| esr <| wa rfl rfl <| wa rfl rfl <| w_nil <| e_seq <| e_seq ?_
 by_cases hn0 : n < 0
 ·refine e_region <| wm rfl rfl ?_
  refine w_val (v_is (v' := .bool true) (v_lss rfl rfl) (by rw [decide_eq_true hn0])) rfl ?_
  refine wm rfl rfl <| w_skip rfl rfl rfl rfl <| w_skip rfl rfl rfl rfl <| w_skip rfl rfl rfl rfl <| w_skip rfl rfl rfl rfl <| w_skip rfl rfl rfl rfl <| w_skip rfl rfl rfl rfl <| w_skip rfl rfl rfl rfl <| w_val (v_pickT rfl rfl) rfl <| w_nil <| e_condT rfl <| esr <| wa rfl rfl <| wa rfl rfl <| w_nil ?_
  refine e_retQ (q_ret2 rfl (.tmp rfl) (.tmp rfl) ?_)
  exact fun w' hw' => ⟨rfl, hw'.res.nil⟩
 ·refine e_region <| wm rfl rfl ?_
  refine w_val (v_is (v' := .bool false) (v_lss rfl rfl) (by rw [decide_eq_false hn0])) rfl ?_
  refine wm rfl rfl <| w_want rfl rfl <| wm rfl rfl <| w_want rfl rfl <| wm rfl rfl <| w_want rfl rfl <| wn rfl rfl <| w_want rfl rfl <| w_val (v_fieldAddrB (o := 1) uT101 rfl rfl Tryz.nz70 rfl) rfl <| w_want rfl rfl <| w_val (v_loadO uT70 rfl rfl (h1)) rfl <| w_want rfl rfl <| w_val (v_lenS uT70 rfl) rfl <| w_want rfl rfl ?_
  refine w_val (v_is (v' := .bool true) (v_geq rfl rfl) (by rw [decide_eq_true (by omega)])) rfl ?_
  refine w_val (v_pickF rfl rfl) rfl <| w_nil <| e_condT rfl <| esr <| wa rfl rfl <| wa rfl rfl <| w_nil ?_
  refine e_retQ (q_ret2 rfl (.tmp rfl) (.tmp rfl) ?_)
  exact fun w' hw' => ⟨rfl, hw'.res.nil⟩
theorem logRound_spec (p : Nat) (bv ev : Value) (L : List RoundL) (k i : Nat) (w : World) (h : LgV w.cell? p bv ev L k) (hok : LogOk L k) (hi : i < L.length) :
  Calls Tryz.prog 92 #[.pointer (some ⟨p, 0, none⟩), .int .i64 (i : Int)] w fun e w' => ∃ s : Value × (Nat → Prop), True ∧ e = .returned (.tuple #[s.1, .bool true]) ∧ Res w [] [Keep s.2 (fun c => IsRound c s.1 L[i])] w' := by
 have hB := hok.bytes
 have h25 := hok.len
 have he1 := endAt_le_all (L := L) (i := i + 1) (by omega)
 have hlt := endAt_lt hi
 have hall := hok.all L[i] (List.getElem_mem _)
 have hokr := okRound_of hall.1 hall.2
 have hdec := dec_enc roundFaultL hokr hall.1 []
 rw [List.append_nil] at hdec
 have hsl := bytes_slice hi
 rw [← off_none w] at h
 obtain ⟨Ae, ke, rfl, hke, _, hc⟩ := id h.en
 obtain ⟨Ab, kb, rfl, hkb, _, _⟩ := id h.by_
 have h1 := h.c1
 have h0 := h.c0
 obtain ⟨ad, rfl, hcl⟩ := hc (by omega)
 have hcell : off w (feet []) (ad.add (((i : Int)).toNat * 1)) = some (.int .i64 (endAt L (i + 1) : Int)) := hcl _ _ (by rw [Int.toNat_natCast, Nat.mul_one]; simp [intCells, endsOf_at hi])
 refine enter0 (N := 50) Tryz.func92 rfl rfl rfl <| esr <| wa rfl rfl <| wa rfl rfl <| w_nil <| e_seq <| e_seq <| e_region <| wm rfl rfl ?_
 refine w_val (v_is (v' := .bool false) (v_lss rfl rfl) (by rw [decide_eq_false (by omega)])) rfl ?_
 refine wm rfl rfl <| w_want rfl rfl <| wm rfl rfl <| w_want rfl rfl <| wm rfl rfl <| w_want rfl rfl <| wn rfl rfl <| w_want rfl rfl <| w_val (v_fieldAddrB (o := 1) uT101 rfl rfl Tryz.nz70 rfl) rfl <| w_want rfl rfl <| w_val (v_loadO uT70 rfl rfl (h1)) rfl <| w_want rfl rfl <| w_val (v_lenS uT70 rfl) rfl <| w_want rfl rfl ?_
 refine w_val (v_is (v' := .bool false) (v_geq rfl rfl) (by rw [decide_eq_false (by omega)])) rfl ?_
 refine w_val (v_pickF rfl rfl) rfl <| w_nil <| e_condF rfl <| e_skip <| esr <| wa rfl rfl <| w_nil <| e_seq <| esr <| wm rfl rfl <| w_val (v_gtr rfl rfl) rfl <| w_nil ?_
 refine e_cutK (σ := Unit) [0, 1] (.cons rfl (.cons rfl .nil)) (fun _ => [(6, .int .i64 (endAt L i : Int))]) (fun _ => True) ?_ ?_
 ·refine e_condD rfl (fun hn0 => ?_) (fun hn0 => ?_)
  ·have hi1 : i - 1 < L.length := by omega
   have hcell2 : off w (feet []) (ad.add (((i : Int) - 1).toNat * 1)) = some (.int .i64 (endAt L i : Int)) := hcl _ _ (by
    rw [show ((i : Int) - 1).toNat * 1 = i - 1 from by omega]
    have := endsOf_at hi1
    rw [show i - 1 + 1 = i from by omega] at this
    simp [intCells, this])
   refine e_region <| wm rfl rfl <| wn rfl rfl <| w_val (v_fieldAddrB (o := 1) uT101 rfl rfl Tryz.nz70 rfl) rfl <| w_val (v_loadO uT70 rfl rfl (h1)) rfl <| wm rfl rfl ?_
   refine w_val (v_sub rfl rfl (by omega)) rfl ?_
   refine w_val (v_indexS uT70 Tryz.hi3 Tryz.cz3 rfl rfl (by first | omega | decide)) rfl ?_
   refine w_val (v_loadO uT3 rfl rfl (hcell2)) rfl <| wa rfl rfl <| w_nil ?_
   exact e_cutEnd (()) (trivial) (by repeat first | exact .nil _ | refine .cons rfl ?_) (fun _ hw => hw)
  ·obtain rfl : i = 0 := by omega
   refine e_skip ?_
   exact e_cutEnd () trivial (Sub.cons (by rw [endAt_zero]; rfl) (by repeat first | exact .nil _ | refine .cons rfl ?_)) (fun _ hw => hw)
 ·rintro - -
  have hby := IsBytes.slice (lo := endAt L i) (hi := endAt L (i + 1)) h.by_ (by omega) he1
  rw [hsl] at hby
  have hcD := fun (w1 : World) (hl : Le (off w (feet [])) w1.cell?) => Decode_spec _ (encL L[i]) w1 (hby.mono hl)
  rw [hdec] at hcD
  dsimp only at hcD
  generalize L[i] = r at *
  refine e_seq <| e_draw ([]) Tryz.mixed <| tk 0 rfl (v_move rfl) rfl <| tk 1 rfl (v_nilCheck rfl) rfl <| tk 2 rfl (v_fieldAddrB (o := 0) uT101 rfl rfl Tryz.nz51 rfl) rfl <| tk 3 rfl (v_loadO uT51 rfl rfl (h0)) rfl <| tk 4 rfl (v_move rfl) rfl <| tk 5 rfl (v_move rfl) rfl <| tk 6 rfl (v_nilCheck rfl) rfl <| tk 7 rfl (v_fieldAddrB (o := 1) uT101 rfl rfl Tryz.nz70 rfl) rfl <| tk 8 rfl (v_loadO uT70 rfl rfl (h1)) rfl <| tk 9 rfl (v_move rfl) rfl ?_
  refine tk 10 rfl (v_indexS uT70 Tryz.hi3 Tryz.cz3 rfl rfl (by first | omega | decide)) rfl ?_
  refine tk 11 rfl (v_loadO uT3 rfl rfl (hcell)) rfl ?_
  refine tk 12 rfl (v_sliceLH uT51 Tryz.hi5 Tryz.cz5 rfl rfl rfl (by omega)) rfl ?_
  refine t1 13 rfl rfl ?_
  refine x_call (dst := some 45) (mc := []) (σ := Value × (Nat → Prop)) (fun _ => True) (fun s => .tuple #[s.1, .int .i64 (encL r).length, .int .i64 0]) (fun s => [Keep s.2 (fun c => IsRound c s.1 r)]) rfl rfl rfl Tryz.call128 (fun w hw => hcD w hw.off) rfl (fun s _ => ?_)
  refine tn <| tk 14 rfl (v_move rfl) rfl <| tk 15 rfl (v_extract rfl rfl) rfl <| tk 16 rfl (v_extract rfl rfl) rfl <| tk 17 rfl (v_extract rfl rfl) rfl <| tk 18 rfl (v_assign rfl) rfl <| tk 19 rfl (v_assign rfl) rfl <| tk 20 rfl (v_assign rfl) rfl <| td <| esr <| wm rfl rfl <| wa rfl rfl <| wa rfl rfl <| w_nil ?_
  refine e_retQ (q_ret2 rfl (.tmp rfl) (.tmp rfl) ?_)
  exact fun w' hw' => ⟨s, trivial, rfl, hw'.res⟩
end Go.SL
end
