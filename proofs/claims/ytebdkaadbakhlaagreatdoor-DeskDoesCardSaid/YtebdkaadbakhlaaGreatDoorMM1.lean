/- YtebdkaadbakhlaaGreatDoor: part MM1 of this seat's own texts. -/
import Derived.Test.YtebdkaadbakhlaaGreatDoorX2
import Derived.Test.YtebdkaadbakhlaaGreatDoorX3
import Derived.Test.YtebdkaadbakhlaaGreatDoorWA
set_option linter.unusedVariables false
set_option linter.unusedSimpArgs false
section
open Go Go.Proofs Go.SL
set_option maxRecDepth 100000
set_option maxHeartbeats 4000000
namespace Go.SL
def stR (pl dn : Nat) (z : List Int) (lv : Value) : List Value := ptrV pl :: .int .i64 (dn : Int) :: (intCells z ++ [lv])
section
variable {pl dn : Nat} {z : List Int} {lv : Value}
theorem stR_len (h : z.length = 10) : (stR pl dn z lv).length = 13 := by simp [stR, intCells, h]
theorem stR_st (h : z.length = 10) : ((stR pl dn z lv).drop (0 + 2)).take 10 = intCells z := by
 show (intCells z ++ [lv]).take 10 = _
 rw [List.take_left' (by simp [intCells, h])]
theorem stR_st_set (h : z.length = 10) (y : List Int) : (stR pl dn z lv).take (0 + 2) ++ intCells y ++ (stR pl dn z lv).drop (0 + 2 + 10) = stR pl dn y lv := by
 have : (stR pl dn z lv).drop (0 + 2 + 10) = [lv] := by
  show (intCells z ++ [lv]).drop 10 = _
  rw [List.drop_left' (by simp [intCells, h])]
 rw [this]
 rfl
theorem stR_last (h : z.length = 10) : (stR pl dn z lv)[0 + 12]? = some lv := by
 show (intCells z ++ [lv])[10]? = _
 rw [at_app (j := 0) (by simp [intCells, h])]; rfl
theorem stR_last_set (h : z.length = 10) (v : Value) : (stR pl dn z lv).set (0 + 12) v = stR pl dn z v := by
 show ptrV pl :: .int .i64 (dn : Int) :: ((intCells z ++ [lv]).set 10 v) = _
 rw [set_app (j := 0) (by simp [intCells, h])]; rfl
end
structure StP where
 p : Nat
 pl : Nat
 bv : Value
 ev : Value
 A : Option Addr
 kk : Nat
abbrev stB (y : StP) (q : QL) : Chunk := .blk y.p 63 (stR y.pl q.dn (stL q.L q.dn) (.slice y.A (lastL q.L q.dn).length (lastL q.L q.dn).length))
abbrev stO (y : StP) (q : QL) : Chunk := Own (.slice y.A (lastL q.L q.dn).length y.kk) 96 5 (lastL q.L q.dn).length (resL (lastL q.L q.dn))
abbrev stH (y : StP) (q : QL) : Hp := [stB y q, stO y q] ++ lgH y.pl y.bv y.ev q.L q.k
structure StV (c : View) (y : StP) (q : QL) : Prop where
 cells : Cells c ⟨y.p, 0, none⟩ (stR y.pl q.dn (stL q.L q.dn) (.slice y.A (lastL q.L q.dn).length (lastL q.L q.dn).length))
 last : Rds c (.slice y.A (lastL q.L q.dn).length y.kk) 5 (lastL q.L q.dn).length (resL (lastL q.L q.dn))
 lg : LgV c y.pl y.bv y.ev q.L q.k
theorem StV.mono {c c' : View} (hl : Le c c') {y : StP} {q : QL} (h : StV c y q) : StV c' y q := ⟨h.cells.mono hl, h.last.mono hl, h.lg.mono hl⟩
theorem StV.of {w0 w : World} {F : Nat → Prop} {m : Hp} {y : StP} {q : QL} (h : St w0 F m w) (hm : ∀ c ∈ stH y q, c ∈ m) : StV w.cell? y q :=
 ⟨blk_cells (h.hold _ (hm (stB y q) (by simp))) 0 (fun j v hj => by simpa using hj), own_rds (h.hold _ (hm (stO y q) (by simp))), LgV.of fun c hc => h.hold c (hm c (List.mem_append_right _ hc))⟩
theorem StV.c0 {c : View} {y : StP} {q : QL} (h : StV c y q) : c ⟨y.p, 0 + 0, none⟩ = some (ptrV y.pl) := by have := h.cells 0 _ rfl; rwa [add_mk] at this
theorem StV.c1 {c : View} {y : StP} {q : QL} (h : StV c y q) : c ⟨y.p, 0 + 1, none⟩ = some (.int .i64 (q.dn : Int)) := by have := h.cells 1 _ rfl; rwa [add_mk] at this
theorem StV.c12 {c : View} {y : StP} {q : QL} (h : StV c y q) : c ⟨y.p, 0 + 12, none⟩ = some (.slice y.A (lastL q.L q.dn).length (lastL q.L q.dn).length) := by
 have := h.cells (0 + 12) _ (stR_last (stL_len _ _))
 rwa [add_mk] at this
theorem StV.c2 {c : View} {y : StP} {q : QL} (h : StV c y q) : Cells c ⟨y.p, 0 + 2, none⟩ (intCells (stL q.L q.dn)) := fun j v hj => by
 have hlt := (List.getElem?_eq_some_iff.1 hj).1
 have := h.cells (0 + 2 + j) v (by
  rw [← stR_st (pl := y.pl) (dn := q.dn) (lv := .slice y.A (lastL q.L q.dn).length (lastL q.L q.dn).length) (stL_len q.L q.dn), List.getElem?_take] at hj
  split at hj
  ·rwa [List.getElem?_drop] at hj
  ·cases hj)
 rw [add_mk] at this ⊢
 rwa [show 0 + (0 + 2 + j) = 0 + 2 + j from by omega] at this
theorem stNew_spec (w : World) : Calls Tryz.prog 10 #[] w fun e w' => ∃ y : StP, True ∧ e = .returned (.pointer (some ⟨y.p, 0, none⟩)) ∧ Res w [] (stH y ⟨[], 0, 0⟩) w' := by
 refine enter0 (N := 4) Tryz.func10 rfl rfl rfl <| esr <| wa rfl rfl <| wsr <| w_op rfl ?_
 refine x_call (dst := some 1) (mc := []) (σ := Nat) (fun _ => True) (fun p => .pointer (some ⟨p, 0, none⟩)) (fun p => lgH p (.slice none 0 0) (.slice none 0 0) [] 0) rfl rfl rfl Tryz.call17 (fun w _ => logNew_spec w) rfl (fun pl _ => ?_)
 refine w_val (v_build (v := .agg (stR pl 0 zero10 (.slice none 0 0)).toArray) _ rfl (by intro _; simp [Instr.build, Instr.fill, Tryz.zeroValue63, stR, intCells, ptrV, go_sem]; rfl)) rfl ?_
 refine w_op rfl ?_
 refine x_box rfl rfl (fun b3 => ?_)
 refine wa rfl rfl <| w_nil ?_
 refine e_retQ (q_ret1 rfl (.tmp rfl) ?_)
 exact fun w' hw' => ⟨⟨b3, pl, .slice none 0 0, .slice none 0 0, none, 0⟩, trivial, rfl, ((hw'.ownNil 96 5).pick [1, 0, 2, 3, 4] (by decide)).res⟩
theorem stDone_spec (y : StP) (q : QL) (w : World) (h : StV w.cell? y q) : Calls Tryz.prog 58 #[.pointer (some ⟨y.p, 0, none⟩)] w fun e w' => e = .returned (.int .i64 (q.dn : Int)) ∧ Res w [] [] w' := by
 rw [← off_none w] at h
 have h1 := h.c1
 refine enter0 (N := 7) Tryz.func58 rfl rfl rfl <| esr <| wa rfl rfl <| wsr <| wm rfl rfl <| wn rfl rfl <| w_val (v_fieldAddrB (o := 1) uT63 rfl rfl Tryz.nz3 rfl) rfl <| w_val (v_loadO uT3 rfl rfl (h1)) rfl <| wa rfl rfl <| w_nil ?_
 refine e_retQ (q_ret1 rfl (.tmp rfl) ?_)
 exact fun w' hw' => ⟨rfl, hw'.res.nil⟩
theorem stState_spec (y : StP) (q : QL) (w : World) (h : StV w.cell? y q) : Calls Tryz.prog 51 #[.pointer (some ⟨y.p, 0, none⟩)] w fun e w' => e = .returned (intsV (stL q.L q.dn)) ∧ Res w [] [] w' := by
 rw [← off_none w] at h
 have h2 := h.c2
 have hz := stL_len q.L q.dn
 generalize stL q.L q.dn = z at *
 obtain ⟨z0, z1, z2, z3, z4, z5, z6, z7, z8, z9, rfl⟩ := list10 hz
 refine enter0 (N := 7) Tryz.func51 rfl rfl rfl <| esr <| w_op rfl ?_
 refine x_alloc (z := .agg #[.int .i64 0, .int .i64 0, .int .i64 0, .int .i64 0, .int .i64 0, .int .i64 0, .int .i64 0, .int .i64 0, .int .i64 0, .int .i64 0]) (by intro w; exact Tryz.zeroValue32 w) rfl (fun b2 => ?_)
 refine wsr <| wm rfl rfl <| wn rfl rfl <| w_val (v_fieldAddrB (o := 2) uT63 rfl rfl Tryz.nz32 rfl) rfl <| w_val (v_loadON uT32 rfl Tryz.hi32 rfl (h2) Tryz.cz32) rfl <| w_op rfl ?_
 refine x_storeA 0 rfl rfl rfl Tryz.hi32 Tryz.cz32 rfl (by first | (simp [Value.oneCell', opCells]; done) | assumption | exact one_ints _ | exact one_resCells _ _ | exact one_slotC _) ?_
 refine w_nil ?_
 refine e_retQ (q_ret1 rfl (ResV.agg 0 rfl rfl (by rw [isAggD, uT32]; rfl) (Tryz.cz32) Tryz.hi32) ?_)
 exact fun w' hw' => ⟨rfl, hw'.res.nil⟩
theorem cloneR_spec (v : Value) (d : ResL) (w : World) (h : Rds w.cell? v 5 d.length (resL d)) (hl : d.length ≤ 1000) : Calls Tryz.prog 127 #[v] w fun e w' => ∃ sl, True ∧ e = .returned sl ∧ Res w [] [Own sl 96 5 d.length (resL d)] w' := by
 have h0 := h
 rw [← off_none w] at h h0
 obtain ⟨A, k, rfl, hk, _, hc⟩ := h
 refine enter0 (N := 8) Tryz.func127 rfl rfl rfl <| esr <| wa rfl rfl <| w_nil <| e_seq <| esr <| wm rfl rfl ?_
 refine w_val (v_eqlNil uT33 (by kernel_rfl) rfl rfl) rfl ?_
 refine w_nil ?_
 refine e_cond rfl (fun hn => ?_) (fun hn => ?_)
 ·have hnil : d = [] := by
   cases d with
   | nil => rfl
   | cons x xs =>
    obtain ⟨ad, rfl, _⟩ := hc (by simp)
    cases hn
  subst hnil
  refine esr <| wa rfl rfl <| w_nil ?_
  refine e_retQ (q_ret1 rfl (.tmp rfl) ?_)
  exact fun w' hw' => ⟨.slice none 0 0, trivial, rfl, (hw'.ownNil _ _).res⟩
 ·refine e_skip <| esr <| w_op rfl ?_
  refine x_buildSlice [] [] rfl (run_buildSlice0 uT33 Tryz.hi96 Tryz.cz96) rfl (fun b5 => ?_)
  refine wm rfl rfl ?_
  refine g_own (size := 5) (n := 0) 0 rfl rfl (by decide) ?_
  refine w_op rfl ?_
  refine x_appendI (z := .agg #[.int .i64 0, .int .i64 0, .int .i64 0, .int .i64 0, .int .i64 0]) (n := 0) (xs := []) (size := 5) (bytes := 40) (k := d.length) (news := resL d) 0 rfl rfl rfl uT33 (by kernel_rfl) rfl (by decide) (fun w hw => h0.mono hw.off) (fun u hu => by (simp only [resL, List.mem_flatMap] at hu; obtain ⟨x, _, hx⟩ := hu; exact one_resCells x.1 x.2 u (by simpa using hx))) (by omega) (by simp only [maxLen]; omega) rfl (fun v7 => ?_)
  refine wa rfl rfl <| w_nil ?_
  refine e_retQ (q_ret1 rfl (.tmp rfl) ?_)
  refine fun w' hw' => ⟨v7, trivial, rfl, ?_⟩
  have := hw'.res
  simp only [List.set_cons_zero, List.nil_append, Nat.zero_add] at this
  exact this
theorem stLast_spec (y : StP) (q : QL) (w : World) (h : StV w.cell? y q) (hl : (lastL q.L q.dn).length ≤ 8) : Calls Tryz.prog 90 #[.pointer (some ⟨y.p, 0, none⟩)] w fun e w' => ∃ sl, True ∧ e = .returned sl ∧ Res w [] [Own sl 96 5 (lastL q.L q.dn).length (resL (lastL q.L q.dn))] w' := by
 rw [← off_none w] at h
 have h12 := h.c12
 refine enter0 (N := 8) Tryz.func90 rfl rfl rfl <| esr <| wa rfl rfl <| wsr <| wm rfl rfl <| wn rfl rfl <| w_val (v_fieldAddrB (o := 12) uT63 rfl rfl Tryz.nz33 rfl) rfl <| w_val (v_loadO uT33 rfl rfl (h12)) rfl <| w_op rfl ?_
 refine x_call (dst := some 7) (mc := []) (σ := Value) (fun _ => True) (fun sl => sl) (fun sl => [Own sl 96 5 (lastL q.L q.dn).length (resL (lastL q.L q.dn))]) rfl rfl rfl Tryz.call127 (fun w hw => cloneR_spec _ (lastL q.L q.dn) w (rds_clip ((h.mono hw.off).last)) (by omega)) rfl (fun sl _ => ?_)
 refine wa rfl rfl <| w_nil ?_
 refine e_retQ (q_ret1 rfl (.tmp rfl) ?_)
 exact fun w' hw' => ⟨sl, trivial, rfl, hw'.res⟩
end Go.SL
end
section
open Go Go.Proofs Go.SL
set_option maxRecDepth 100000
set_option maxHeartbeats 4000000
namespace Go.SL
theorem stL_next (L : List RoundL) (n : Nat) : stL L (n + 1) = stAt (stL L n) (L.getD n []) (L.getD n []).length := rfl
theorem lastL_next (L : List RoundL) (n : Nat) : lastL L (n + 1) = resAll (stL L n) (L.getD n []) := rfl
theorem stRun_spec (y : StP) (q : QL) (vp : Value) (p : List Int) (w : World) (h : ∀ c ∈ stH y q, c.holds w) (hsep : (stH y q).Pairwise Disj) (hok : q.Ok) (hp : IsInts (off w (feet (stH y q))) vp p) :
  Calls Tryz.prog 88 #[.pointer (some ⟨y.p, 0, none⟩), vp] w fun e w' => ∃ x : Option Addr × Nat, True ∧ e = .returned (.int .i64 (runQ q p.length).2) ∧ Res w (stH y q) (stH ⟨y.p, y.pl, y.bv, y.ev, x.1, x.2⟩ (runQ q p.length).1) w' := by
 have hz := stL_len q.L q.dn
 have hlen := hok.len
 have hkl := hok.log.sure
 have hdk := hok.dn
 have h25 := hok.log.len
 obtain ⟨Ap, kpp, rfl, hlep, hpc⟩ := hp.form
 refine enter (mc := stH y q) (N := 65) Tryz.func88 rfl rfl rfl ?_ ?_ ?_
 ·exact h
 ·exact hsep
 by_cases hdl : q.dn < q.L.length
 ·have hgd : q.L.getD q.dn [] = q.L[q.dn] := by simp [List.getD, hdl]
  have hf := hok.fault hdl
  have hround := fun (w1 : World) (hv : LgV w1.cell? y.pl y.bv y.ev q.L q.k) => logRound_spec y.pl y.bv y.ev q.L q.k q.dn w1 hv hok.log hdl
  rw [← hgd] at hround
  refine esr <| wa rfl rfl <| w_nil <| e_seq <| e_draw (stH y q) Tryz.mixed <| tk 0 rfl (v_move rfl) rfl <| tk 1 rfl (v_nilCheck rfl) rfl <| tk 2 rfl (v_fieldAddrB (o := 0) uT63 rfl rfl Tryz.nz60 rfl) rfl <| tk 3 rfl (v_loadB 0 rfl uT60 rfl rfl rfl) rfl <| tk 4 rfl (v_move rfl) rfl <| tk 5 rfl (v_nilCheck rfl) rfl <| tk 6 rfl (v_fieldAddrB (o := 1) uT63 rfl rfl Tryz.nz3 rfl) rfl <| tk 7 rfl (v_loadB 0 rfl uT3 rfl rfl rfl) rfl <| t1 8 rfl rfl ?_
  refine x_call (dst := some 19) (mc := []) (σ := Value × (Nat → Prop)) (fun _ => True) (fun s => .tuple #[s.1, .bool true]) (fun s => [Keep s.2 (fun c => IsRound c s.1 (q.L.getD q.dn []))]) rfl rfl rfl Tryz.call92 (fun w hw => hround w (StV.of hw (fun c hc => hc)).lg) rfl (fun s _ => ?_); obtain ⟨rv, G⟩ := s; dsimp only
  refine tn <| tk 9 rfl (v_move rfl) rfl <| tk 10 rfl (v_extract rfl rfl) rfl <| tk 11 rfl (v_extract rfl rfl) rfl <| tk 12 rfl (v_assign rfl) rfl <| tk 13 rfl (v_assign rfl) rfl <| td ?_
  by_cases hdk2 : q.dn < q.k
  ·refine e_seq <| e_seq <| e_draw (stH y q) Tryz.mixed <| tk 0 rfl (v_move rfl) rfl <| tk 1 rfl (v_not rfl) rfl <| tk 2 rfl (v_move rfl) rfl <| tw 3 rfl rfl rfl (v_move rfl) rfl <| tw 4 rfl rfl rfl (v_nilCheck rfl) rfl <| tw 5 rfl rfl rfl (v_fieldAddrB (o := 1) uT63 rfl rfl Tryz.nz3 rfl) rfl <| tw 6 rfl rfl rfl (v_loadB 0 rfl uT3 rfl rfl rfl) rfl <| tw 7 rfl rfl rfl (v_move rfl) rfl <| tw 8 rfl rfl rfl (v_nilCheck rfl) rfl <| tw 9 rfl rfl rfl (v_fieldAddrB (o := 0) uT63 rfl rfl Tryz.nz60 rfl) rfl <| tw 10 rfl rfl rfl (v_loadB 0 rfl uT60 rfl rfl rfl) rfl <| t1w 11 rfl rfl rfl ?_
   refine x_call0 (v := .int .i64 (q.k : Int)) rfl rfl rfl Tryz.call57 rfl (fun w hw => logSure_spec y.pl y.bv y.ev q.L q.k w (StV.of hw (fun c hc => List.mem_cons_of_mem _ hc)).lg h25 hkl) ?_
   refine tn ?_
   refine tw 12 rfl rfl rfl (v_is (v' := .bool false) (v_geq rfl rfl) (by rw [decide_eq_false (by omega)])) rfl ?_
   refine tk 13 rfl (v_pickF rfl rfl) rfl <| td <| e_condF rfl ?_
   by_cases h300 : p.length ≤ 300
   ·have hq : runQ q p.length = (⟨q.L, q.k, q.dn + 1⟩, 0) := by unfold runQ; rw [if_pos hdk2, if_neg (by omega)]
    have hst1 := stL_next q.L q.dn
    have hla1 := lastL_next q.L q.dn
    have hral := resAll_len (stL q.L q.dn) (q.L.getD q.dn [])
    have hz2 := stL_len q.L (q.dn + 1)
    rw [hq]
    dsimp only
    refine e_skip <| esr <| wm rfl rfl <| wn rfl rfl <| w_val (v_fieldAddrB (o := 2) uT63 rfl rfl Tryz.nz32 rfl) rfl ?_
    refine w_val (v_loadBN (cs' := intCells (stL q.L q.dn)) 1 rfl uT32 rfl Tryz.hi32 Tryz.cz32 rfl (stR_st hz) (by simp [intCells, hz])) rfl ?_
    refine wm rfl rfl <| wm rfl rfl <| w_op rfl ?_
    refine x_call (dst := some 43) (mc := []) (σ := Option Addr × Nat) (fun x => (q.L.getD q.dn []).length ≤ x.2) (fun x => .tuple #[intsV (stL q.L (q.dn + 1)), .slice x.1 (q.L.getD q.dn []).length (q.L.getD q.dn []).length, .int .i64 0]) (fun x => [Own (.slice x.1 (q.L.getD q.dn []).length x.2) 96 5 (q.L.getD q.dn []).length (resL (resAll (stL q.L q.dn) (q.L.getD q.dn [])))]) rfl rfl rfl Tryz.call125 (fun w hw => rdRun_ok (stL q.L q.dn) rv _ (q.L.getD q.dn []) p w (keep_all (IsRound.up _ _) (hw.mem (i := 0) rfl)) hz (Rds.mono hw.off hp) hf h300) rfl (fun x hx => ?_); obtain ⟨A1, k1⟩ := x; dsimp only at hx; dsimp only
    refine wm rfl rfl <| w_val (v_extract rfl rfl) rfl <| w_val (v_extract rfl rfl) rfl <| w_val (v_extract rfl rfl) rfl <| w_op rfl ?_
    refine x_alloc (z := .agg #[.int .i64 0, .int .i64 0, .int .i64 0, .int .i64 0, .int .i64 0, .int .i64 0, .int .i64 0, .int .i64 0, .int .i64 0, .int .i64 0]) (by intro w; exact Tryz.zeroValue32 w) rfl (fun b7 => ?_)
    refine w_op rfl ?_
    refine x_storeA 0 rfl rfl rfl Tryz.hi32 (Tryz.cz32.trans (by simp [Value.cells, intsV, resCells, intCells, hz, hz2])) (by simp [Value.cells, intsV, resCells, intCells, hz, hz2]) (by first | exact one_intCells _ | exact one_resCells _ _) ?_
    refine wa rfl rfl <| wa rfl rfl <| w_nil <| e_seq <| esr <| wm rfl rfl ?_
    refine w_val (v_is (v' := .bool false) (v_neq rfl rfl) (by rfl)) rfl ?_
    refine w_nil <| e_condF rfl <| e_skip <| esr <| wm rfl rfl <| wm rfl rfl ?_
    refine w_val (v_loadBN (cs' := intCells (stL q.L (q.dn + 1))) 0 rfl uT32 rfl Tryz.hi32 Tryz.cz32 rfl (by show (intCells (stL q.L (q.dn + 1))).take 10 = _; exact List.take_of_length_le (by simp [intCells, hz2])) (by simp [intCells, hz2])) rfl ?_
    refine wm rfl rfl <| wn rfl rfl <| w_val (v_fieldAddrB (o := 2) uT63 rfl rfl Tryz.nz32 rfl) rfl <| w_op rfl ?_
    refine x_store 3 rfl rfl rfl Tryz.hi32 (Tryz.cz32.trans (by simp [Value.cells, intCells, hz2])) (by rw [stR_len hz]; simp [Value.cells, intCells, hz2]) (one_intCells _) (stR y.pl q.dn (stL q.L (q.dn + 1)) (.slice y.A (lastL q.L q.dn).length (lastL q.L q.dn).length)) (by rw [show (Value.agg (intCells (stL q.L (q.dn + 1))).toArray).cells.size = 10 from by simp [Value.cells, intCells, hz2]]; exact stR_st_set hz _) ?_
    refine wn rfl rfl <| w_val (v_fieldAddrB (o := 12) uT63 rfl rfl Tryz.nz33 rfl) rfl <| w_op rfl ?_
    refine x_store1 3 rfl rfl rfl Tryz.hi33 Tryz.cz33 rfl (by rw [stR_len hz2]; decide) rfl ?_; rw [stR_last_set hz2]
    refine wsr <| wm rfl rfl <| wn rfl rfl <| w_val (v_fieldAddrB (o := 1) uT63 rfl rfl Tryz.nz3 rfl) rfl <| w_val (v_loadB 3 rfl uT3 rfl rfl rfl) rfl ?_
    refine w_val (v_add rfl rfl (by omega)) rfl ?_
    refine wn rfl rfl <| w_val (v_fieldAddrB (o := 1) uT63 rfl rfl Tryz.nz3 rfl) rfl <| w_op rfl ?_
    refine x_store1 3 rfl rfl rfl Tryz.hi3 Tryz.cz3 rfl (by rw [stR_len hz2]; decide) rfl ?_
    refine wsr <| wa rfl rfl <| w_nil ?_
    refine e_retQ (q_ret1 rfl (.tmp rfl) ?_)
    refine fun w' hw' => ⟨(A1, k1), trivial, rfl, ?_⟩
    show Res _ _ ([.blk y.p 63 (stR y.pl (q.dn + 1) (stL q.L (q.dn + 1)) (.slice A1 (lastL q.L (q.dn + 1)).length (lastL q.L (q.dn + 1)).length)), Own (.slice A1 (lastL q.L (q.dn + 1)).length k1) 96 5 (lastL q.L (q.dn + 1)).length (resL (lastL q.L (q.dn + 1)))] ++ lgH y.pl y.bv y.ev q.L q.k) _
    rw [hla1, hral]
    exact (hw'.pick [3, 1, 5, 6, 7] (by decide)).res
   ·have hq : runQ q p.length = (q, 4) := by unfold runQ; rw [if_pos hdk2, if_pos (by omega)]
    have e : runC (q.L.getD q.dn []) p.length = 4 := by unfold runC; rw [if_neg (fun h => h hf), if_pos (by omega)]
    have hrun := fun (w1 : World) (v1 v2 : Value) (h1 : IsRound w1.cell? v1 (q.L.getD q.dn [])) (h2 : IsInts w1.cell? v2 p) => rdRun_bad (stL q.L q.dn) v1 v2 (q.L.getD q.dn []) p w1 h1 hz h2 (by rw [e]; decide)
    rw [e] at hrun
    rw [hq]
    dsimp only
    refine e_skip <| esr <| wm rfl rfl <| wn rfl rfl <| w_val (v_fieldAddrB (o := 2) uT63 rfl rfl Tryz.nz32 rfl) rfl ?_
    refine w_val (v_loadBN (cs' := intCells (stL q.L q.dn)) 1 rfl uT32 rfl Tryz.hi32 Tryz.cz32 rfl (stR_st hz) (by simp [intCells, hz])) rfl ?_
    refine wm rfl rfl <| wm rfl rfl <| w_op rfl ?_
    refine x_call0 (v := .tuple #[intsV zero10, .slice none 0 0, .int .i64 4]) rfl rfl rfl Tryz.call125 rfl (fun w hw => hrun w _ _ (keep_all (IsRound.up _ _) (hw.mem (i := 0) rfl)) (Rds.mono hw.off hp)) ?_
    refine wm rfl rfl <| w_val (v_extract rfl rfl) rfl <| w_val (v_extract rfl rfl) rfl <| w_val (v_extract rfl rfl) rfl <| w_op rfl ?_
    refine x_alloc (z := .agg #[.int .i64 0, .int .i64 0, .int .i64 0, .int .i64 0, .int .i64 0, .int .i64 0, .int .i64 0, .int .i64 0, .int .i64 0, .int .i64 0]) (by intro w; exact Tryz.zeroValue32 w) rfl (fun b7 => ?_)
    refine w_op rfl ?_
    refine x_storeA 0 rfl rfl rfl Tryz.hi32 (Tryz.cz32.trans (by simp [Value.cells, intsV, resCells, intCells, hz, zero10_len])) (by simp [Value.cells, intsV, resCells, intCells, hz, zero10_len]) (by first | exact one_intCells _ | exact one_resCells _ _) ?_
    refine wa rfl rfl <| wa rfl rfl <| w_nil <| e_seq <| esr <| wm rfl rfl ?_
    refine w_val (v_is (v' := .bool true) (v_neq rfl rfl) (by rfl)) rfl ?_
    refine w_nil <| e_condT rfl <| esr <| wm rfl rfl <| wa rfl rfl <| w_nil ?_
    refine e_retQ (q_ret1 rfl (.tmp rfl) ?_)
    exact fun w' hw' => ⟨(y.A, y.kk), trivial, rfl, (hw'.pick [2, 3, 4, 5, 6] (by decide)).res⟩
  ·have hq : runQ q p.length = (q, 7) := by unfold runQ; rw [if_neg hdk2]
   rw [hq]
   dsimp only
   refine e_seq <| e_seq <| e_draw (stH y q) Tryz.mixed <| tk 0 rfl (v_move rfl) rfl <| tk 1 rfl (v_not rfl) rfl <| tk 2 rfl (v_move rfl) rfl <| tw 3 rfl rfl rfl (v_move rfl) rfl <| tw 4 rfl rfl rfl (v_nilCheck rfl) rfl <| tw 5 rfl rfl rfl (v_fieldAddrB (o := 1) uT63 rfl rfl Tryz.nz3 rfl) rfl <| tw 6 rfl rfl rfl (v_loadB 0 rfl uT3 rfl rfl rfl) rfl <| tw 7 rfl rfl rfl (v_move rfl) rfl <| tw 8 rfl rfl rfl (v_nilCheck rfl) rfl <| tw 9 rfl rfl rfl (v_fieldAddrB (o := 0) uT63 rfl rfl Tryz.nz60 rfl) rfl <| tw 10 rfl rfl rfl (v_loadB 0 rfl uT60 rfl rfl rfl) rfl <| t1w 11 rfl rfl rfl ?_
   refine x_call0 (v := .int .i64 (q.k : Int)) rfl rfl rfl Tryz.call57 rfl (fun w hw => logSure_spec y.pl y.bv y.ev q.L q.k w (StV.of hw (fun c hc => List.mem_cons_of_mem _ hc)).lg h25 hkl) ?_
   refine tn ?_
   refine tw 12 rfl rfl rfl (v_is (v' := .bool true) (v_geq rfl rfl) (by rw [decide_eq_true (by omega)])) rfl ?_
   refine tk 13 rfl (v_pickF rfl rfl) rfl <| td <| e_condT rfl <| esr <| wa rfl rfl <| w_nil ?_
   refine e_retQ (q_ret1 rfl (.tmp rfl) ?_)
   exact fun w' hw' => ⟨(y.A, y.kk), trivial, rfl, (hw'.sub (List.sublist_cons_self _ _)).res⟩
 ·have hq : runQ q p.length = (q, 7) := by unfold runQ; rw [if_neg (by omega)]
  rw [hq]
  dsimp only
  refine esr <| wa rfl rfl <| w_nil <| e_seq <| e_draw (stH y q) Tryz.mixed <| tk 0 rfl (v_move rfl) rfl <| tk 1 rfl (v_nilCheck rfl) rfl <| tk 2 rfl (v_fieldAddrB (o := 0) uT63 rfl rfl Tryz.nz60 rfl) rfl <| tk 3 rfl (v_loadB 0 rfl uT60 rfl rfl rfl) rfl <| tk 4 rfl (v_move rfl) rfl <| tk 5 rfl (v_nilCheck rfl) rfl <| tk 6 rfl (v_fieldAddrB (o := 1) uT63 rfl rfl Tryz.nz3 rfl) rfl <| tk 7 rfl (v_loadB 0 rfl uT3 rfl rfl rfl) rfl <| t1 8 rfl rfl ?_
  refine x_call0 (v := .tuple #[.slice none 0 0, .bool false]) rfl rfl rfl Tryz.call92 rfl (fun w hw => logRound_none y.pl y.bv y.ev q.L q.k (q.dn : Int) w (StV.of hw (fun c hc => hc)).lg (.inr (by omega))) ?_
  refine tn <| tk 9 rfl (v_move rfl) rfl <| tk 10 rfl (v_extract rfl rfl) rfl <| tk 11 rfl (v_extract rfl rfl) rfl <| tk 12 rfl (v_assign rfl) rfl <| tk 13 rfl (v_assign rfl) rfl <| td <| e_seq <| e_seq <| e_draw (stH y q) Tryz.mixed <| tk 0 rfl (v_move rfl) rfl <| tk 1 rfl (v_not rfl) rfl <| tk 2 rfl (v_move rfl) rfl <| tq 3 rfl rfl rfl rfl rfl <| tq 4 rfl rfl rfl rfl rfl <| tq 5 rfl rfl rfl rfl rfl <| tq 6 rfl rfl rfl rfl rfl <| tq 7 rfl rfl rfl rfl rfl <| tq 8 rfl rfl rfl rfl rfl <| tq 9 rfl rfl rfl rfl rfl <| tq 10 rfl rfl rfl rfl rfl <| tq 11 rfl rfl rfl rfl rfl <| tq 12 rfl rfl rfl rfl rfl ?_
  refine tk 13 rfl (v_pickT rfl rfl) rfl <| td <| e_condT rfl <| esr <| wa rfl rfl <| w_nil ?_
  refine e_retQ (q_ret1 rfl (.tmp rfl) ?_)
  exact fun w' hw' => ⟨(y.A, y.kk), trivial, rfl, hw'.res⟩
end Go.SL
end
