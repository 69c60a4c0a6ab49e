/- YtebdkaadbakhladDoor: part ReB of this seat's own texts: WHATEVER THE INPUT, the law eB returns true and leaves what was there; no condition. -/
import Derived.Test.YtebdkaadbakhladDoorReA
set_option linter.unusedVariables false
set_option linter.unusedSimpArgs false

open Go Go.Proofs Go.SL Go.RowKit
set_option maxRecDepth 100000
set_option maxHeartbeats 4000000
namespace Go.SL
theorem op_strs {o : OpL} (h : 1 ≤ o.kind ∧ o.kind ≤ 9) : ([Lib.itoa o.a, if o.kind = 1 then Lib.itoa o.n else Lib.itoa o.b, Lib.itoa o.c].take (kCounts.getD o.kind.toNat 0).toNat).flatMap (fun t => 32 :: t) = (numsOf o).flatMap fun x => 32 :: Lib.itoa x := by
  have : o.kind = 1 ∨ o.kind = 2 ∨ o.kind = 3 ∨ o.kind = 4 ∨ o.kind = 5 ∨ o.kind = 6 ∨ o.kind = 7 ∨ o.kind = 8 ∨ o.kind = 9 := by omega
  rcases this with e | e | e | e | e | e | e | e | e <;> simp [numsOf, e]
theorem counts_rng {k : Int} (h : 1 ≤ k ∧ k ≤ 9) : 0 ≤ kCounts.getD k.toNat 0 ∧ kCounts.getD k.toNat 0 ≤ 3 := by
  have : k = 1 ∨ k = 2 ∨ k = 3 ∨ k = 4 ∨ k = 5 ∨ k = 6 ∨ k = 7 ∨ k = 8 ∨ k = 9 := by omega
  rcases this with rfl | rfl | rfl | rfl | rfl | rfl | rfl | rfl | rfl <;> decide
theorem refOpText_spec (o : OpL) (w : World) (hk : 1 ≤ o.kind ∧ o.kind ≤ 9) (h : OpIn o) (hL : LaidD w) (hN : NamesV w.cell?) : Calls Tryd.prog 18 #[opV o] w fun e w' => e = .returned (strV (opText o)) ∧ Res w [] [] w' := by
  rw [← off_none w] at hN
  obtain ⟨an, kn, hn0, hn⟩ := hN.name
  obtain ⟨ac, kc, hc0, hc⟩ := hN.count
  have hnm := hn o.kind (by omega) hk.2
  have hct := hc o.kind (by omega) hk.2
  have hla := itoa_len h.a
  have hlb := itoa_len h.b
  have hlc := itoa_len h.c
  have hln := itoa_len h.n
  have hnl := name_len (k := o.kind)
  have hrng := counts_rng hk
  have hst := op_strs hk
  have hfin : opText o = kNames.getD o.kind.toNat [] ++ ([Lib.itoa o.a, if o.kind = 1 then Lib.itoa o.n else Lib.itoa o.b, Lib.itoa o.c].take (kCounts.getD o.kind.toNat 0).toNat).flatMap (fun t => 32 :: t) := by rw [hst]; rfl
  rw [hfin]
  clear hfin hst
  unfold opV
  refine enter0 (N := 46) Tryd.func18 rfl rfl rfl ?_
  refine esr ?_
  refine w_op rfl ?_
  refine x_box rfl rfl (fun b1 => ?_)
  refine wa rfl rfl ?_
  refine w_nil ?_
  refine e_seq ?_
  refine e_cutH (σ := Nat) [1] (.cons rfl .nil) (fun b => [(3, .slice (some ⟨b, 0, none⟩) 3 3)]) (fun b => [.blk b 9 (strC [Lib.itoa o.a, Lib.itoa o.b, Lib.itoa o.c]), .blk b1 41 (opCells o)]) (fun _ => True) ?_ ?_
  · refine e_draw ([.blk b1 41 (opCells o)]) Tryd.mixed ?_
    refine tk 0 rfl (v_fieldAddrB (o := 1) Tryd.underlying41 rfl rfl Tryd.nz3 rfl) rfl ?_
    refine tk 1 rfl (v_loadB 0 rfl Tryd.underlying3 rfl rfl rfl) rfl ?_
    refine tk 3 rfl (v_fieldAddrB (o := 2) Tryd.underlying41 rfl rfl Tryd.nz3 rfl) rfl ?_
    refine tk 4 rfl (v_loadB 0 rfl Tryd.underlying3 rfl rfl rfl) rfl ?_
    refine tk 6 rfl (v_fieldAddrB (o := 3) Tryd.underlying41 rfl rfl Tryd.nz3 rfl) rfl ?_
    refine tk 7 rfl (v_loadB 0 rfl Tryd.underlying3 rfl rfl rfl) rfl ?_
    refine t1 2 rfl rfl ?_
    refine x_call0 (v := strV (Lib.itoa o.a)) rfl rfl rfl Tryd.call35 rfl (fun w hw => refNum_spec _ w h.a (hL.chg hw.chg)) ?_
    refine tn ?_
    refine t1 5 rfl rfl ?_
    refine x_call0 (v := strV (Lib.itoa o.b)) rfl rfl rfl Tryd.call35 rfl (fun w hw => refNum_spec _ w h.b (hL.chg hw.chg)) ?_
    refine tn ?_
    refine t1 8 rfl rfl ?_
    refine x_call0 (v := strV (Lib.itoa o.c)) rfl rfl rfl Tryd.call35 rfl (fun w hw => refNum_spec _ w h.c (hL.chg hw.chg)) ?_
    refine tn ?_
    refine t1 9 rfl rfl ?_
    refine x_buildSlice _ (strC [Lib.itoa o.a, Lib.itoa o.b, Lib.itoa o.c]) rfl (run_buildSlice Tryd.underlying42 Tryd.hi9 Tryd.cz9 Tryd.zeroValue9 rfl (by kernel_rfl)) rfl (fun b15 => ?_)
    refine tn ?_
    refine tk 10 rfl (v_assign rfl) rfl ?_
    refine td ?_
    exact e_cutEnd b15 trivial (by repeat (first | exact Sub.nil _ | refine Sub.cons rfl ?_)) (fun _ hw => hw)
  · rintro b15 -
    refine e_seq ?_
    refine esr ?_
    refine w_val (v_fieldAddrB (o := 0) Tryd.underlying41 rfl rfl Tryd.nz3 rfl) rfl ?_
    refine w_val (v_loadB 1 rfl Tryd.underlying3 rfl rfl rfl) rfl ?_
    refine w_val (v_eql rfl rfl) rfl ?_
    refine w_nil ?_
    refine e_cutH (σ := Unit) [1, 3] (.cons rfl (.cons rfl .nil)) (fun _ => []) (fun _ => [.blk b15 9 (strC [Lib.itoa o.a, if o.kind = 1 then Lib.itoa o.n else Lib.itoa o.b, Lib.itoa o.c]), .blk b1 41 (opCells o)]) (fun _ => True) ?_ ?_
    · refine e_condD rfl (fun hk1 => ?_) (fun hk1 => ?_)
      · rw [if_pos hk1]
        refine e_region ?_
        refine wm rfl rfl ?_
        refine w_val (v_fieldAddrB (o := 4) Tryd.underlying41 rfl rfl Tryd.nz2 rfl) rfl ?_
        refine w_val (v_loadB 1 rfl Tryd.underlying2 rfl rfl rfl) rfl ?_
        refine w_op rfl ?_
        refine x_call0 (v := strV (Lib.itoa o.n)) rfl rfl rfl Tryd.call31 rfl (fun w hw => fmt_spec _ w h.n (hL.chg hw.chg)) ?_
        refine w_val (v_indexSB Tryd.underlying42 Tryd.hi9 Tryd.cz9 rfl rfl (by first | omega | decide)) rfl ?_
        refine w_op rfl ?_
        refine x_store1 0 rfl rfl rfl Tryd.hi9 Tryd.cz9 rfl (by simp [strC]) rfl ?_
        refine w_nil ?_
        exact e_cutEnd (()) (trivial) (by repeat (first | exact Sub.nil _ | refine Sub.cons rfl ?_)) (fun _ hw => hw)
      · rw [if_neg hk1]
        refine e_skip ?_
        exact e_cutEnd (()) (trivial) (by repeat (first | exact Sub.nil _ | refine Sub.cons rfl ?_)) (fun _ hw => hw)
    · rintro - -
      generalize hX : (if o.kind = 1 then Lib.itoa o.n else Lib.itoa o.b) = X at *
      have hlX : X.length ≤ 21 := by rw [← hX]; split <;> omega
      generalize hct2 : kCounts.getD o.kind.toNat 0 = ct at *
      generalize kNames.getD o.kind.toNat [] = nm at *
      refine esr ?_
      refine w_val (v_loadO Tryd.underlying42 rfl rfl (hn0)) rfl ?_
      refine w_val (v_fieldAddrB (o := 0) Tryd.underlying41 rfl rfl Tryd.nz3 rfl) rfl ?_
      refine w_val (v_loadB 1 rfl Tryd.underlying3 rfl rfl rfl) rfl ?_
      refine w_val (v_indexS Tryd.underlying42 Tryd.hi9 Tryd.cz9 rfl rfl (by first | omega | decide)) rfl ?_
      refine w_val (v_loadO Tryd.underlying9 rfl rfl hnm) rfl ?_
      refine wa rfl rfl ?_
      refine w_nil ?_
      refine e_seq ?_
      refine esr ?_
      refine wa rfl rfl ?_
      refine w_nil ?_
      refine e_block ?_
      rw [show strV nm = strV (nm ++ ([Lib.itoa o.a, X, Lib.itoa o.c].take 0).flatMap (fun t => 32 :: t)) from by simp]
      refine e_loopK (σ := Nat) [1, 3] (.cons rfl (.cons rfl .nil)) (fun i => [(5, .int .i64 (i : Int)), (4, strV (nm ++ ([Lib.itoa o.a, X, Lib.itoa o.c].take i).flatMap (fun t => 32 :: t)))]) (fun i => (i : Int) ≤ ct) (fun i => 3 - i) 0 (by omega) (by repeat (first | exact Sub.nil _ | refine Sub.cons rfl ?_)) ?_
      rintro i hi
      refine e_seq ?_
      refine esr ?_
      refine wm rfl rfl ?_
      refine w_val (v_loadO Tryd.underlying52 rfl rfl (hc0)) rfl ?_
      refine w_val (v_fieldAddrB (o := 0) Tryd.underlying41 rfl rfl Tryd.nz3 rfl) rfl ?_
      refine w_val (v_loadB 1 rfl Tryd.underlying3 rfl rfl rfl) rfl ?_
      refine w_val (v_indexS Tryd.underlying52 Tryd.hi3 Tryd.cz3 rfl rfl (by first | omega | decide)) rfl ?_
      refine w_val (v_loadO Tryd.underlying3 rfl rfl (hct)) rfl ?_
      refine w_val (v_lss rfl rfl) rfl ?_
      refine w_nil ?_
      refine e_condD rfl (fun hlt => ?_) (fun hlt => ?_)
      · have hi3 : i < 3 := by omega
        have hat : (strC [Lib.itoa o.a, X, Lib.itoa o.c])[0 + ((i : Int)).toNat * 1]? = some (strV ([Lib.itoa o.a, X, Lib.itoa o.c].getD i [])) := by
          rw [Int.toNat_natCast, Nat.zero_add, Nat.mul_one]
          have : i = 0 ∨ i = 1 ∨ i = 2 := by omega
          rcases this with rfl | rfl | rfl <;> rfl
        have hly : ([Lib.itoa o.a, X, Lib.itoa o.c].getD i []).length ≤ 21 := by
          have : i = 0 ∨ i = 1 ∨ i = 2 := by omega
          rcases this with rfl | rfl | rfl
          · exact hla
          · exact hlX
          · exact hlc
        have hsn : ([Lib.itoa o.a, X, Lib.itoa o.c].take (i + 1)).flatMap (fun t => 32 :: t) = ([Lib.itoa o.a, X, Lib.itoa o.c].take i).flatMap (fun t => 32 :: t) ++ (32 :: [Lib.itoa o.a, X, Lib.itoa o.c].getD i []) := by
          have : i = 0 ∨ i = 1 ∨ i = 2 := by omega
          rcases this with rfl | rfl | rfl <;> simp
        have hpl : (([Lib.itoa o.a, X, Lib.itoa o.c].take i).flatMap (fun t => 32 :: t)).length ≤ 66 := by
          have : i = 0 ∨ i = 1 ∨ i = 2 := by omega
          rcases this with rfl | rfl | rfl <;> simp <;> omega
        generalize ([Lib.itoa o.a, X, Lib.itoa o.c].take i).flatMap (fun t => 32 :: t) = pre at *
        generalize hy : [Lib.itoa o.a, X, Lib.itoa o.c].getD i [] = y at *
        refine e_skip ?_
        refine e_seq ?_
        refine e_block ?_
        refine e_region ?_
        refine wm rfl rfl ?_
        refine wm rfl rfl ?_
        refine wm rfl rfl ?_
        refine w_val (v_indexSB Tryd.underlying42 Tryd.hi9 Tryd.cz9 rfl rfl (by first | omega | decide)) rfl ?_
        refine w_val (v_loadB 0 rfl Tryd.underlying9 rfl rfl hat) rfl ?_
        refine w_val (v_strAdd rfl rfl (by simp only [List.length_append, List.length_cons, List.length_nil]; omega)) rfl ?_
        refine w_val (v_is (v' := strV (nm ++ ([Lib.itoa o.a, X, Lib.itoa o.c].take (i + 1)).flatMap (fun t => 32 :: t))) (v_strAdd rfl rfl (by simp only [List.length_append, List.length_cons, List.length_nil]; omega)) (by rw [hsn]; simp [List.append_assoc])) rfl ?_
        refine wa rfl rfl ?_
        refine w_nil ?_
        refine e_blk ?_
        refine e_region ?_
        refine wm rfl rfl ?_
        refine w_val (v_add rfl rfl (by omega)) rfl ?_
        refine wa rfl rfl ?_
        refine w_nil ?_
        exact e_round (i + 1) (by omega) (by omega) (by repeat (first | exact Sub.nil _ | refine Sub.cons rfl ?_)) (fun _ hw => hw)
      · have e : i = ct.toNat := by omega
        subst e
        refine e_exit rfl ?_
        refine esr ?_
        refine wm rfl rfl ?_
        refine wa rfl rfl ?_
        refine w_nil ?_
        refine e_retQ (q_ret1 rfl (.tmp rfl) ?_)
        exact fun w' hw' => ⟨rfl, hw'.res.nil⟩
theorem join_snoc (xs : List (List UInt8)) (y sep : List UInt8) : Lib.join (xs ++ [y]) sep = (if xs = [] then [] else Lib.join xs sep ++ sep) ++ y := by
  cases xs with
  | nil => simp [Lib.join_one]
  | cons x r =>
    rw [if_neg (by simp), List.cons_append, Lib.join_cons, Lib.join_cons]
    simp [Lib.joinTail]
theorem refTextOf_spec (v : Value) (d : DeedL) (w : World) (h : IsDeed w.cell? v d) (hin : ∀ o ∈ d, OpIn o) (hL : LaidD w) (hN : NamesV w.cell?) : Calls Tryd.prog 10 #[v] w fun e w' => e = .returned (.tuple #[strV (printS d).1, faultV (printS d).2]) ∧ Res w [] [] w' := by
  rw [← off_none w] at h hN
  have hs := h
  obtain ⟨A, kp, rfl, hle, hc⟩ := h.form
  have hchk := fun (hz : (checkL d).1 = 0) => checked hz
  unfold printS
  refine enter0 (N := 32) Tryd.func10 rfl rfl rfl ?_
  refine esr ?_
  refine wa rfl rfl ?_
  refine w_op rfl ?_
  refine x_alloc (z := .agg #[.int .i64 0, .int .i64 0]) (by intro w; exact Tryd.zeroValue29 w) rfl (fun b3 => ?_)
  refine w_nil ?_
  refine e_seq ?_
  refine esr ?_
  refine wm rfl rfl ?_
  generalize hck : checkL d = ck at *
  obtain ⟨c, at'⟩ := ck
  dsimp only at hchk ⊢
  refine w_op rfl ?_
  refine x_call0 (v := .agg #[.int .i64 c, .int .i64 at']) rfl rfl rfl Tryd.call14 rfl (fun w hw => by have := DeedFault_spec _ d w (hs.mono hw.off); rwa [hck] at this) ?_
  refine w_op rfl ?_
  refine x_alloc (z := .agg #[.int .i64 0, .int .i64 0]) (by intro w; exact Tryd.zeroValue29 w) rfl (fun b4 => ?_)
  refine w_op rfl ?_
  refine x_storeA 0 rfl rfl rfl Tryd.hi29 Tryd.cz29 rfl (by first | (simp [Value.oneCell', opCells]; done) | assumption | exact one_ints _ | exact one_resCells _ _ | exact one_slotC _) ?_
  refine wsr ?_
  refine w_val (v_fieldAddrB (o := 0) Tryd.underlying29 rfl rfl Tryd.nz3 rfl) rfl ?_
  refine w_val (v_loadB 0 rfl Tryd.underlying3 rfl rfl rfl) rfl ?_
  refine w_val (v_neq rfl rfl) rfl ?_
  refine w_nil ?_
  refine e_condD rfl (fun hne => ?_) (fun hne => ?_)
  · refine e_seq ?_
    refine e_draw ([.blk b4 29 [.int .i64 c, .int .i64 at']]) Tryd.mixed ?_
    refine tk 0 rfl (v_loadBA 0 rfl Tryd.underlying29 rfl Tryd.hi29 Tryd.cz29 rfl) rfl ?_
    refine tk 1 rfl (v_assign rfl) rfl ?_
    refine t1 2 rfl rfl ?_
    refine x_storeA 1 rfl rfl rfl Tryd.hi29 Tryd.cz29 rfl (by first | (simp [Value.oneCell', opCells]; done) | assumption | exact one_ints _ | exact one_resCells _ _ | exact one_slotC _) ?_
    refine tn ?_
    refine td ?_
    refine e_retQ (q_ret2 rfl (.tmp rfl) (ResV.agg 1 rfl rfl (by rw [isAggD, Tryd.underlying29]; rfl) (Tryd.cz29) Tryd.hi29) ?_)
    exact fun w' hw' => ⟨by rw [if_pos hne]; rfl, hw'.res.nil⟩
  · have hc0 : c = 0 := by omega
    obtain ⟨h14, hops⟩ := hchk hc0
    refine e_skip ?_
    refine esr ?_
    refine wa rfl rfl ?_
    refine w_nil ?_
    refine e_seq ?_
    refine esr ?_
    refine wa rfl rfl ?_
    refine w_nil ?_
    refine e_block ?_
    refine e_loopK (σ := Nat) [0, 3, 4] (.cons rfl (.cons rfl (.cons rfl .nil))) (fun i => [(6, .int .i64 (i : Int)), (5, strV (Lib.join ((d.take i).map opText) [59, 32]))]) (fun i => i ≤ d.length) (fun i => d.length - i) 0 (Nat.zero_le _) (by repeat (first | exact Sub.nil _ | refine Sub.cons rfl ?_)) ?_
    rintro k hk
    dsimp only at hk ⊢
    refine e_seq ?_
    refine esr ?_
    refine wm rfl rfl ?_
    refine wm rfl rfl ?_
    refine w_val (v_lenS Tryd.underlying23 rfl) rfl ?_
    refine w_val (v_lss rfl rfl) rfl ?_
    refine w_nil ?_
    refine e_condD rfl (fun hlt => ?_) (fun hlt => ?_)
    · have hk' : k < d.length := by omega
      obtain ⟨ad, rfl, hop⟩ := IsDeed.cells hc hk'
      have hkin := kind_in (hops k hk').1
      have hoin := hin _ (List.getElem_mem hk')
      have hol := opText_len hoin
      have hsn := join_snoc ((d.take k).map opText) (opText d[k]) [59, 32]
      have e1 : (d.take k).map opText ++ [opText d[k]] = (d.take (k + 1)).map opText := by rw [List.take_succ_eq_append_getElem hk', List.map_append]; rfl
      rw [e1] at hsn
      have hjl := join_len (xs := (d.take k).map opText) (m := 100) (fun x hx => by obtain ⟨o, ho, rfl⟩ := List.mem_map.1 hx; exact opText_len (hin o (List.mem_of_mem_take ho)))
      rw [List.length_map, List.length_take, Nat.min_eq_left hk] at hjl
      have hk14 : 102 * k ≤ 102 * 14 := Nat.mul_le_mul_left _ (by omega)
      have hemp : (d.take k).map opText = [] ↔ k = 0 := by
        constructor
        · intro h
          have := congrArg List.length h
          rw [List.length_map, List.length_take, List.length_nil] at this
          omega
        · intro h; subst h; rfl
      generalize hpre : Lib.join ((d.take k).map opText) [59, 32] = pre at *
      generalize d[k] = o at *
      refine e_skip ?_
      refine e_seq ?_
      refine e_block ?_
      refine e_seq ?_
      refine esr ?_
      refine wm rfl rfl ?_
      refine w_val (v_gtr rfl rfl) rfl ?_
      refine w_nil ?_
      refine e_cutK (σ := Unit) [0, 3, 4, 6] (.cons rfl (.cons rfl (.cons rfl (.cons rfl .nil)))) (fun _ => [(5, strV (if k = 0 then [] else pre ++ [59, 32]))]) (fun _ => True) ?_ ?_
      · refine e_condD rfl (fun hk0 => ?_) (fun hk0 => ?_)
        · rw [if_neg (show ¬ k = 0 by omega)]
          refine e_region ?_
          refine wm rfl rfl ?_
          refine w_val (v_strAdd rfl rfl (by simp only [List.length_append, List.length_cons, List.length_nil]; omega)) rfl ?_
          refine wa rfl rfl ?_
          refine w_nil ?_
          exact e_cutEnd (()) (trivial) (by repeat (first | exact Sub.nil _ | refine Sub.cons rfl ?_)) (fun _ hw => hw)
        · have e0 : k = 0 := by omega
          subst e0
          have : pre = [] := by rw [← hpre]; rfl
          subst this
          rw [if_pos (show (0 : Nat) = 0 from rfl)]
          refine e_skip ?_
          exact e_cutEnd (()) (trivial) (by repeat (first | exact Sub.nil _ | refine Sub.cons rfl ?_)) (fun _ hw => hw)
      · rintro - -
        have hpl : (if k = 0 then [] else pre ++ [59, 32]).length ≤ 1500 := by
          split
          · simp
          · simp only [List.length_append, List.length_cons, List.length_nil]; omega
        have hsn2 : Lib.join ((d.take (k + 1)).map opText) [59, 32] = (if k = 0 then [] else pre ++ [59, 32]) ++ opText o := by
          rw [hsn]
          by_cases h0 : k = 0
          · rw [if_pos (hemp.2 h0), if_pos h0]
          · rw [if_neg (fun h => h0 (hemp.1 h)), if_neg h0]
        generalize (if k = 0 then [] else pre ++ [59, 32]) = pre2 at *
        refine e_region ?_
        refine wm rfl rfl ?_
        refine wm rfl rfl ?_
        refine wm rfl rfl ?_
        refine w_val (v_indexS Tryd.underlying23 Tryd.hi41 Tryd.cz41 rfl rfl (by first | omega | decide)) rfl ?_
        refine w_val (v_loadON Tryd.underlying41 rfl Tryd.hi41 rfl (hop) Tryd.cz41) rfl ?_
        refine w_op rfl ?_
        refine x_call0 (v := strV (opText o)) rfl rfl rfl Tryd.call18 rfl (fun w hw => refOpText_spec o w hkin hoin (hL.chg hw.chg) (hN.mono hw.off)) ?_
        refine w_val (v_is (v' := strV (Lib.join ((d.take (k + 1)).map opText) [59, 32])) (v_strAdd rfl rfl (by omega)) (by rw [hsn2])) rfl ?_
        refine wa rfl rfl ?_
        refine w_nil ?_
        refine e_blk ?_
        refine e_region ?_
        refine wm rfl rfl ?_
        refine w_val (v_add rfl rfl (by omega)) rfl ?_
        refine wa rfl rfl ?_
        refine w_nil ?_
        exact e_round (k + 1) (by omega) (by omega) (by repeat (first | exact Sub.nil _ | refine Sub.cons rfl ?_)) (fun _ hw => hw)
    · have e : k = d.length := by omega
      subst e
      rw [List.take_length]
      refine e_exit rfl ?_
      refine esr ?_
      refine wm rfl rfl ?_
      refine w_val (v_build (v := faultV (0, 0)) _ rfl (by intro _; simp [Instr.build, Instr.fill, Tryd.zeroValue29, go_sem]; rfl)) rfl ?_
      refine wa rfl rfl ?_
      refine w_op rfl ?_
      refine x_storeA 1 rfl rfl rfl Tryd.hi29 Tryd.cz29 rfl (by first | (simp [Value.oneCell', opCells]; done) | assumption | exact one_ints _ | exact one_resCells _ _ | exact one_slotC _) ?_
      refine w_nil ?_
      refine e_retQ (q_ret2 rfl (.tmp rfl) (ResV.agg 1 rfl rfl (by rw [isAggD, Tryd.underlying29]; rfl) (Tryd.cz29) Tryd.hi29) ?_)
      exact fun w' hw' => ⟨by rw [if_neg hne]; rfl, hw'.res.nil⟩
end Go.SL

