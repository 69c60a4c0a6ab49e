/- YtebdkaadbakhlaaGreatDoor: part RC of this seat's own texts: WHATEVER THE INPUT, the law C returns true and leaves what was there; no condition. -/
import Derived.Test.YtebdkaadbakhlaaGreatDoorW6
import Derived.Test.YtebdkaadbakhlaaGreatDoorMM2
import Derived.Test.YtebdkaadbakhlaaGreatDoorU2
import Derived.Test.YtebdkaadbakhlaaGreatDoorZ2
set_option linter.unusedVariables false
set_option linter.unusedSimpArgs false
section
open Go Go.Proofs Go.SL
set_option maxRecDepth 100000
namespace Go.SL
end Go.SL
end
section
open Go Go.Proofs Go.SL
set_option maxRecDepth 100000
set_option maxHeartbeats 4000000
namespace Go.SL
structure ScVd (c : View) (s : Nat) (lv : Value) (L : List RoundL) (k : Nat) (vs : List Value) : Prop where
 cells : Cells c ⟨s, 1, none⟩ [lv, .int .i64 (k : Int)]
 row : Rds c lv 1 L.length vs
 rounds : Rounds vs L c
theorem ScVd.mono {c c' : View} (hl : Le c c') {s : Nat} {lv : Value} {L : List RoundL} {k : Nat} {vs : List Value} (h : ScVd c s lv L k vs) : ScVd c' s lv L k vs := ⟨h.cells.mono hl, h.row.mono hl, Rounds.up _ _ _ _ hl h.rounds⟩
theorem ScVd.c0 {c : View} {s : Nat} {lv : Value} {L : List RoundL} {k : Nat} {vs : List Value} (h : ScVd c s lv L k vs) : c ⟨s, 1, none⟩ = some lv := by have := h.cells 0 _ rfl; rwa [add_mk] at this
theorem ScVd.c1 {c : View} {s : Nat} {lv : Value} {L : List RoundL} {k : Nat} {vs : List Value} (h : ScVd c s lv L k vs) : c ⟨s, 1 + 1, none⟩ = some (.int .i64 (k : Int)) := by have := h.cells 1 _ rfl; rwa [add_mk] at this
theorem scBytesD_spec (s : Nat) (lv : Value) (L : List RoundL) (k : Nat) (vs : List Value) (n : Nat) (w : World) (h : ScVd w.cell? s lv L k vs) (hn : n ≤ L.length) (hok : LogOk L k) :
  Calls Tryz.prog 99 #[.pointer (some ⟨s, 1, none⟩), .int .i64 (n : Int)] w fun e w' => ∃ sl, True ∧ e = .returned sl ∧ Res w [] [Own sl 5 1 (bytesOf (L.take n)).length (byteCells (bytesOf (L.take n)))] w' := by
 have hB := hok.bytes
 have h25 := hok.len
 rw [← off_none w] at h
 obtain ⟨Al, kl, rfl, hkl, _, hc⟩ := id h.row
 have h0 := h.c0
 refine enter0 (N := 23) Tryz.func99 rfl rfl rfl <| esr <| wa rfl rfl <| wsr <| wa rfl rfl <| w_nil <| e_seq <| esr <| wa rfl rfl <| w_nil ?_
 refine g_heap (m' := [Own (.slice none 0 0) 5 1 0 []]) (fun _ hw => hw.ownNil _ _) ?_
 refine e_block ?_
 refine e_loopH (σ := Nat × Value) [0, 1] (.cons rfl (.cons rfl .nil)) (fun x => [(5, x.2), (6, .int .i64 x.1)]) (fun x => [Own x.2 5 1 (bytesOf (L.take x.1)).length (byteCells (bytesOf (L.take x.1)))]) (fun x => x.1 ≤ n) (fun x => n - x.1) (0, .slice none 0 0) (by dsimp only; omega) (by repeat first | exact .nil _ | refine .cons rfl ?_) (fun _ hw => by simpa [bytesOf, byteCells] using hw) ?_
 rintro ⟨i, v5⟩ hi
 dsimp only at hi ⊢
 refine e_seq <| esr <| wm rfl rfl <| wm rfl rfl <| w_val (v_lss rfl rfl) rfl <| w_nil ?_
 refine e_condD rfl (fun hlt => ?_) (fun hlt => ?_)
 ·have hlt' : i < L.length := by omega
  obtain ⟨ad, rfl, hcl⟩ := hc (by omega)
  obtain ⟨u, hu, hround⟩ := h.rounds.2 i hlt'
  have hcell : off w (feet []) (ad.add (((i : Int)).toNat * 1)) = some u := hcl _ _ (by rw [Int.toNat_natCast, Nat.mul_one]; exact hu)
  have hall := hok.all L[i] (List.getElem_mem _)
  have hokr := okRound_of hall.1 hall.2
  have hle1 := endAt_le_all (L := L) (i := i + 1) (by omega)
  have hsucc := endAt_succ hlt'
  have hnext : bytesOf (L.take (i + 1)) = bytesOf (L.take i) ++ encL L[i] := by rw [List.take_succ_eq_append_getElem hlt', bytesOf_app, bytesOf_one]
  have hl1 : (bytesOf (L.take i)).length + (encL L[i]).length ≤ 4000 := by
   have e1 : (bytesOf (L.take i)).length = endAt L i := rfl
   omega
  generalize hpost : bytesOf (L.take (i + 1)) = post at *
  generalize bytesOf (L.take i) = pre at *
  generalize L[i] = r at *
  refine e_skip <| e_seq <| e_block <| e_region <| wm rfl rfl <| wm rfl rfl <| wn rfl rfl <| w_val (v_fieldAddrB (o := 0) uT30 rfl rfl Tryz.nz28 rfl) rfl <| w_val (v_loadO uT28 rfl rfl (h0)) rfl <| wm rfl rfl ?_
  refine w_val (v_indexS uT28 Tryz.hi37 Tryz.cz37 rfl rfl (by first | omega | decide)) rfl ?_
  refine w_val (v_loadO uT37 rfl rfl (hcell)) rfl <| w_op rfl ?_
  refine x_call (dst := some 20) (mc := []) (σ := Value) (fun _ => True) (fun sl => sl) (fun sl => [Own sl 5 1 (encL r).length (byteCells (encL r))]) rfl rfl rfl Tryz.call100 (fun w hw => bytesOf_spec _ r w (hround.mono hw.off) hokr hall.2) rfl (fun v20 _ => ?_)
  refine w_op rfl ?_
  refine x_appendI (z := .int .u8 0) (n := pre.length) (xs := byteCells pre) (size := 1) (bytes := 1) (k := (encL r).length) (news := byteCells (encL r)) 1 rfl rfl rfl uT51 (by kernel_rfl) rfl (by decide) (fun w hw => own_rds (hw.mem (i := 0) rfl)) (one_byteCells _) (by omega) (by simp only [maxLen]; omega) rfl (fun v21 => ?_)
  refine wa rfl rfl <| w_nil <| e_blk <| e_region <| wm rfl rfl ?_
  refine w_val (v_add rfl rfl (by omega)) rfl ?_
  refine wa rfl rfl <| w_nil ?_
  refine e_round ((i + 1, v21)) (by dsimp only; omega) (by dsimp only; omega) (by repeat first | exact .nil _ | refine .cons rfl ?_) (fun _ hw => ?_)
  dsimp only
  rw [hpost, hnext, byteCells_app, List.length_append]
  simp only [List.cons_append, List.nil_append, List.set_cons_zero, List.set_cons_succ] at hw
  exact hw.sub (.cons _ (List.Sublist.refl _))
 ·obtain rfl : i = n := by omega
  refine e_exit rfl <| esr <| wm rfl rfl <| wa rfl rfl <| w_nil ?_
  refine e_retQ (q_ret1 rfl (.tmp rfl) ?_)
  exact fun w' hw' => ⟨v5, trivial, rfl, hw'.res⟩
abbrev scXd (s e0 : Nat) (tv : Value) (tl : List Value) (lv : Value) (k : Nat) : Chunk := .blk s e0 (tv :: lv :: .int .i64 (k : Int) :: tl)
abbrev scHd (s e0 : Nat) (tv : Value) (tl : List Value) (lv : Value) (L : List RoundL) (k : Nat) (vs : List Value) (G : Nat → Prop) : Hp := [scXd s e0 tv tl lv k, Rw lv 37 1 L.length vs, Keep G (Rounds vs L)]
theorem ScVd.ofX {s e0 : Nat} {tv : Value} {tl : List Value} {lv : Value} {L : List RoundL} {k : Nat} {vs : List Value} {G : Nat → Prop} {w : World} (h : ∀ c ∈ scHd s e0 tv tl lv L k vs G, c.holds w) : ScVd w.cell? s lv L k vs :=
 ⟨blk_cells (h _ (List.mem_cons_self ..)) 1 (fun j v hj => by
  match j with
  | 0 => simpa using hj
  | 1 => simpa using hj
  | j + 2 => simp at hj), row_rds (h _ (List.mem_cons_of_mem _ (List.mem_cons_self ..))), keep_all (Rounds.up _ _) (h _ (List.mem_cons_of_mem _ (List.mem_cons_of_mem _ (List.mem_cons_self ..))))⟩
theorem scPutD_spec (s e0 : Nat) (tv : Value) (tl : List Value) (lv : Value) (L : List RoundL) (k : Nat) (vs : List Value) (G : Nat → Prop) (v : Value) (r : RoundL) (w : World) (h : ∀ c ∈ scHd s e0 tv tl lv L k vs G, c.holds w) (hsep : (scHd s e0 tv tl lv L k vs G).Pairwise Disj) (hok : LogOk L k)
  (hr : IsRound (off w (feet (scHd s e0 tv tl lv L k vs G))) v r) (hin : ∀ d ∈ r, ∀ o ∈ d, OpIn o) :
  Calls Tryz.prog 62 #[.pointer (some ⟨s, 1, none⟩), v] w fun e w' => ∃ x : Value × List Value × (Nat → Prop), True ∧ e = .returned (.tuple #[.int .i64 (putL L r).2.1, .int .i64 (putL L r).2.2]) ∧ Res w (scHd s e0 tv tl lv L k vs G) (scHd s e0 tv tl x.1 (putL L r).1 k x.2.1 x.2.2) w' := by
 have hB := hok.bytes
 have h25 := hok.len
 obtain ⟨A, kp, rfl, hle, _⟩ := hr.form
 refine enter (mc := scHd s e0 tv tl lv L k vs G) (N := 50) Tryz.func62 rfl rfl rfl ?_ ?_ ?_
 ·exact h
 ·exact hsep
 refine g_shapeR2 1 rfl fun Al kl hlv hkl _ => ?_
 subst hlv
 refine esr <| wa rfl rfl <| wa rfl rfl <| w_nil <| e_seq <| esr <| wm rfl rfl <| w_op rfl ?_
 refine x_call0 (v := .int .i64 (roundFaultL r)) rfl rfl rfl Tryz.call98 rfl (fun w hw => RoundFault_spec _ r w (hr.mono hw.off)) ?_
 refine wa rfl rfl <| wsr <| wm rfl rfl <| w_val (v_neq rfl rfl) rfl <| w_nil ?_
 by_cases hf : roundFaultL r ≠ 0
 ·rw [putL_bad hf]
  refine e_condDT rfl (by omega) ?_
  refine esr <| wm rfl rfl <| wa rfl rfl <| wa rfl rfl <| w_nil ?_
  refine e_retQ (q_ret2 rfl (.tmp rfl) (.tmp rfl) ?_)
  exact fun w' hw' => ⟨(.slice Al L.length kl, vs, G), trivial, rfl, hw'.res⟩
 ·have hok2 := okRound_of (by omega) hin
  have hlen := encL_len r
  have hlen2 := encBody_len hok2
  have hlen3 := encL_pos r
  have hsm := small_of (z := r) (by omega)
  by_cases hl25 : L.length = 25
  ·rw [putL_full hf (.inl hl25)]
   refine e_condDF rfl (by omega) ?_
   refine e_skip <| e_seq <| e_seq <| e_region <| wm rfl rfl <| wn rfl rfl <| w_val (v_fieldAddrB (o := 0) uT30 rfl rfl Tryz.nz28 rfl) rfl <| w_val (v_loadB 0 rfl uT28 rfl rfl rfl) rfl <| w_val (v_lenS uT28 rfl) rfl ?_
   refine w_val (v_is (v' := .bool true) (v_geq rfl rfl) (by rw [decide_eq_true (by omega)])) rfl ?_
   refine wm rfl rfl <| w_skip rfl rfl rfl rfl <| w_skip rfl rfl rfl rfl <| w_skip rfl rfl rfl rfl <| w_skip rfl rfl rfl rfl <| w_skip rfl rfl rfl rfl <| w_skip rfl rfl rfl rfl <| w_skip rfl rfl rfl rfl <| w_skip rfl rfl rfl rfl <| w_skip rfl rfl rfl rfl <| w_skip rfl rfl rfl rfl <| w_skip rfl rfl rfl rfl <| w_skip rfl rfl rfl rfl <| w_skip rfl rfl rfl rfl <| w_val (v_pickT rfl rfl) rfl <| w_nil <| e_condT rfl <| esr <| wa rfl rfl <| wa rfl rfl <| w_nil ?_
   refine e_retQ (q_ret2 rfl (.tmp rfl) (.tmp rfl) ?_)
   exact fun w' hw' => ⟨(.slice Al L.length kl, vs, G), trivial, rfl, hw'.res⟩
  ·have hcB := fun (w1 : World) (hw : ∀ c ∈ scHd s e0 tv tl (.slice Al L.length kl) L k vs G, c.holds w1) => scBytesD_spec s _ L k vs L.length w1 (ScVd.ofX hw) (Nat.le_refl _) hok
   rw [List.take_length] at hcB
   by_cases hbig : 4000 < (bytesOf L).length + (encL r).length
   ·rw [putL_full hf (.inr hbig)]
    refine e_condDF rfl (by omega) ?_
    refine e_skip <| e_seq <| e_seq <| e_region <| wm rfl rfl <| wn rfl rfl <| w_val (v_fieldAddrB (o := 0) uT30 rfl rfl Tryz.nz28 rfl) rfl <| w_val (v_loadB 0 rfl uT28 rfl rfl rfl) rfl <| w_val (v_lenS uT28 rfl) rfl ?_
    refine w_val (v_is (v' := .bool false) (v_geq rfl rfl) (by rw [decide_eq_false (by omega)])) rfl ?_
    refine wm rfl rfl <| w_want rfl rfl <| wm rfl rfl <| w_want rfl rfl <| wm rfl rfl <| w_want rfl rfl <| wn rfl rfl <| w_want rfl rfl <| w_val (v_fieldAddrB (o := 0) uT30 rfl rfl Tryz.nz28 rfl) rfl <| w_want rfl rfl <| w_val (v_loadB 0 rfl uT28 rfl rfl rfl) rfl <| w_want rfl rfl <| w_val (v_lenS uT28 rfl) rfl <| w_want rfl rfl <| w_op rfl ?_
    refine x_call (dst := some 25) (mc := []) (σ := (Option Addr × Nat)) (fun _ => True) (fun sl => .slice sl.1 (bytesOf L).length sl.2) (fun sl => [Own (.slice sl.1 (bytesOf L).length sl.2) 5 1 (bytesOf L).length (byteCells (bytesOf L))]) rfl rfl rfl Tryz.call99 (fun w hw => own_shape (hcB w (fun c hc => hw.hold c hc))) rfl (fun sl1 _ => ?_)
    refine w_want rfl rfl <| w_val (v_lenS uT51 rfl) rfl <| w_want rfl rfl <| wm rfl rfl <| w_want rfl rfl <| w_op rfl ?_
    refine x_call (dst := some 28) (mc := []) (σ := (Option Addr × Nat)) (fun _ => True) (fun sl => .slice sl.1 (encL r).length sl.2) (fun sl => [Own (.slice sl.1 (encL r).length sl.2) 5 1 (encL r).length (byteCells (encL r))]) rfl rfl rfl Tryz.call100 (fun w hw => own_shape (bytesOf_spec _ r w (hr.mono hw.off) hok2 hin)) rfl (fun sl2 _ => ?_)
    refine w_want rfl rfl <| w_val (v_lenS uT51 rfl) rfl <| w_want rfl rfl ?_
    refine w_val (v_add rfl rfl (by omega)) rfl ?_
    refine w_want rfl rfl ?_
    refine w_val (v_is (v' := .bool true) (v_gtr rfl rfl) (by rw [decide_eq_true (by omega)])) rfl ?_
    refine w_val (v_pickF rfl rfl) rfl <| w_nil ?_
    refine e_condDT rfl (by omega) ?_
    refine esr <| wa rfl rfl <| wa rfl rfl <| w_nil ?_
    refine e_retQ (q_ret2 rfl (.tmp rfl) (.tmp rfl) ?_)
    exact fun w' hw' => ⟨(.slice Al L.length kl, vs, G), trivial, rfl, (hw'.sub (.cons _ (.cons _ (List.Sublist.refl _)))).res⟩
   ·rw [putL_ok hf (by omega)]
    have e4 : (L ++ [r]).length = L.length + 1 := by simp
    refine e_condDF rfl (by omega) ?_
    refine e_skip <| e_seq <| e_seq <| e_region <| wm rfl rfl <| wn rfl rfl <| w_val (v_fieldAddrB (o := 0) uT30 rfl rfl Tryz.nz28 rfl) rfl <| w_val (v_loadB 0 rfl uT28 rfl rfl rfl) rfl <| w_val (v_lenS uT28 rfl) rfl ?_
    refine w_val (v_is (v' := .bool false) (v_geq rfl rfl) (by rw [decide_eq_false (by omega)])) rfl ?_
    refine wm rfl rfl <| w_want rfl rfl <| wm rfl rfl <| w_want rfl rfl <| wm rfl rfl <| w_want rfl rfl <| wn rfl rfl <| w_want rfl rfl <| w_val (v_fieldAddrB (o := 0) uT30 rfl rfl Tryz.nz28 rfl) rfl <| w_want rfl rfl <| w_val (v_loadB 0 rfl uT28 rfl rfl rfl) rfl <| w_want rfl rfl <| w_val (v_lenS uT28 rfl) rfl <| w_want rfl rfl <| w_op rfl ?_
    refine x_call (dst := some 25) (mc := []) (σ := (Option Addr × Nat)) (fun _ => True) (fun sl => .slice sl.1 (bytesOf L).length sl.2) (fun sl => [Own (.slice sl.1 (bytesOf L).length sl.2) 5 1 (bytesOf L).length (byteCells (bytesOf L))]) rfl rfl rfl Tryz.call99 (fun w hw => own_shape (hcB w (fun c hc => hw.hold c hc))) rfl (fun sl1 _ => ?_)
    refine w_want rfl rfl <| w_val (v_lenS uT51 rfl) rfl <| w_want rfl rfl <| wm rfl rfl <| w_want rfl rfl <| w_op rfl ?_
    refine x_call (dst := some 28) (mc := []) (σ := (Option Addr × Nat)) (fun _ => True) (fun sl => .slice sl.1 (encL r).length sl.2) (fun sl => [Own (.slice sl.1 (encL r).length sl.2) 5 1 (encL r).length (byteCells (encL r))]) rfl rfl rfl Tryz.call100 (fun w hw => own_shape (bytesOf_spec _ r w (hr.mono hw.off) hok2 hin)) rfl (fun sl2 _ => ?_)
    refine w_want rfl rfl <| w_val (v_lenS uT51 rfl) rfl <| w_want rfl rfl ?_
    refine w_val (v_add rfl rfl (by omega)) rfl ?_
    refine w_want rfl rfl ?_
    refine w_val (v_is (v' := .bool false) (v_gtr rfl rfl) (by rw [decide_eq_false (by omega)])) rfl ?_
    refine w_val (v_pickF rfl rfl) rfl <| w_nil <| e_condF rfl <| e_skip <| e_seq <| g_sub (m' := scHd s e0 tv tl (.slice Al L.length kl) L k vs G) (.cons _ (.cons _ (List.Sublist.refl _))) ?_
    refine e_cutH (σ := Option Addr × Nat × List Value × (Nat → Prop)) [0] (.cons rfl .nil) (fun _ => []) (fun x => [scXd s e0 tv tl (.slice x.1 (L.length + 1) x.2.1) k, Rw (.slice x.1 (L.length + 1) x.2.1) 37 1 (L.length + 1) x.2.2.1, Keep x.2.2.2 (Rounds x.2.2.1 (L ++ [r]))]) (fun _ => True) ?_ ?_
    ·refine e_draw ([]) Tryz.mixed <| tk 0 rfl (v_move rfl) rfl <| tk 1 rfl (v_move rfl) rfl <| tk 2 rfl (v_nilCheck rfl) rfl <| tk 3 rfl (v_fieldAddrB (o := 0) uT30 rfl rfl Tryz.nz28 rfl) rfl <| tk 5 rfl (v_move rfl) rfl ?_
     refine a_all [4, 6] (by kernel_rfl) rfl ?_
     intro i hi
     simp only [List.mem_cons, List.not_mem_nil, or_false] at hi
     rcases hi with rfl | rfl
     ·refine a_op rfl rfl <| x_val (v_loadB 0 rfl uT28 rfl rfl rfl) rfl <| tn <| t1 6 rfl rfl ?_
      refine x_call (dst := some 39) (mc := []) (σ := Option Addr × Nat × (Nat → Prop)) (fun _ => True) (fun s => .slice s.1 r.length s.2.1) (fun s => [Keep s.2.2 (fun c => IsRound c (.slice s.1 r.length s.2.1) r)]) rfl rfl rfl Tryz.call101 (fun w hw => refOwn_spec' _ r w (hr.mono hw.off) (by omega) (fun d hd => by have := hsm.2 d hd; omega)) rfl (fun so _ => ?_)
      refine tn <| t1 7 rfl rfl ?_
      refine x_buildSlice _ ([.slice so.1 r.length so.2.1]) rfl (run_buildSlice uT28 Tryz.hi37 Tryz.cz37 Tryz.zeroValue37 rfl (by kernel_rfl)) rfl (fun b40 => ?_)
      refine tn <| t1 8 rfl rfl ?_
      refine x_appendRS (z := .slice none 0 0) (n := L.length) (xs := vs) (size := 1) (bytes := 24) (k := 1) (news := [.slice so.1 r.length so.2.1]) 3 rfl rfl rfl uT28 (by kernel_rfl) rfl (by decide) (by omega) (fun w hw => blk_rds (hw.hold _ (List.mem_cons_self ..)) rfl) (by intro u hu; simp only [List.mem_singleton] at hu; subst hu; rfl) (by omega) (by simp only [maxLen]; omega) rfl (fun Al2 kl2 hkl2 => ?_)
      refine tn <| tk 9 rfl (v_nilCheck rfl) rfl <| tk 10 rfl (v_fieldAddrB (o := 0) uT30 rfl rfl Tryz.nz28 rfl) rfl <| t1 11 rfl rfl ?_
      refine x_store1 2 rfl rfl rfl Tryz.hi28 Tryz.cz28 rfl (by first | (simp; done) | (simp [intCells_len]; omega) | exact Nat.zero_lt_succ _) rfl ?_
      refine tn <| td ?_
      refine e_cutEnd (Al2, kl2, vs ++ [.slice so.1 r.length so.2.1], feet [Keep so.2.2 (fun c => IsRound c (.slice so.1 r.length so.2.1) r), Keep G (Rounds vs L)]) trivial (by repeat first | exact .nil _ | refine .cons rfl ?_) (fun _ hw => ?_)
      simp only [List.cons_append, List.nil_append, List.set_cons_zero, List.set_cons_succ] at hw
      have h4 : St _ _ [Keep so.2.2 (fun c => IsRound c (.slice so.1 r.length so.2.1) r), scXd s e0 tv tl (.slice Al2 (L.length + 1) kl2) k, Rw (.slice Al2 (L.length + 1) kl2) 37 1 (L.length + 1) (vs ++ [Value.slice so.1 r.length so.2.1]), Keep G (Rounds vs L)] _ := hw.sub (.cons _ (List.Sublist.refl _))
      have h5 := h4.perm (m' := [Keep so.2.2 (fun c => IsRound c (.slice so.1 r.length so.2.1) r), Keep G (Rounds vs L), scXd s e0 tv tl (.slice Al2 (L.length + 1) kl2) k, Rw (.slice Al2 (L.length + 1) kl2) 37 1 (L.length + 1) (vs ++ [Value.slice so.1 r.length so.2.1])]) (.cons _ (List.perm_append_comm (l₁ := [_, _]) (l₂ := [_])))
      exact h5.roundsIn.perm (List.perm_append_comm (l₁ := [_]) (l₂ := [_, _]))
     ·refine a_op rfl rfl ?_
      refine x_call (dst := some 39) (mc := []) (σ := Option Addr × Nat × (Nat → Prop)) (fun _ => True) (fun s => .slice s.1 r.length s.2.1) (fun s => [Keep s.2.2 (fun c => IsRound c (.slice s.1 r.length s.2.1) r)]) rfl rfl rfl Tryz.call101 (fun w hw => refOwn_spec' _ r w (hr.mono hw.off) (by omega) (fun d hd => by have := hsm.2 d hd; omega)) rfl (fun so _ => ?_)
      refine tn ?_
      refine a_all [4, 7] (by kernel_rfl) rfl ?_
      intro i hi
      simp only [List.mem_cons, List.not_mem_nil, or_false] at hi
      rcases hi with rfl | rfl
      ·refine a_op rfl rfl <| x_val (v_loadB 1 rfl uT28 rfl rfl rfl) rfl <| tn <| t1 7 rfl rfl ?_
       refine x_buildSlice _ ([.slice so.1 r.length so.2.1]) rfl (run_buildSlice uT28 Tryz.hi37 Tryz.cz37 Tryz.zeroValue37 rfl (by kernel_rfl)) rfl (fun b40 => ?_)
       refine tn <| t1 8 rfl rfl ?_
       refine x_appendRS (z := .slice none 0 0) (n := L.length) (xs := vs) (size := 1) (bytes := 24) (k := 1) (news := [.slice so.1 r.length so.2.1]) 3 rfl rfl rfl uT28 (by kernel_rfl) rfl (by decide) (by omega) (fun w hw => blk_rds (hw.hold _ (List.mem_cons_self ..)) rfl) (by intro u hu; simp only [List.mem_singleton] at hu; subst hu; rfl) (by omega) (by simp only [maxLen]; omega) rfl (fun Al2 kl2 hkl2 => ?_)
       refine tn <| tk 9 rfl (v_nilCheck rfl) rfl <| tk 10 rfl (v_fieldAddrB (o := 0) uT30 rfl rfl Tryz.nz28 rfl) rfl <| t1 11 rfl rfl ?_
       refine x_store1 2 rfl rfl rfl Tryz.hi28 Tryz.cz28 rfl (by first | (simp; done) | (simp [intCells_len]; omega) | exact Nat.zero_lt_succ _) rfl ?_
       refine tn <| td ?_
       refine e_cutEnd (Al2, kl2, vs ++ [.slice so.1 r.length so.2.1], feet [Keep so.2.2 (fun c => IsRound c (.slice so.1 r.length so.2.1) r), Keep G (Rounds vs L)]) trivial (by repeat first | exact .nil _ | refine .cons rfl ?_) (fun _ hw => ?_)
       simp only [List.cons_append, List.nil_append, List.set_cons_zero, List.set_cons_succ] at hw
       have h4 : St _ _ [Keep so.2.2 (fun c => IsRound c (.slice so.1 r.length so.2.1) r), scXd s e0 tv tl (.slice Al2 (L.length + 1) kl2) k, Rw (.slice Al2 (L.length + 1) kl2) 37 1 (L.length + 1) (vs ++ [Value.slice so.1 r.length so.2.1]), Keep G (Rounds vs L)] _ := hw.sub (.cons _ (List.Sublist.refl _))
       have h5 := h4.perm (m' := [Keep so.2.2 (fun c => IsRound c (.slice so.1 r.length so.2.1) r), Keep G (Rounds vs L), scXd s e0 tv tl (.slice Al2 (L.length + 1) kl2) k, Rw (.slice Al2 (L.length + 1) kl2) 37 1 (L.length + 1) (vs ++ [Value.slice so.1 r.length so.2.1])]) (.cons _ (List.perm_append_comm (l₁ := [_, _]) (l₂ := [_])))
       exact h5.roundsIn.perm (List.perm_append_comm (l₁ := [_]) (l₂ := [_, _]))
      ·refine a_op rfl rfl ?_
       refine x_buildSlice _ ([.slice so.1 r.length so.2.1]) rfl (run_buildSlice uT28 Tryz.hi37 Tryz.cz37 Tryz.zeroValue37 rfl (by kernel_rfl)) rfl (fun b40 => ?_)
       refine tn <| t1 4 rfl rfl <| x_val (v_loadB 2 rfl uT28 rfl rfl rfl) rfl <| tn <| t1 8 rfl rfl ?_
       refine x_appendRS (z := .slice none 0 0) (n := L.length) (xs := vs) (size := 1) (bytes := 24) (k := 1) (news := [.slice so.1 r.length so.2.1]) 3 rfl rfl rfl uT28 (by kernel_rfl) rfl (by decide) (by omega) (fun w hw => blk_rds (hw.hold _ (List.mem_cons_self ..)) rfl) (by intro u hu; simp only [List.mem_singleton] at hu; subst hu; rfl) (by omega) (by simp only [maxLen]; omega) rfl (fun Al2 kl2 hkl2 => ?_)
       refine tn <| tk 9 rfl (v_nilCheck rfl) rfl <| tk 10 rfl (v_fieldAddrB (o := 0) uT30 rfl rfl Tryz.nz28 rfl) rfl <| t1 11 rfl rfl ?_
       refine x_store1 2 rfl rfl rfl Tryz.hi28 Tryz.cz28 rfl (by first | (simp; done) | (simp [intCells_len]; omega) | exact Nat.zero_lt_succ _) rfl ?_
       refine tn <| td ?_
       refine e_cutEnd (Al2, kl2, vs ++ [.slice so.1 r.length so.2.1], feet [Keep so.2.2 (fun c => IsRound c (.slice so.1 r.length so.2.1) r), Keep G (Rounds vs L)]) trivial (by repeat first | exact .nil _ | refine .cons rfl ?_) (fun _ hw => ?_)
       simp only [List.cons_append, List.nil_append, List.set_cons_zero, List.set_cons_succ] at hw
       have h4 : St _ _ [Keep so.2.2 (fun c => IsRound c (.slice so.1 r.length so.2.1) r), scXd s e0 tv tl (.slice Al2 (L.length + 1) kl2) k, Rw (.slice Al2 (L.length + 1) kl2) 37 1 (L.length + 1) (vs ++ [Value.slice so.1 r.length so.2.1]), Keep G (Rounds vs L)] _ := hw.sub (.cons _ (List.Sublist.refl _))
       have h5 := h4.perm (m' := [Keep so.2.2 (fun c => IsRound c (.slice so.1 r.length so.2.1) r), Keep G (Rounds vs L), scXd s e0 tv tl (.slice Al2 (L.length + 1) kl2) k, Rw (.slice Al2 (L.length + 1) kl2) 37 1 (L.length + 1) (vs ++ [Value.slice so.1 r.length so.2.1])]) (.cons _ (List.perm_append_comm (l₁ := [_, _]) (l₂ := [_])))
       exact h5.roundsIn.perm (List.perm_append_comm (l₁ := [_]) (l₂ := [_, _]))
    ·rintro ⟨Al2, kl2, vs2, G2⟩ -
     dsimp only
     refine esr <| wm rfl rfl <| wn rfl rfl <| w_val (v_fieldAddrB (o := 0) uT30 rfl rfl Tryz.nz28 rfl) rfl <| w_val (v_loadB 0 rfl uT28 rfl rfl rfl) rfl <| w_val (v_lenS uT28 rfl) rfl ?_
     refine w_val (v_is (v' := .int .i64 (L.length : Int)) (v_sub rfl rfl (by omega)) (by congr 1; omega)) rfl ?_
     refine wa rfl rfl <| wa rfl rfl <| w_nil ?_
     refine e_retQ (q_ret2 rfl (.tmp rfl) (.tmp rfl) ?_)
     refine fun w' hw' => ⟨(.slice Al2 (L.length + 1) kl2, vs2, G2), trivial, rfl, ?_⟩
     simp only [scHd, e4]
     exact hw'.res
end Go.SL
end
section
open Go Go.Proofs Go.SL
set_option maxRecDepth 100000
set_option maxHeartbeats 4000000
namespace Go.SL
theorem scCrashD_spec (s e0 : Nat) (tv : Value) (tl : List Value) (lv : Value) (L : List RoundL) (k : Nat) (vs : List Value) (G : Nat → Prop) (keep : Int) (w : World) (h : ∀ c ∈ scHd s e0 tv tl lv L k vs G, c.holds w) (hsep : (scHd s e0 tv tl lv L k vs G).Pairwise Disj) (hok : LogOk L k) :
  Calls Tryz.prog 64 #[.pointer (some ⟨s, 1, none⟩), .int .i64 keep] w fun e w' => ∃ lv', True ∧ e = .returned (.tuple #[]) ∧ Res w (scHd s e0 tv tl lv L k vs G) (scHd s e0 tv tl lv' (L.take (crashL L k keep)) (crashL L k keep) (vs.take (crashL L k keep)) G) w' := by
 have hB := hok.bytes
 have h25 := hok.len
 have hkL := hok.sure
 refine enter (mc := scHd s e0 tv tl lv L k vs G) (N := 51) Tryz.func64 rfl rfl rfl ?_ ?_ ?_
 ·exact h
 ·exact hsep
 refine g_shapeR2 1 rfl fun Al kl hlv hkl _ => ?_
 subst hlv
 refine e_seq <| esr <| wm rfl rfl <| w_val (v_lss rfl rfl) rfl <| w_nil ?_
 refine e_cutK (σ := Unit) [0] (.cons rfl .nil) (fun _ => [(1, .int .i64 (max keep 0))]) (fun _ => True) ?_ ?_
 ·refine e_condD rfl (fun hneg => ?_) (fun hneg => ?_)
  ·refine e_region <| wa rfl rfl <| w_nil ?_
   exact e_cutEnd () trivial (Sub.cons (by rw [show max keep 0 = 0 from by omega]; rfl) (by repeat first | exact .nil _ | refine .cons rfl ?_)) (fun _ hw => hw)
  ·refine e_skip ?_
   exact e_cutEnd () trivial (Sub.cons (by rw [show max keep 0 = keep from by omega]; rfl) (by repeat first | exact .nil _ | refine .cons rfl ?_)) (fun _ hw => hw)
 ·rintro - -
  refine esr <| wm rfl rfl <| wn rfl rfl <| w_val (v_fieldAddrB (o := 1) uT30 rfl rfl Tryz.nz3 rfl) rfl <| w_val (v_loadB 0 rfl uT3 rfl rfl rfl) rfl <| wa rfl rfl <| w_nil <| e_seq <| e_block ?_
  refine e_loopK (σ := Nat) [0, 1] (.cons rfl (.cons rfl .nil)) (fun m => [(4, .int .i64 (m : Int))]) (fun m => k ≤ m ∧ m ≤ L.length ∧ (m = k ∨ (endAt L m : Int) - endAt L k ≤ max keep 0)) (fun m => L.length - m) k ⟨Nat.le_refl _, hkL, .inl rfl⟩ (by repeat first | exact .nil _ | refine .cons rfl ?_) ?_
  rintro m ⟨hkm, hmL, hm⟩
  by_cases hlt : m < L.length
  ·have hc1 := fun (w1 : World) (hw : ∀ c ∈ scHd s e0 tv tl (.slice Al L.length kl) L k vs G, c.holds w1) => own_shape (scBytesD_spec s _ L k vs (m + 1) w1 (ScVd.ofX hw) (by omega) hok)
   have hc2 := fun (w1 : World) (hw : ∀ c ∈ scHd s e0 tv tl (.slice Al L.length kl) L k vs G, c.holds w1) => own_shape (scBytesD_spec s _ L k vs k w1 (ScVd.ofX hw) hkL hok)
   have e1 : (bytesOf (L.take (m + 1))).length = endAt L (m + 1) := rfl
   have e2 : (bytesOf (L.take k)).length = endAt L k := rfl
   have he1 := endAt_le_all (L := L) (i := m + 1) (by omega)
   have he2 := endAt_le_all (L := L) (i := k) (by omega)
   rw [e1] at hc1
   rw [e2] at hc2
   refine e_seq <| e_seq <| e_draw (scHd s e0 tv tl (.slice Al L.length kl) L k vs G) Tryz.mixed <| tk 0 rfl (v_move rfl) rfl <| tk 1 rfl (v_move rfl) rfl <| tk 2 rfl (v_nilCheck rfl) rfl <| tk 3 rfl (v_fieldAddrB (o := 0) uT30 rfl rfl Tryz.nz28 rfl) rfl <| tk 4 rfl (v_loadB 0 rfl uT28 rfl rfl rfl) rfl <| tk 5 rfl (v_lenS uT28 rfl) rfl ?_
   refine tk 6 rfl (v_is (v' := .bool true) (v_lss rfl rfl) (by rw [decide_eq_true (by omega)])) rfl ?_
   refine tk 7 rfl (v_move rfl) rfl <| tw 8 rfl rfl rfl (v_move rfl) rfl <| tw 9 rfl rfl rfl (v_move rfl) rfl ?_
   refine tw 10 rfl rfl rfl (v_add rfl rfl (by omega)) rfl ?_
   refine tw 13 rfl rfl rfl (v_move rfl) rfl <| tw 14 rfl rfl rfl (v_move rfl) rfl <| tw 15 rfl rfl rfl (v_nilCheck rfl) rfl <| tw 16 rfl rfl rfl (v_fieldAddrB (o := 1) uT30 rfl rfl Tryz.nz3 rfl) rfl <| tw 17 rfl rfl rfl (v_loadB 0 rfl uT3 rfl rfl rfl) rfl <| tw 21 rfl rfl rfl (v_move rfl) rfl <| t1w 11 rfl rfl rfl ?_
   refine x_call (dst := some 22) (mc := []) (σ := (Option Addr × Nat)) (fun _ => True) (fun sl => .slice sl.1 (endAt L (m + 1)) sl.2) (fun sl => [Own (.slice sl.1 (endAt L (m + 1)) sl.2) 5 1 (endAt L (m + 1)) (byteCells (bytesOf (L.take (m + 1))))]) rfl rfl rfl Tryz.call99 (fun w hw => hc1 w (fun c hc => hw.hold c hc)) rfl (fun sl1 _ => ?_)
   refine tn <| tw 12 rfl rfl rfl (v_lenS uT51 rfl) rfl <| t1w 18 rfl rfl rfl ?_
   refine x_call (dst := some 29) (mc := []) (σ := (Option Addr × Nat)) (fun _ => True) (fun sl => .slice sl.1 (endAt L k) sl.2) (fun sl => [Own (.slice sl.1 (endAt L k) sl.2) 5 1 (endAt L k) (byteCells (bytesOf (L.take k)))]) rfl rfl rfl Tryz.call99 (fun w hw => hc2 w (fun c hc => hw.hold c (List.mem_cons_of_mem _ hc))) rfl (fun sl2 _ => ?_)
   refine tn <| tw 19 rfl rfl rfl (v_lenS uT51 rfl) rfl ?_
   refine tw 20 rfl rfl rfl (v_sub rfl rfl (by omega)) rfl ?_
   refine tw 22 rfl rfl rfl (v_leq rfl rfl) rfl <| tk 23 rfl (v_pickT rfl rfl) rfl <| td ?_
   refine e_condD rfl (fun hle => ?_) (fun hle => ?_)
   ·refine e_skip <| e_block <| e_region <| wm rfl rfl ?_
    refine w_val (v_add rfl rfl (by omega)) rfl ?_
    refine wa rfl rfl <| w_nil <| e_blk ?_
    exact e_round (m + 1) (⟨by omega, by omega, .inr hle⟩) (by omega) (by repeat first | exact .nil _ | refine .cons rfl ?_) (fun _ hw => hw.sub (.cons _ (.cons _ (List.Sublist.refl _))))
   ·have hcr := crashL_is (keep := keep) hkm hmL hB hm (fun _ => by omega)
    rw [hcr]
    have hrow : m ≤ L.length := hmL
    refine e_exit rfl <| esr <| wm rfl rfl <| wm rfl rfl <| wn rfl rfl <| w_val (v_fieldAddrB (o := 0) uT30 rfl rfl Tryz.nz28 rfl) rfl <| w_val (v_loadB 2 rfl uT28 rfl rfl rfl) rfl <| wm rfl rfl <| wm rfl rfl ?_
    refine w_val (v_is (v' := .slice Al m m) (v_sliceHM uT28 Tryz.hi37 Tryz.cz37 rfl rfl rfl (by omega)) (by rw [Int.toNat_natCast, slV_0'])) rfl ?_
    refine wn rfl rfl <| w_val (v_fieldAddrB (o := 0) uT30 rfl rfl Tryz.nz28 rfl) rfl <| w_op rfl ?_
    refine x_store1 2 rfl rfl rfl Tryz.hi28 Tryz.cz28 rfl (by first | (simp; done) | (simp [intCells_len]; omega) | exact Nat.zero_lt_succ _) rfl ?_
    refine wre <| wm rfl rfl <| wm rfl rfl <| wn rfl rfl <| w_val (v_fieldAddrB (o := 1) uT30 rfl rfl Tryz.nz3 rfl) rfl <| w_op rfl ?_
    refine x_store1 2 rfl rfl rfl Tryz.hi3 Tryz.cz3 rfl (by first | (simp; done) | (simp [intCells_len]; omega) | exact Nat.zero_lt_succ _) rfl ?_
    refine w_nil <| g_cutR (j := m) 3 rfl hmL ?_
    refine g_keep (q := Rounds (vs.take m) (L.take m)) 4 rfl (fun c hc => hc.take m) ?_
    refine e_endQ (q_ret0 rfl ?_)
    refine fun w' hw' => ⟨.slice Al m m, trivial, rfl, ?_⟩
    have e4 : (L.take m).length = m := by simp; omega
    have hr := (hw'.sub (.cons _ (.cons _ (List.Sublist.refl _)))).res
    simp only [scHd, e4]
    simpa using hr
  ·have hmm : m = L.length := by omega
   refine e_seq <| e_seq <| e_draw (scHd s e0 tv tl (.slice Al L.length kl) L k vs G) Tryz.mixed <| tk 0 rfl (v_move rfl) rfl <| tk 1 rfl (v_move rfl) rfl <| tk 2 rfl (v_nilCheck rfl) rfl <| tk 3 rfl (v_fieldAddrB (o := 0) uT30 rfl rfl Tryz.nz28 rfl) rfl <| tk 4 rfl (v_loadB 0 rfl uT28 rfl rfl rfl) rfl <| tk 5 rfl (v_lenS uT28 rfl) rfl ?_
   refine tk 6 rfl (v_is (v' := .bool false) (v_lss rfl rfl) (by rw [decide_eq_false (by omega)])) rfl ?_
   refine tk 7 rfl (v_move rfl) rfl <| tq 8 rfl rfl rfl rfl rfl <| tq 9 rfl rfl rfl rfl rfl <| tq 10 rfl rfl rfl rfl rfl <| tq 11 rfl rfl rfl rfl rfl <| tq 12 rfl rfl rfl rfl rfl <| tq 13 rfl rfl rfl rfl rfl <| tq 14 rfl rfl rfl rfl rfl <| tq 15 rfl rfl rfl rfl rfl <| tq 16 rfl rfl rfl rfl rfl <| tq 17 rfl rfl rfl rfl rfl <| tq 18 rfl rfl rfl rfl rfl <| tq 19 rfl rfl rfl rfl rfl <| tq 20 rfl rfl rfl rfl rfl <| tq 21 rfl rfl rfl rfl rfl <| tq 22 rfl rfl rfl rfl rfl <| tk 23 rfl (v_pickF rfl rfl) rfl <| td <| e_condF rfl ?_
   have hcr := crashL_is (keep := keep) hkm hmL hB hm (fun h => absurd h hlt)
   rw [hcr]
   refine e_exit rfl <| esr <| wm rfl rfl <| wm rfl rfl <| wn rfl rfl <| w_val (v_fieldAddrB (o := 0) uT30 rfl rfl Tryz.nz28 rfl) rfl <| w_val (v_loadB 0 rfl uT28 rfl rfl rfl) rfl <| wm rfl rfl <| wm rfl rfl ?_
   refine w_val (v_is (v' := .slice Al m m) (v_sliceHM uT28 Tryz.hi37 Tryz.cz37 rfl rfl rfl (by omega)) (by rw [Int.toNat_natCast, slV_0'])) rfl ?_
   refine wn rfl rfl <| w_val (v_fieldAddrB (o := 0) uT30 rfl rfl Tryz.nz28 rfl) rfl <| w_op rfl ?_
   refine x_store1 0 rfl rfl rfl Tryz.hi28 Tryz.cz28 rfl (by first | (simp; done) | (simp [intCells_len]; omega) | exact Nat.zero_lt_succ _) rfl ?_
   refine wre <| wm rfl rfl <| wm rfl rfl <| wn rfl rfl <| w_val (v_fieldAddrB (o := 1) uT30 rfl rfl Tryz.nz3 rfl) rfl <| w_op rfl ?_
   refine x_store1 0 rfl rfl rfl Tryz.hi3 Tryz.cz3 rfl (by first | (simp; done) | (simp [intCells_len]; omega) | exact Nat.zero_lt_succ _) rfl ?_
   refine w_nil <| g_cutR (j := m) 1 rfl hmL ?_
   refine g_keep (q := Rounds (vs.take m) (L.take m)) 2 rfl (fun c hc => hc.take m) ?_
   refine e_endQ (q_ret0 rfl ?_)
   refine fun w' hw' => ⟨.slice Al m m, trivial, rfl, ?_⟩
   have e4 : (L.take m).length = m := by simp; omega
   have hr := hw'.res
   simp only [scHd, e4]
   simpa using hr
end Go.SL
end
section
open Go Go.Proofs Go.SL
set_option maxRecDepth 100000
set_option maxHeartbeats 4000000
namespace Go.SL
section
variable {lv lw : Value} {k dn : Nat} {z : List Int}
end
theorem lastL_next' (L : List RoundL) (n : Nat) : lastL L (n + 1) = (allL (stL L n) (L.getD n [])).2 := by rw [allL_is]; rfl
theorem stL_next' (L : List RoundL) (n : Nat) : stL L (n + 1) = (allL (stL L n) (L.getD n [])).1 := by rw [allL_is]; rfl
end Go.SL
end
section
open Go Go.Proofs Go.SL
set_option maxRecDepth 100000
set_option maxHeartbeats 4000000
namespace Go.SL
def chTd (rv : Value) (dn : Nat) (z : List Int) (lw : Value) : List Value := .int .i64 (dn : Int) :: (intCells z ++ [lw, rv])
abbrev chRd (tv rv lv : Value) (k dn : Nat) (z : List Int) (lw : Value) : List Value := tv :: lv :: .int .i64 (k : Int) :: chTd rv dn z lw
section
variable {tv rv lv lw : Value} {k dn : Nat} {z : List Int}
theorem chRd_len (h : z.length = 10) : (chRd tv rv lv k dn z lw).length = 16 := by simp [chRd, chTd, intCells, h]
theorem chRd_st (h : z.length = 10) : ((chRd tv rv lv k dn z lw).drop (1 + 3)).take 10 = intCells z := by
 show (intCells z ++ [lw, rv]).take 10 = _
 rw [List.take_left' (by simp [intCells, h])]
theorem chRd_st_set (h : z.length = 10) (y : List Int) : (chRd tv rv lv k dn z lw).take (1 + 3) ++ intCells y ++ (chRd tv rv lv k dn z lw).drop (1 + 3 + 10) = chRd tv rv lv k dn y lw := by
 have : (chRd tv rv lv k dn z lw).drop (1 + 3 + 10) = [lw, rv] := by
  show (intCells z ++ [lw, rv]).drop 10 = _
  rw [List.drop_left' (by simp [intCells, h])]
 rw [this]
 show tv :: lv :: .int .i64 (k : Int) :: .int .i64 (dn : Int) :: (intCells y ++ [lw, rv]) = _
 rfl
theorem chRd_last (h : z.length = 10) : (chRd tv rv lv k dn z lw)[1 + 13]? = some lw := by
 show (intCells z ++ [lw, rv])[10]? = _
 rw [at_app (j := 0) (by simp [intCells, h])]; rfl
theorem chRd_r (h : z.length = 10) : (chRd tv rv lv k dn z lw)[15]? = some rv := by
 show (intCells z ++ [lw, rv])[11]? = _
 rw [at_app (j := 1) (by simp [intCells, h])]; rfl
theorem chRd_last_set (h : z.length = 10) (v : Value) : (chRd tv rv lv k dn z lw).set (1 + 13) v = chRd tv rv lv k dn z v := by
 show tv :: lv :: .int .i64 (k : Int) :: .int .i64 (dn : Int) :: ((intCells z ++ [lw, rv]).set 10 v) = _
 rw [set_app (j := 0) (by simp [intCells, h])]; rfl
theorem chRd_r_set (h : z.length = 10) (v : Value) : (chRd tv rv lv k dn z lw).set 15 v = chRd tv v lv k dn z lw := by
 show tv :: lv :: .int .i64 (k : Int) :: .int .i64 (dn : Int) :: ((intCells z ++ [lw, rv]).set 11 v) = _
 rw [set_app (j := 1) (by simp [intCells, h])]; rfl
theorem chRd_dn0 : (chRd tv rv lv k dn z lw).set (1 + 2) (.int .i64 0) = chRd tv rv lv k 0 z lw := rfl
theorem chRd_k_set (d : Nat) : (chRd tv rv lv k dn z lw).set (1 + 0 + 1) (.int .i64 (d : Int)) = chRd tv rv lv d dn z lw := rfl
end
structure ChPd where
 c : Nat
 tv : Value
 rv : Value
 lv : Value
 vs : List Value
 G : Nat → Prop
 lw : Value
abbrev chBd (y : ChPd) (q : QL) : Chunk := .blk y.c 39 (chRd y.tv y.rv y.lv q.k q.dn (stL q.L q.dn) y.lw)
abbrev chOd (y : ChPd) (q : QL) : Chunk := Own y.lw 96 5 (lastL q.L q.dn).length (resL (lastL q.L q.dn))
abbrev chWd (y : ChPd) (q : QL) : Chunk := Rw y.lv 37 1 q.L.length y.vs
abbrev chKd (y : ChPd) (q : QL) : Chunk := Keep y.G (Rounds y.vs q.L)
abbrev chHd (y : ChPd) (q : QL) : Hp := [chBd y q, chWd y q, chKd y q, chOd y q]
theorem chDoD_spec (y : ChPd) (q : QL) (x : SStepL) (u pv : Value) (w : World) (h : ∀ c ∈ chHd y q, c.holds w) (hsep : (chHd y q).Pairwise Disj) (hok : q.Ok) (hr : IsRound (off w (feet (chHd y q))) u x.round) (hp : IsInts (off w (feet (chHd y q))) pv x.picks) (hin : ∀ d ∈ x.round, ∀ o ∈ d, OpIn o) :
  Calls Tryz.prog 35 #[.pointer (some ⟨y.c, 1, none⟩), sstV x u pv] w fun e w' => ∃ z : Value × List Value × (Nat → Prop) × Value, True ∧ e = .returned (.int .i64 (doQ q x).2) ∧ Res w (chHd y q) (chHd ⟨y.c, y.tv, y.rv, z.1, z.2.1, z.2.2.1, z.2.2.2⟩ (doQ q x).1) w' := by
 obtain ⟨Au, ku, rfl, _, _⟩ := hr.form
 obtain ⟨Ap, kpp, rfl, _, _⟩ := hp.form
 obtain ⟨c, tv, rv, lv, vs, G, lw⟩ := y
 have hlen := hok.len
 have h25 := hok.log.len
 have hkl := hok.log.sure
 have hdk := hok.dn
 have hz := stL_len q.L q.dn
 unfold sstV
 refine enter (mc := chHd ⟨c, tv, rv, lv, vs, G, lw⟩ q) (N := 141) Tryz.func35 rfl rfl rfl ?_ ?_ ?_
 ·exact h
 ·exact hsep
 dsimp only
 refine g_shapeR2 1 rfl fun Al kl hlv hkl had => ?_
 subst hlv
 refine g_rounds 2 rfl fun hvl => ?_
 dsimp only at hvl
 refine g_heap (m' := [.blk c 39 (chRd tv rv (.slice Al q.L.length kl) q.k q.dn (stL q.L q.dn) lw), Rw (.slice Al q.L.length kl) 37 1 q.L.length vs, Keep G (Rounds vs q.L), Own lw 96 5 (lastL q.L q.dn).length (resL (lastL q.L q.dn))]) (fun _ hw => hw) ?_
 refine esr <| w_op rfl ?_
 refine x_box rfl rfl (fun b3 => ?_)
 refine wa rfl rfl <| w_nil <| e_seq <| esr <| w_val (v_fieldAddrB (o := 0) uT90 rfl rfl Tryz.nz3 rfl) rfl <| w_val (v_loadB 0 rfl uT3 rfl rfl rfl) rfl <| w_nil <| e_block <| esr ?_
 by_cases h1 : x.kind = 1
 ·have hq : doQ q x = (⟨(putL q.L x.round).1, q.k, q.dn⟩, (putL q.L x.round).2.2) := by unfold doQ; rw [if_pos h1]
  rw [hq]
  dsimp only
  have hps := put_st (r := x.round) hlen
  refine w_val (v_is (v' := .bool true) (v_eql rfl rfl) (by rw [decide_eq_true h1])) rfl ?_
  refine wa rfl rfl <| w_nil <| e_condT rfl <| e_seq <| e_draw ([.blk b3 90 [.int .i64 x.kind, .slice Au x.round.length ku, .slice Ap x.picks.length kpp, .int .i64 x.keep]]) Tryz.mixed <| tk 0 rfl (v_move rfl) rfl <| tk 1 rfl (v_nilCheck rfl) rfl <| tk 2 rfl (v_fieldAddrB (o := 0) uT35 rfl rfl Tryz.nz30 rfl) rfl <| tk 3 rfl (v_fieldAddrB (o := 1) uT90 rfl rfl Tryz.nz37 rfl) rfl <| tk 4 rfl (v_loadB 0 rfl uT37 rfl rfl rfl) rfl <| t1 5 rfl rfl ?_
  refine x_callM (dst := some 17) (scHd c 39 tv (chTd rv q.dn (stL q.L q.dn) lw) (.slice Al q.L.length kl) q.L q.k vs G) [.blk b3 90 [.int .i64 x.kind, .slice Au x.round.length ku, .slice Ap x.picks.length kpp, .int .i64 x.keep], Own lw 96 5 (lastL q.L q.dn).length (resL (lastL q.L q.dn))] (σ := Value × List Value × (Nat → Prop)) (fun _ => True) (fun _ => .tuple #[.int .i64 (putL q.L x.round).2.1, .int .i64 (putL q.L x.round).2.2]) (fun s => scHd c 39 tv (chTd rv q.dn (stL q.L q.dn) lw) s.1 (putL q.L x.round).1 q.k s.2.1 s.2.2) ((List.perm_middle (l₁ := [_, _, _])).symm) rfl rfl rfl Tryz.call62 (fun w hw => scPutD_spec c _ _ _ _ q.L q.k vs G _ x.round w (res_part hw).1 (res_part hw).2 hok.log (hr.mono (hw.offm (fun c hc => List.mem_append_left _ hc))) hin) rfl (fun s _ => ?_); obtain ⟨lv2, vs2, G2⟩ := s; dsimp only
  refine tn <| tk 6 rfl (v_move rfl) rfl <| tk 7 rfl (v_extract rfl rfl) rfl <| tk 8 rfl (v_extract rfl rfl) rfl <| tk 9 rfl (v_assign rfl) rfl <| tk 10 rfl (v_assign rfl) rfl <| td <| esr <| wm rfl rfl <| wa rfl rfl <| w_nil ?_
  refine e_retQ (q_ret1 rfl (.tmp rfl) ?_)
  refine fun w' hw' => ⟨(lv2, vs2, G2, lw), trivial, rfl, ?_⟩
  show Res _ _ [.blk c 39 (chRd tv rv lv2 q.k q.dn (stL (putL q.L x.round).1 q.dn) lw), Rw lv2 37 1 (putL q.L x.round).1.length vs2, Keep G2 (Rounds vs2 (putL q.L x.round).1), Own lw 96 5 (lastL (putL q.L x.round).1 q.dn).length (resL (lastL (putL q.L x.round).1 q.dn))] _
  rw [hps.1, hps.2]
  exact (hw'.pick [0, 1, 2, 4] (by decide)).res
 ·by_cases h2 : x.kind = 2
  ·have hq : doQ q x = (⟨q.L, q.L.length, q.dn⟩, 0) := by unfold doQ; rw [if_neg h1, if_pos h2]
   rw [hq]
   dsimp only
   refine w_val (v_is (v' := .bool false) (v_eql rfl rfl) (by rw [decide_eq_false h1])) rfl ?_
   refine wa rfl rfl <| w_nil <| e_condF rfl <| esr ?_
   refine w_val (v_is (v' := .bool true) (v_eql rfl rfl) (by rw [decide_eq_true h2])) rfl ?_
   refine wa rfl rfl <| w_nil <| e_condT rfl <| esr <| wm rfl rfl <| wm rfl rfl <| wn rfl rfl <| w_val (v_fieldAddrB (o := 0) uT35 rfl rfl Tryz.nz30 rfl) rfl <| w_val (v_fieldAddrB (o := 0) uT30 rfl rfl Tryz.nz28 rfl) rfl <| w_val (v_loadB 1 rfl uT28 rfl rfl rfl) rfl <| w_val (v_lenS uT28 rfl) rfl <| wn rfl rfl <| w_val (v_fieldAddrB (o := 0) uT35 rfl rfl Tryz.nz30 rfl) rfl <| w_val (v_fieldAddrB (o := 1) uT30 rfl rfl Tryz.nz3 rfl) rfl <| w_op rfl ?_
   refine x_store1 1 rfl rfl rfl Tryz.hi3 Tryz.cz3 rfl (by rw [chRd_len hz]; decide) rfl ?_; rw [chRd_k_set]
   refine wsr <| wa rfl rfl <| w_nil ?_
   refine e_retQ (q_ret1 rfl (.tmp rfl) ?_)
   exact fun w' hw' => ⟨(.slice Al q.L.length kl, vs, G, lw), trivial, rfl, (hw'.pick [1, 2, 3, 4] (by decide)).res⟩
  ·by_cases h3 : x.kind = 3
   ·have hq : doQ q x = runQ q x.picks.length := by unfold doQ; rw [if_neg h1, if_neg h2, if_pos h3]
    rw [hq]
    refine w_val (v_is (v' := .bool false) (v_eql rfl rfl) (by rw [decide_eq_false h1])) rfl ?_
    refine wa rfl rfl <| w_nil <| e_condF rfl <| esr ?_
    refine w_val (v_is (v' := .bool false) (v_eql rfl rfl) (by rw [decide_eq_false h2])) rfl ?_
    refine wa rfl rfl <| w_nil <| e_condF rfl <| esr ?_
    refine w_val (v_is (v' := .bool true) (v_eql rfl rfl) (by rw [decide_eq_true h3])) rfl ?_
    refine wa rfl rfl <| w_nil <| e_condT rfl <| e_seq <| e_seq <| e_draw ((Chunk.blk b3 90 [.int .i64 x.kind, .slice Au x.round.length ku, .slice Ap x.picks.length kpp, .int .i64 x.keep] :: [.blk c 39 (chRd tv rv (.slice Al q.L.length kl) q.k q.dn (stL q.L q.dn) lw), Rw (.slice Al q.L.length kl) 37 1 q.L.length vs, Keep G (Rounds vs q.L)])) Tryz.mixed <| tk 0 rfl (v_move rfl) rfl <| tk 1 rfl (v_nilCheck rfl) rfl <| tk 2 rfl (v_fieldAddrB (o := 2) uT35 rfl rfl Tryz.nz3 rfl) rfl <| tk 3 rfl (v_loadB 1 rfl uT3 rfl rfl rfl) rfl <| tk 4 rfl (v_move rfl) rfl <| tk 5 rfl (v_nilCheck rfl) rfl <| tk 6 rfl (v_fieldAddrB (o := 0) uT35 rfl rfl Tryz.nz30 rfl) rfl ?_
    refine tk 7 rfl (v_fieldAddrB (o := 1) uT30 rfl rfl Tryz.nz3 rfl) rfl <| tk 8 rfl (v_loadB 1 rfl uT3 rfl rfl rfl) rfl <| tk 9 rfl (v_geq rfl rfl) rfl <| td ?_
    by_cases hdk2 : q.dn < q.k
    ·by_cases h300 : x.picks.length ≤ 300
     ·have hq2 : runQ q x.picks.length = (⟨q.L, q.k, q.dn + 1⟩, 0) := by unfold runQ; rw [if_pos hdk2, if_neg (by omega)]
      have hdl : q.dn < q.L.length := by omega
      have hst1 := stL_next' q.L q.dn
      have hla1 := lastL_next' q.L q.dn
      have hz2 := stL_len q.L (q.dn + 1)
      have hgd : q.L.getD q.dn [] = q.L[q.dn] := by simp [List.getD, hdl]
      have hcall := fun (w1 : World) (v1 : Value) (h1 : IsRound w1.cell? v1 (q.L.getD q.dn [])) => refAll_spec (stL q.L q.dn) v1 _ w1 h1 hz (hok.fault hdl)
      rw [← hst1, ← hla1] at hcall
      have hiv : q.dn < vs.length := by omega
      have hu : vs[((q.dn : Int)).toNat * 1]? = some vs[q.dn] := by rw [Int.toNat_natCast, Nat.mul_one]; exact List.getElem?_eq_getElem hiv
      obtain ⟨ad, rfl⟩ := had (by omega)
      rw [hq2]
      dsimp only
      refine e_condDF rfl (by omega) ?_
      refine e_skip <| e_seq <| esr <| w_val (v_fieldAddrB (o := 2) uT90 rfl rfl Tryz.nz70 rfl) rfl <| w_val (v_loadB 0 rfl uT70 rfl rfl rfl) rfl <| w_val (v_lenS uT70 rfl) rfl ?_
      refine w_val (v_is (v' := .bool false) (v_gtr rfl rfl) (by rw [decide_eq_false (by omega)])) rfl ?_
      refine w_nil <| e_condF rfl <| e_skip <| e_seq ?_
      refine e_cutH (σ := Value) [0, 3] (.cons rfl (.cons rfl .nil)) (fun _ => []) (fun s => ([.blk b3 90 [.int .i64 x.kind, .slice Au x.round.length ku, .slice Ap x.picks.length kpp, .int .i64 x.keep], .blk c 39 (chRd tv rv (.slice (some ad) q.L.length kl) q.k q.dn (stL q.L (q.dn + 1)) s), Rw (.slice (some ad) q.L.length kl) 37 1 q.L.length vs, Keep G (Rounds vs q.L), Own s 96 5 (lastL q.L (q.dn + 1)).length (resL (lastL q.L (q.dn + 1)))] : Hp)) (fun _ => True) ?_ ?_
      ·refine e_draw ([Rw (.slice (some ad) q.L.length kl) 37 1 q.L.length vs, Keep G (Rounds vs q.L)]) Tryz.mixed <| tk 0 rfl (v_move rfl) rfl <| tk 1 rfl (v_move rfl) rfl <| tk 2 rfl (v_move rfl) rfl <| tk 3 rfl (v_nilCheck rfl) rfl <| tk 4 rfl (v_fieldAddrB (o := 3) uT35 rfl rfl Tryz.nz32 rfl) rfl <| tk 6 rfl (v_move rfl) rfl <| tk 7 rfl (v_nilCheck rfl) rfl <| tk 8 rfl (v_fieldAddrB (o := 0) uT35 rfl rfl Tryz.nz30 rfl) rfl <| tk 9 rfl (v_fieldAddrB (o := 0) uT30 rfl rfl Tryz.nz28 rfl) rfl <| tk 11 rfl (v_move rfl) rfl <| tk 12 rfl (v_nilCheck rfl) rfl <| tk 13 rfl (v_fieldAddrB (o := 2) uT35 rfl rfl Tryz.nz3 rfl) rfl ?_
       refine a_all [5, 10, 14] (by kernel_rfl) rfl ?_
       intro i hi
       simp only [List.mem_cons, List.not_mem_nil, or_false] at hi
       rcases hi with rfl | rfl | rfl
       ·refine a_op rfl rfl ?_
        refine x_val (v_loadBN (cs' := intCells (stL q.L q.dn)) 1 rfl uT32 rfl Tryz.hi32 Tryz.cz32 rfl (chRd_st hz) (by simp [intCells, hz])) rfl ?_
        refine tn ?_
        refine a_all [10, 14] (by kernel_rfl) rfl ?_
        intro i hi
        simp only [List.mem_cons, List.not_mem_nil, or_false] at hi
        rcases hi with rfl | rfl
        ·refine a_op rfl rfl <| x_val (v_loadB 1 rfl uT28 rfl rfl rfl) rfl <| tn <| t1 14 rfl rfl <| x_val (v_loadB 1 rfl uT3 rfl rfl rfl) rfl <| tn ?_
         refine tk 15 rfl (v_indexS uT28 Tryz.hi37 Tryz.cz37 rfl rfl (by first | omega | decide)) rfl ?_
         refine tk 16 rfl (v_loadR 0 rfl (by omega) hu uT37 rfl rfl) rfl ?_
         refine t1 17 rfl rfl ?_
         refine x_call (dst := some 67) (mc := []) (σ := Value) (fun _ => True) (fun sl => .tuple #[intsV (stL q.L (q.dn + 1)), sl]) (fun sl => [Own sl 96 5 (lastL q.L (q.dn + 1)).length (resL (lastL q.L (q.dn + 1)))]) rfl rfl rfl Tryz.call63 (fun w hw => hcall w _ (hgd ▸ (keep_all (Rounds.up _ _) (hw.mem (i := 3) rfl)).at hdl (List.getElem?_eq_getElem hiv))) rfl (fun sl _ => ?_); refine g_shape 0 rfl fun A9 k9 hv9 _ => ?_; subst hv9
         refine tn <| tk 18 rfl (v_move rfl) rfl <| tk 19 rfl (v_extract rfl rfl) rfl <| tk 20 rfl (v_extract rfl rfl) rfl <| tk 21 rfl (v_nilCheck rfl) rfl <| tk 22 rfl (v_fieldAddrB (o := 3) uT35 rfl rfl Tryz.nz32 rfl) rfl <| t1 23 rfl rfl ?_
         refine x_store (v := Value.agg (intCells (stL q.L (q.dn + 1))).toArray) 2 rfl rfl rfl Tryz.hi32 (Tryz.cz32.trans (by simp [Value.cells, intCells, hz2])) (by rw [chRd_len hz]; simp [Value.cells, intCells, hz2]) (one_intCells _) (chRd tv rv (.slice (some ad) q.L.length kl) q.k q.dn (stL q.L (q.dn + 1)) lw) (by rw [show (Value.agg (intCells (stL q.L (q.dn + 1))).toArray).cells.size = 10 from by simp [Value.cells, intCells, hz2]]; exact chRd_st_set hz _) ?_
         refine tn <| tk 24 rfl (v_nilCheck rfl) rfl <| tk 25 rfl (v_fieldAddrB (o := 13) uT35 rfl rfl Tryz.nz33 rfl) rfl <| t1 26 rfl rfl ?_
         refine x_store1 (v := (.slice A9 (lastL q.L (q.dn + 1)).length k9)) 2 rfl rfl rfl Tryz.hi33 Tryz.cz33 rfl (by rw [chRd_len hz2]; decide) rfl ?_; rw [chRd_last_set hz2]
         refine tn <| td ?_
         exact e_cutEnd (.slice A9 (lastL q.L (q.dn + 1)).length k9) trivial (by repeat first | exact .nil _ | refine .cons rfl ?_) (fun _ hw => hw.pick [1, 2, 3, 4, 0] (by decide))
        ·refine a_op rfl rfl <| x_val (v_loadB 1 rfl uT3 rfl rfl rfl) rfl <| tn <| t1 10 rfl rfl <| x_val (v_loadB 1 rfl uT28 rfl rfl rfl) rfl <| tn ?_
         refine tk 15 rfl (v_indexS uT28 Tryz.hi37 Tryz.cz37 rfl rfl (by first | omega | decide)) rfl ?_
         refine tk 16 rfl (v_loadR 0 rfl (by omega) hu uT37 rfl rfl) rfl ?_
         refine t1 17 rfl rfl ?_
         refine x_call (dst := some 67) (mc := []) (σ := Value) (fun _ => True) (fun sl => .tuple #[intsV (stL q.L (q.dn + 1)), sl]) (fun sl => [Own sl 96 5 (lastL q.L (q.dn + 1)).length (resL (lastL q.L (q.dn + 1)))]) rfl rfl rfl Tryz.call63 (fun w hw => hcall w _ (hgd ▸ (keep_all (Rounds.up _ _) (hw.mem (i := 3) rfl)).at hdl (List.getElem?_eq_getElem hiv))) rfl (fun sl _ => ?_); refine g_shape 0 rfl fun A9 k9 hv9 _ => ?_; subst hv9
         refine tn <| tk 18 rfl (v_move rfl) rfl <| tk 19 rfl (v_extract rfl rfl) rfl <| tk 20 rfl (v_extract rfl rfl) rfl <| tk 21 rfl (v_nilCheck rfl) rfl <| tk 22 rfl (v_fieldAddrB (o := 3) uT35 rfl rfl Tryz.nz32 rfl) rfl <| t1 23 rfl rfl ?_
         refine x_store (v := Value.agg (intCells (stL q.L (q.dn + 1))).toArray) 2 rfl rfl rfl Tryz.hi32 (Tryz.cz32.trans (by simp [Value.cells, intCells, hz2])) (by rw [chRd_len hz]; simp [Value.cells, intCells, hz2]) (one_intCells _) (chRd tv rv (.slice (some ad) q.L.length kl) q.k q.dn (stL q.L (q.dn + 1)) lw) (by rw [show (Value.agg (intCells (stL q.L (q.dn + 1))).toArray).cells.size = 10 from by simp [Value.cells, intCells, hz2]]; exact chRd_st_set hz _) ?_
         refine tn <| tk 24 rfl (v_nilCheck rfl) rfl <| tk 25 rfl (v_fieldAddrB (o := 13) uT35 rfl rfl Tryz.nz33 rfl) rfl <| t1 26 rfl rfl ?_
         refine x_store1 (v := (.slice A9 (lastL q.L (q.dn + 1)).length k9)) 2 rfl rfl rfl Tryz.hi33 Tryz.cz33 rfl (by rw [chRd_len hz2]; decide) rfl ?_; rw [chRd_last_set hz2]
         refine tn <| td ?_
         exact e_cutEnd (.slice A9 (lastL q.L (q.dn + 1)).length k9) trivial (by repeat first | exact .nil _ | refine .cons rfl ?_) (fun _ hw => hw.pick [1, 2, 3, 4, 0] (by decide))
       ·refine a_op rfl rfl <| x_val (v_loadB 1 rfl uT28 rfl rfl rfl) rfl <| tn ?_
        refine a_all [5, 14] (by kernel_rfl) rfl ?_
        intro i hi
        simp only [List.mem_cons, List.not_mem_nil, or_false] at hi
        rcases hi with rfl | rfl
        ·refine a_op rfl rfl ?_
         refine x_val (v_loadBN (cs' := intCells (stL q.L q.dn)) 1 rfl uT32 rfl Tryz.hi32 Tryz.cz32 rfl (chRd_st hz) (by simp [intCells, hz])) rfl ?_
         refine tn <| t1 14 rfl rfl <| x_val (v_loadB 1 rfl uT3 rfl rfl rfl) rfl <| tn ?_
         refine tk 15 rfl (v_indexS uT28 Tryz.hi37 Tryz.cz37 rfl rfl (by first | omega | decide)) rfl ?_
         refine tk 16 rfl (v_loadR 0 rfl (by omega) hu uT37 rfl rfl) rfl ?_
         refine t1 17 rfl rfl ?_
         refine x_call (dst := some 67) (mc := []) (σ := Value) (fun _ => True) (fun sl => .tuple #[intsV (stL q.L (q.dn + 1)), sl]) (fun sl => [Own sl 96 5 (lastL q.L (q.dn + 1)).length (resL (lastL q.L (q.dn + 1)))]) rfl rfl rfl Tryz.call63 (fun w hw => hcall w _ (hgd ▸ (keep_all (Rounds.up _ _) (hw.mem (i := 3) rfl)).at hdl (List.getElem?_eq_getElem hiv))) rfl (fun sl _ => ?_); refine g_shape 0 rfl fun A9 k9 hv9 _ => ?_; subst hv9
         refine tn <| tk 18 rfl (v_move rfl) rfl <| tk 19 rfl (v_extract rfl rfl) rfl <| tk 20 rfl (v_extract rfl rfl) rfl <| tk 21 rfl (v_nilCheck rfl) rfl <| tk 22 rfl (v_fieldAddrB (o := 3) uT35 rfl rfl Tryz.nz32 rfl) rfl <| t1 23 rfl rfl ?_
         refine x_store (v := Value.agg (intCells (stL q.L (q.dn + 1))).toArray) 2 rfl rfl rfl Tryz.hi32 (Tryz.cz32.trans (by simp [Value.cells, intCells, hz2])) (by rw [chRd_len hz]; simp [Value.cells, intCells, hz2]) (one_intCells _) (chRd tv rv (.slice (some ad) q.L.length kl) q.k q.dn (stL q.L (q.dn + 1)) lw) (by rw [show (Value.agg (intCells (stL q.L (q.dn + 1))).toArray).cells.size = 10 from by simp [Value.cells, intCells, hz2]]; exact chRd_st_set hz _) ?_
         refine tn <| tk 24 rfl (v_nilCheck rfl) rfl <| tk 25 rfl (v_fieldAddrB (o := 13) uT35 rfl rfl Tryz.nz33 rfl) rfl <| t1 26 rfl rfl ?_
         refine x_store1 (v := (.slice A9 (lastL q.L (q.dn + 1)).length k9)) 2 rfl rfl rfl Tryz.hi33 Tryz.cz33 rfl (by rw [chRd_len hz2]; decide) rfl ?_; rw [chRd_last_set hz2]
         refine tn <| td ?_
         exact e_cutEnd (.slice A9 (lastL q.L (q.dn + 1)).length k9) trivial (by repeat first | exact .nil _ | refine .cons rfl ?_) (fun _ hw => hw.pick [1, 2, 3, 4, 0] (by decide))
        ·refine a_op rfl rfl <| x_val (v_loadB 1 rfl uT3 rfl rfl rfl) rfl <| tn ?_
         refine tk 15 rfl (v_indexS uT28 Tryz.hi37 Tryz.cz37 rfl rfl (by first | omega | decide)) rfl ?_
         refine tk 16 rfl (v_loadR 0 rfl (by omega) hu uT37 rfl rfl) rfl ?_
         refine t1 5 rfl rfl ?_
         refine x_val (v_loadBN (cs' := intCells (stL q.L q.dn)) 1 rfl uT32 rfl Tryz.hi32 Tryz.cz32 rfl (chRd_st hz) (by simp [intCells, hz])) rfl ?_
         refine tn <| t1 17 rfl rfl ?_
         refine x_call (dst := some 67) (mc := []) (σ := Value) (fun _ => True) (fun sl => .tuple #[intsV (stL q.L (q.dn + 1)), sl]) (fun sl => [Own sl 96 5 (lastL q.L (q.dn + 1)).length (resL (lastL q.L (q.dn + 1)))]) rfl rfl rfl Tryz.call63 (fun w hw => hcall w _ (hgd ▸ (keep_all (Rounds.up _ _) (hw.mem (i := 3) rfl)).at hdl (List.getElem?_eq_getElem hiv))) rfl (fun sl _ => ?_); refine g_shape 0 rfl fun A9 k9 hv9 _ => ?_; subst hv9
         refine tn <| tk 18 rfl (v_move rfl) rfl <| tk 19 rfl (v_extract rfl rfl) rfl <| tk 20 rfl (v_extract rfl rfl) rfl <| tk 21 rfl (v_nilCheck rfl) rfl <| tk 22 rfl (v_fieldAddrB (o := 3) uT35 rfl rfl Tryz.nz32 rfl) rfl <| t1 23 rfl rfl ?_
         refine x_store (v := Value.agg (intCells (stL q.L (q.dn + 1))).toArray) 2 rfl rfl rfl Tryz.hi32 (Tryz.cz32.trans (by simp [Value.cells, intCells, hz2])) (by rw [chRd_len hz]; simp [Value.cells, intCells, hz2]) (one_intCells _) (chRd tv rv (.slice (some ad) q.L.length kl) q.k q.dn (stL q.L (q.dn + 1)) lw) (by rw [show (Value.agg (intCells (stL q.L (q.dn + 1))).toArray).cells.size = 10 from by simp [Value.cells, intCells, hz2]]; exact chRd_st_set hz _) ?_
         refine tn <| tk 24 rfl (v_nilCheck rfl) rfl <| tk 25 rfl (v_fieldAddrB (o := 13) uT35 rfl rfl Tryz.nz33 rfl) rfl <| t1 26 rfl rfl ?_
         refine x_store1 (v := (.slice A9 (lastL q.L (q.dn + 1)).length k9)) 2 rfl rfl rfl Tryz.hi33 Tryz.cz33 rfl (by rw [chRd_len hz2]; decide) rfl ?_; rw [chRd_last_set hz2]
         refine tn <| td ?_
         exact e_cutEnd (.slice A9 (lastL q.L (q.dn + 1)).length k9) trivial (by repeat first | exact .nil _ | refine .cons rfl ?_) (fun _ hw => hw.pick [1, 2, 3, 4, 0] (by decide))
       ·refine a_op rfl rfl <| x_val (v_loadB 1 rfl uT3 rfl rfl rfl) rfl <| tn ?_
        refine a_all [5, 10] (by kernel_rfl) rfl ?_
        intro i hi
        simp only [List.mem_cons, List.not_mem_nil, or_false] at hi
        rcases hi with rfl | rfl
        ·refine a_op rfl rfl ?_
         refine x_val (v_loadBN (cs' := intCells (stL q.L q.dn)) 1 rfl uT32 rfl Tryz.hi32 Tryz.cz32 rfl (chRd_st hz) (by simp [intCells, hz])) rfl ?_
         refine tn <| t1 10 rfl rfl <| x_val (v_loadB 1 rfl uT28 rfl rfl rfl) rfl <| tn ?_
         refine tk 15 rfl (v_indexS uT28 Tryz.hi37 Tryz.cz37 rfl rfl (by first | omega | decide)) rfl ?_
         refine tk 16 rfl (v_loadR 0 rfl (by omega) hu uT37 rfl rfl) rfl ?_
         refine t1 17 rfl rfl ?_
         refine x_call (dst := some 67) (mc := []) (σ := Value) (fun _ => True) (fun sl => .tuple #[intsV (stL q.L (q.dn + 1)), sl]) (fun sl => [Own sl 96 5 (lastL q.L (q.dn + 1)).length (resL (lastL q.L (q.dn + 1)))]) rfl rfl rfl Tryz.call63 (fun w hw => hcall w _ (hgd ▸ (keep_all (Rounds.up _ _) (hw.mem (i := 3) rfl)).at hdl (List.getElem?_eq_getElem hiv))) rfl (fun sl _ => ?_); refine g_shape 0 rfl fun A9 k9 hv9 _ => ?_; subst hv9
         refine tn <| tk 18 rfl (v_move rfl) rfl <| tk 19 rfl (v_extract rfl rfl) rfl <| tk 20 rfl (v_extract rfl rfl) rfl <| tk 21 rfl (v_nilCheck rfl) rfl <| tk 22 rfl (v_fieldAddrB (o := 3) uT35 rfl rfl Tryz.nz32 rfl) rfl <| t1 23 rfl rfl ?_
         refine x_store (v := Value.agg (intCells (stL q.L (q.dn + 1))).toArray) 2 rfl rfl rfl Tryz.hi32 (Tryz.cz32.trans (by simp [Value.cells, intCells, hz2])) (by rw [chRd_len hz]; simp [Value.cells, intCells, hz2]) (one_intCells _) (chRd tv rv (.slice (some ad) q.L.length kl) q.k q.dn (stL q.L (q.dn + 1)) lw) (by rw [show (Value.agg (intCells (stL q.L (q.dn + 1))).toArray).cells.size = 10 from by simp [Value.cells, intCells, hz2]]; exact chRd_st_set hz _) ?_
         refine tn <| tk 24 rfl (v_nilCheck rfl) rfl <| tk 25 rfl (v_fieldAddrB (o := 13) uT35 rfl rfl Tryz.nz33 rfl) rfl <| t1 26 rfl rfl ?_
         refine x_store1 (v := (.slice A9 (lastL q.L (q.dn + 1)).length k9)) 2 rfl rfl rfl Tryz.hi33 Tryz.cz33 rfl (by rw [chRd_len hz2]; decide) rfl ?_; rw [chRd_last_set hz2]
         refine tn <| td ?_
         exact e_cutEnd (.slice A9 (lastL q.L (q.dn + 1)).length k9) trivial (by repeat first | exact .nil _ | refine .cons rfl ?_) (fun _ hw => hw.pick [1, 2, 3, 4, 0] (by decide))
        ·refine a_op rfl rfl <| x_val (v_loadB 1 rfl uT28 rfl rfl rfl) rfl <| tn ?_
         refine tk 15 rfl (v_indexS uT28 Tryz.hi37 Tryz.cz37 rfl rfl (by first | omega | decide)) rfl ?_
         refine tk 16 rfl (v_loadR 0 rfl (by omega) hu uT37 rfl rfl) rfl ?_
         refine t1 5 rfl rfl ?_
         refine x_val (v_loadBN (cs' := intCells (stL q.L q.dn)) 1 rfl uT32 rfl Tryz.hi32 Tryz.cz32 rfl (chRd_st hz) (by simp [intCells, hz])) rfl ?_
         refine tn <| t1 17 rfl rfl ?_
         refine x_call (dst := some 67) (mc := []) (σ := Value) (fun _ => True) (fun sl => .tuple #[intsV (stL q.L (q.dn + 1)), sl]) (fun sl => [Own sl 96 5 (lastL q.L (q.dn + 1)).length (resL (lastL q.L (q.dn + 1)))]) rfl rfl rfl Tryz.call63 (fun w hw => hcall w _ (hgd ▸ (keep_all (Rounds.up _ _) (hw.mem (i := 3) rfl)).at hdl (List.getElem?_eq_getElem hiv))) rfl (fun sl _ => ?_); refine g_shape 0 rfl fun A9 k9 hv9 _ => ?_; subst hv9
         refine tn <| tk 18 rfl (v_move rfl) rfl <| tk 19 rfl (v_extract rfl rfl) rfl <| tk 20 rfl (v_extract rfl rfl) rfl <| tk 21 rfl (v_nilCheck rfl) rfl <| tk 22 rfl (v_fieldAddrB (o := 3) uT35 rfl rfl Tryz.nz32 rfl) rfl <| t1 23 rfl rfl ?_
         refine x_store (v := Value.agg (intCells (stL q.L (q.dn + 1))).toArray) 2 rfl rfl rfl Tryz.hi32 (Tryz.cz32.trans (by simp [Value.cells, intCells, hz2])) (by rw [chRd_len hz]; simp [Value.cells, intCells, hz2]) (one_intCells _) (chRd tv rv (.slice (some ad) q.L.length kl) q.k q.dn (stL q.L (q.dn + 1)) lw) (by rw [show (Value.agg (intCells (stL q.L (q.dn + 1))).toArray).cells.size = 10 from by simp [Value.cells, intCells, hz2]]; exact chRd_st_set hz _) ?_
         refine tn <| tk 24 rfl (v_nilCheck rfl) rfl <| tk 25 rfl (v_fieldAddrB (o := 13) uT35 rfl rfl Tryz.nz33 rfl) rfl <| t1 26 rfl rfl ?_
         refine x_store1 (v := (.slice A9 (lastL q.L (q.dn + 1)).length k9)) 2 rfl rfl rfl Tryz.hi33 Tryz.cz33 rfl (by rw [chRd_len hz2]; decide) rfl ?_; rw [chRd_last_set hz2]
         refine tn <| td ?_
         exact e_cutEnd (.slice A9 (lastL q.L (q.dn + 1)).length k9) trivial (by repeat first | exact .nil _ | refine .cons rfl ?_) (fun _ hw => hw.pick [1, 2, 3, 4, 0] (by decide))
      ·rintro sl -
       refine esr <| wm rfl rfl <| wn rfl rfl <| w_val (v_fieldAddrB (o := 2) uT35 rfl rfl Tryz.nz3 rfl) rfl <| w_val (v_loadB 1 rfl uT3 rfl rfl rfl) rfl ?_
       refine w_val (v_add rfl rfl (by omega)) rfl ?_
       refine wn rfl rfl <| w_val (v_fieldAddrB (o := 2) uT35 rfl rfl Tryz.nz3 rfl) rfl <| w_op rfl ?_
       refine x_store1 1 rfl rfl rfl Tryz.hi3 Tryz.cz3 rfl (by rw [chRd_len hz2]; decide) rfl ?_
       refine wsr <| wa rfl rfl <| w_nil ?_
       refine e_retQ (q_ret1 rfl (.tmp rfl) ?_)
       exact fun w' hw' => ⟨(.slice (some ad) q.L.length kl, vs, G, sl), trivial, rfl, (hw'.pick [1, 2, 3, 4] (by decide)).res⟩
     ·have hq2 : runQ q x.picks.length = (q, 4) := by unfold runQ; rw [if_pos hdk2, if_pos (by omega)]
      rw [hq2]
      refine e_condDF rfl (by omega) ?_
      refine e_skip <| e_seq <| esr <| w_val (v_fieldAddrB (o := 2) uT90 rfl rfl Tryz.nz70 rfl) rfl <| w_val (v_loadB 0 rfl uT70 rfl rfl rfl) rfl <| w_val (v_lenS uT70 rfl) rfl ?_
      refine w_val (v_is (v' := .bool true) (v_gtr rfl rfl) (by rw [decide_eq_true (by omega)])) rfl ?_
      refine w_nil <| e_condT rfl <| esr <| wa rfl rfl <| w_nil ?_
      refine e_retQ (q_ret1 rfl (.tmp rfl) ?_)
      exact fun w' hw' => ⟨(.slice Al q.L.length kl, vs, G, lw), trivial, rfl, (hw'.pick [1, 2, 3, 4] (by decide)).res⟩
    ·have hq2 : runQ q x.picks.length = (q, 7) := by unfold runQ; rw [if_neg hdk2]
     rw [hq2]
     refine e_condDT rfl (by omega) ?_
     refine esr <| wa rfl rfl <| w_nil ?_
     refine e_retQ (q_ret1 rfl (.tmp rfl) ?_)
     exact fun w' hw' => ⟨(.slice Al q.L.length kl, vs, G, lw), trivial, rfl, (hw'.pick [1, 2, 3, 4] (by decide)).res⟩
   ·by_cases h4 : x.kind = 4
    ·have hq : doQ q x = (crashQ q x.keep, 0) := by unfold doQ; rw [if_neg h1, if_neg h2, if_neg h3, if_pos h4]
     have hcok := crashQ_ok hok x.keep
     rw [hq]
     unfold crashQ at *
     have hcr := fun (w1 : World) (h1 : ∀ d ∈ scHd c 39 tv (chTd rv q.dn (stL q.L q.dn) lw) (.slice Al q.L.length kl) q.L q.k vs G, d.holds w1) (h2 : (scHd c 39 tv (chTd rv q.dn (stL q.L q.dn) lw) (.slice Al q.L.length kl) q.L q.k vs G).Pairwise Disj) => scCrashD_spec c 39 tv (chTd rv q.dn (stL q.L q.dn) lw) (.slice Al q.L.length kl) q.L q.k vs G x.keep w1 h1 h2 hok.log
     generalize q.L.take (crashL q.L q.k x.keep) = L' at *
     generalize crashL q.L q.k x.keep = m at *
     generalize vs.take m = vs' at *
     dsimp only
     refine w_val (v_is (v' := .bool false) (v_eql rfl rfl) (by rw [decide_eq_false h1])) rfl ?_
     refine wa rfl rfl <| w_nil <| e_condF rfl <| esr ?_
     refine w_val (v_is (v' := .bool false) (v_eql rfl rfl) (by rw [decide_eq_false h2])) rfl ?_
     refine wa rfl rfl <| w_nil <| e_condF rfl <| esr ?_
     refine w_val (v_is (v' := .bool false) (v_eql rfl rfl) (by rw [decide_eq_false h3])) rfl ?_
     refine wa rfl rfl <| w_nil <| e_condF rfl <| esr ?_
     refine w_val (v_is (v' := .bool true) (v_eql rfl rfl) (by rw [decide_eq_true h4])) rfl ?_
     refine wa rfl rfl <| w_nil <| e_condT rfl <| e_seq <| e_draw ([.blk b3 90 [.int .i64 x.kind, .slice Au x.round.length ku, .slice Ap x.picks.length kpp, .int .i64 x.keep]]) Tryz.mixed <| tk 0 rfl (v_move rfl) rfl <| tk 1 rfl (v_nilCheck rfl) rfl <| tk 2 rfl (v_fieldAddrB (o := 0) uT35 rfl rfl Tryz.nz30 rfl) rfl <| tk 3 rfl (v_fieldAddrB (o := 3) uT90 rfl rfl Tryz.nz3 rfl) rfl <| tk 4 rfl (v_loadB 0 rfl uT3 rfl rfl rfl) rfl <| t1 5 rfl rfl ?_
     refine x_callM (dst := some 88) (scHd c 39 tv (chTd rv q.dn (stL q.L q.dn) lw) (.slice Al q.L.length kl) q.L q.k vs G) [.blk b3 90 [.int .i64 x.kind, .slice Au x.round.length ku, .slice Ap x.picks.length kpp, .int .i64 x.keep], Own lw 96 5 (lastL q.L q.dn).length (resL (lastL q.L q.dn))] (σ := Value) (fun _ => True) (fun _ => .tuple #[]) (fun s => scHd c 39 tv (chTd rv q.dn (stL q.L q.dn) lw) s L' m vs' G) ((List.perm_middle (l₁ := [_, _, _])).symm) rfl rfl rfl Tryz.call64 (fun w hw => hcr w (res_part hw).1 (res_part hw).2) rfl (fun lv2 _ => ?_)
     refine tn <| td ?_
     refine g_shapeR2 1 rfl fun Al2 kl2 hlv2 hkl2 had2 => ?_
     subst hlv2
     refine g_rounds 2 rfl fun hvl2 => ?_
     refine g_heap (m' := [.blk b3 90 [.int .i64 x.kind, .slice Au x.round.length ku, .slice Ap x.picks.length kpp, .int .i64 x.keep], .blk c 39 (chRd tv rv (.slice Al2 L'.length kl2) m q.dn (stL q.L q.dn) lw), Rw (.slice Al2 L'.length kl2) 37 1 L'.length vs', Keep G (Rounds vs' L')]) (fun _ hw => hw.pick [3, 0, 1, 2] (by decide)) ?_
     refine esr <| wm rfl rfl <| wm rfl rfl <| wm rfl rfl ?_
     refine w_val (v_build (v := intsV zero10) _ rfl (by intro _; simp [Instr.build, Instr.fill, Tryz.zeroValue32, go_sem]; rfl)) rfl ?_
     refine wn rfl rfl <| w_val (v_fieldAddrB (o := 2) uT35 rfl rfl Tryz.nz3 rfl) rfl <| w_op rfl ?_
     refine x_store1 1 rfl rfl rfl Tryz.hi3 Tryz.cz3 rfl (by rw [chRd_len hz]; decide) rfl ?_; rw [chRd_dn0]
     refine wn rfl rfl <| w_val (v_fieldAddrB (o := 3) uT35 rfl rfl Tryz.nz32 rfl) rfl <| w_op rfl ?_
     refine x_store (v := intsV zero10) 1 rfl rfl rfl Tryz.hi32 (Tryz.cz32.trans rfl) (by rw [chRd_len hz]; decide) (one_intCells _) (chRd tv rv (.slice Al2 L'.length kl2) m 0 zero10 lw) (chRd_st_set hz _) ?_
     refine wn rfl rfl <| w_val (v_fieldAddrB (o := 13) uT35 rfl rfl Tryz.nz33 rfl) rfl <| w_op rfl ?_
     refine x_store1 (v := .slice none 0 0) 1 rfl rfl rfl Tryz.hi33 Tryz.cz33 rfl (by rw [chRd_len rfl]; decide) rfl ?_; rw [chRd_last_set rfl]
     refine w_nil <| e_seq <| e_block ?_
     refine e_loopH (σ := Nat × Value) [0, 3] (.cons rfl (.cons rfl .nil)) (fun _ => []) (fun s => ([.blk b3 90 [.int .i64 x.kind, .slice Au x.round.length ku, .slice Ap x.picks.length kpp, .int .i64 x.keep], .blk c 39 (chRd tv rv (.slice Al2 L'.length kl2) m s.1 (stL L' s.1) s.2), Rw (.slice Al2 L'.length kl2) 37 1 L'.length vs', Keep G (Rounds vs' L'), Own s.2 96 5 (lastL L' s.1).length (resL (lastL L' s.1))] : Hp)) (fun s => s.1 ≤ m) (fun s => m - s.1) (0, .slice none 0 0) (Nat.zero_le _) (by repeat first | exact .nil _ | refine .cons rfl ?_) (fun _ hw => (hw.ownNil 96 5).pick [1, 2, 3, 4, 0] (by decide)) ?_
     rintro ⟨d, lw2⟩ hd
     dsimp only at hd ⊢
     have hz1 := stL_len L' d
     have hcl := hcok.log.sure
     refine e_seq <| e_seq <| e_draw (([.blk b3 90 [.int .i64 x.kind, .slice Au x.round.length ku, .slice Ap x.picks.length kpp, .int .i64 x.keep], .blk c 39 (chRd tv rv (.slice Al2 L'.length kl2) m d (stL L' d) lw2)] : Hp)) Tryz.mixed <| tk 0 rfl (v_move rfl) rfl <| tk 1 rfl (v_nilCheck rfl) rfl <| tk 2 rfl (v_fieldAddrB (o := 2) uT35 rfl rfl Tryz.nz3 rfl) rfl <| tk 3 rfl (v_loadB 1 rfl uT3 rfl rfl rfl) rfl <| tk 4 rfl (v_move rfl) rfl <| tk 5 rfl (v_nilCheck rfl) rfl <| tk 6 rfl (v_fieldAddrB (o := 0) uT35 rfl rfl Tryz.nz30 rfl) rfl <| tk 7 rfl (v_fieldAddrB (o := 1) uT30 rfl rfl Tryz.nz3 rfl) rfl ?_
     refine tk 8 rfl (v_loadB 1 rfl uT3 rfl rfl rfl) rfl <| tk 9 rfl (v_lss rfl rfl) rfl <| td ?_
     refine e_condD rfl (fun hlt => ?_) (fun hlt => ?_)
     ·have hdm : d < m := by omega
      have hdl : d < L'.length := by dsimp only at hcl; omega
      have hokd : QL.Ok ⟨L', m, d⟩ := ⟨hcok.log, hd⟩
      have hst1 := stL_next' L' d
      have hla1 := lastL_next' L' d
      have hz2 := stL_len L' (d + 1)
      have hgd : L'.getD d [] = L'[d] := by simp [List.getD, hdl]
      have hcall := fun (w1 : World) (v1 : Value) (h1 : IsRound w1.cell? v1 (L'.getD d [])) => refAll_spec (stL L' d) v1 _ w1 h1 hz1 (hokd.fault hdl)
      rw [← hst1, ← hla1] at hcall
      have hiv : d < vs'.length := by omega
      have hu : vs'[((d : Int)).toNat * 1]? = some vs'[d] := by rw [Int.toNat_natCast, Nat.mul_one]; exact List.getElem?_eq_getElem hiv
      obtain ⟨ad, rfl⟩ := had2 (by omega)
      have h25' := hcok.log.len
      dsimp only at h25'
      refine e_skip <| e_block <| e_seq ?_
      refine e_cutH (σ := Value) [0, 3] (.cons rfl (.cons rfl .nil)) (fun _ => []) (fun s => ([.blk b3 90 [.int .i64 x.kind, .slice Au x.round.length ku, .slice Ap x.picks.length kpp, .int .i64 x.keep], .blk c 39 (chRd tv rv (.slice (some ad) L'.length kl2) m d (stL L' (d + 1)) s), Rw (.slice (some ad) L'.length kl2) 37 1 L'.length vs', Keep G (Rounds vs' L'), Own s 96 5 (lastL L' (d + 1)).length (resL (lastL L' (d + 1)))] : Hp)) (fun _ => True) ?_ ?_
      ·refine e_draw ([Rw (.slice (some ad) L'.length kl2) 37 1 L'.length vs', Keep G (Rounds vs' L')]) Tryz.mixed <| tk 0 rfl (v_move rfl) rfl <| tk 1 rfl (v_move rfl) rfl <| tk 2 rfl (v_move rfl) rfl <| tk 3 rfl (v_nilCheck rfl) rfl <| tk 4 rfl (v_fieldAddrB (o := 3) uT35 rfl rfl Tryz.nz32 rfl) rfl <| tk 6 rfl (v_move rfl) rfl <| tk 7 rfl (v_nilCheck rfl) rfl <| tk 8 rfl (v_fieldAddrB (o := 0) uT35 rfl rfl Tryz.nz30 rfl) rfl <| tk 9 rfl (v_fieldAddrB (o := 0) uT30 rfl rfl Tryz.nz28 rfl) rfl <| tk 11 rfl (v_move rfl) rfl <| tk 12 rfl (v_nilCheck rfl) rfl <| tk 13 rfl (v_fieldAddrB (o := 2) uT35 rfl rfl Tryz.nz3 rfl) rfl ?_
       refine a_all [5, 10, 14] (by kernel_rfl) rfl ?_
       intro i hi
       simp only [List.mem_cons, List.not_mem_nil, or_false] at hi
       rcases hi with rfl | rfl | rfl
       ·refine a_op rfl rfl ?_
        refine x_val (v_loadBN (cs' := intCells (stL L' d)) 1 rfl uT32 rfl Tryz.hi32 Tryz.cz32 rfl (chRd_st hz1) (by simp [intCells, hz1])) rfl ?_
        refine tn ?_
        refine a_all [10, 14] (by kernel_rfl) rfl ?_
        intro i hi
        simp only [List.mem_cons, List.not_mem_nil, or_false] at hi
        rcases hi with rfl | rfl
        ·refine a_op rfl rfl <| x_val (v_loadB 1 rfl uT28 rfl rfl rfl) rfl <| tn <| t1 14 rfl rfl <| x_val (v_loadB 1 rfl uT3 rfl rfl rfl) rfl <| tn ?_
         refine tk 15 rfl (v_indexS uT28 Tryz.hi37 Tryz.cz37 rfl rfl (by first | omega | decide)) rfl ?_
         refine tk 16 rfl (v_loadR 0 rfl (by omega) hu uT37 rfl rfl) rfl ?_
         refine t1 17 rfl rfl ?_
         refine x_call (dst := some 127) (mc := []) (σ := Value) (fun _ => True) (fun sl => .tuple #[intsV (stL L' (d + 1)), sl]) (fun sl => [Own sl 96 5 (lastL L' (d + 1)).length (resL (lastL L' (d + 1)))]) rfl rfl rfl Tryz.call63 (fun w hw => hcall w _ (hgd ▸ (keep_all (Rounds.up _ _) (hw.mem (i := 3) rfl)).at hdl (List.getElem?_eq_getElem hiv))) rfl (fun sl _ => ?_); refine g_shape 0 rfl fun A9 k9 hv9 _ => ?_; subst hv9
         refine tn <| tk 18 rfl (v_move rfl) rfl <| tk 19 rfl (v_extract rfl rfl) rfl <| tk 20 rfl (v_extract rfl rfl) rfl <| tk 21 rfl (v_nilCheck rfl) rfl <| tk 22 rfl (v_fieldAddrB (o := 3) uT35 rfl rfl Tryz.nz32 rfl) rfl <| t1 23 rfl rfl ?_
         refine x_store (v := Value.agg (intCells (stL L' (d + 1))).toArray) 2 rfl rfl rfl Tryz.hi32 (Tryz.cz32.trans (by simp [Value.cells, intCells, hz2])) (by rw [chRd_len hz1]; simp [Value.cells, intCells, hz2]) (one_intCells _) (chRd tv rv (.slice (some ad) L'.length kl2) m d (stL L' (d + 1)) lw2) (by rw [show (Value.agg (intCells (stL L' (d + 1))).toArray).cells.size = 10 from by simp [Value.cells, intCells, hz2]]; exact chRd_st_set hz1 _) ?_
         refine tn <| tk 24 rfl (v_nilCheck rfl) rfl <| tk 25 rfl (v_fieldAddrB (o := 13) uT35 rfl rfl Tryz.nz33 rfl) rfl <| t1 26 rfl rfl ?_
         refine x_store1 (v := .slice A9 (lastL L' (d + 1)).length k9) 2 rfl rfl rfl Tryz.hi33 Tryz.cz33 rfl (by rw [chRd_len hz2]; decide) rfl ?_; rw [chRd_last_set hz2]
         refine tn <| td ?_
         exact e_cutEnd (.slice A9 (lastL L' (d + 1)).length k9) trivial (by repeat first | exact .nil _ | refine .cons rfl ?_) (fun _ hw => hw.pick [1, 2, 3, 4, 0] (by decide))
        ·refine a_op rfl rfl <| x_val (v_loadB 1 rfl uT3 rfl rfl rfl) rfl <| tn <| t1 10 rfl rfl <| x_val (v_loadB 1 rfl uT28 rfl rfl rfl) rfl <| tn ?_
         refine tk 15 rfl (v_indexS uT28 Tryz.hi37 Tryz.cz37 rfl rfl (by first | omega | decide)) rfl ?_
         refine tk 16 rfl (v_loadR 0 rfl (by omega) hu uT37 rfl rfl) rfl ?_
         refine t1 17 rfl rfl ?_
         refine x_call (dst := some 127) (mc := []) (σ := Value) (fun _ => True) (fun sl => .tuple #[intsV (stL L' (d + 1)), sl]) (fun sl => [Own sl 96 5 (lastL L' (d + 1)).length (resL (lastL L' (d + 1)))]) rfl rfl rfl Tryz.call63 (fun w hw => hcall w _ (hgd ▸ (keep_all (Rounds.up _ _) (hw.mem (i := 3) rfl)).at hdl (List.getElem?_eq_getElem hiv))) rfl (fun sl _ => ?_); refine g_shape 0 rfl fun A9 k9 hv9 _ => ?_; subst hv9
         refine tn <| tk 18 rfl (v_move rfl) rfl <| tk 19 rfl (v_extract rfl rfl) rfl <| tk 20 rfl (v_extract rfl rfl) rfl <| tk 21 rfl (v_nilCheck rfl) rfl <| tk 22 rfl (v_fieldAddrB (o := 3) uT35 rfl rfl Tryz.nz32 rfl) rfl <| t1 23 rfl rfl ?_
         refine x_store (v := Value.agg (intCells (stL L' (d + 1))).toArray) 2 rfl rfl rfl Tryz.hi32 (Tryz.cz32.trans (by simp [Value.cells, intCells, hz2])) (by rw [chRd_len hz1]; simp [Value.cells, intCells, hz2]) (one_intCells _) (chRd tv rv (.slice (some ad) L'.length kl2) m d (stL L' (d + 1)) lw2) (by rw [show (Value.agg (intCells (stL L' (d + 1))).toArray).cells.size = 10 from by simp [Value.cells, intCells, hz2]]; exact chRd_st_set hz1 _) ?_
         refine tn <| tk 24 rfl (v_nilCheck rfl) rfl <| tk 25 rfl (v_fieldAddrB (o := 13) uT35 rfl rfl Tryz.nz33 rfl) rfl <| t1 26 rfl rfl ?_
         refine x_store1 (v := .slice A9 (lastL L' (d + 1)).length k9) 2 rfl rfl rfl Tryz.hi33 Tryz.cz33 rfl (by rw [chRd_len hz2]; decide) rfl ?_; rw [chRd_last_set hz2]
         refine tn <| td ?_
         exact e_cutEnd (.slice A9 (lastL L' (d + 1)).length k9) trivial (by repeat first | exact .nil _ | refine .cons rfl ?_) (fun _ hw => hw.pick [1, 2, 3, 4, 0] (by decide))
       ·refine a_op rfl rfl <| x_val (v_loadB 1 rfl uT28 rfl rfl rfl) rfl <| tn ?_
        refine a_all [5, 14] (by kernel_rfl) rfl ?_
        intro i hi
        simp only [List.mem_cons, List.not_mem_nil, or_false] at hi
        rcases hi with rfl | rfl
        ·refine a_op rfl rfl ?_
         refine x_val (v_loadBN (cs' := intCells (stL L' d)) 1 rfl uT32 rfl Tryz.hi32 Tryz.cz32 rfl (chRd_st hz1) (by simp [intCells, hz1])) rfl ?_
         refine tn <| t1 14 rfl rfl <| x_val (v_loadB 1 rfl uT3 rfl rfl rfl) rfl <| tn ?_
         refine tk 15 rfl (v_indexS uT28 Tryz.hi37 Tryz.cz37 rfl rfl (by first | omega | decide)) rfl ?_
         refine tk 16 rfl (v_loadR 0 rfl (by omega) hu uT37 rfl rfl) rfl ?_
         refine t1 17 rfl rfl ?_
         refine x_call (dst := some 127) (mc := []) (σ := Value) (fun _ => True) (fun sl => .tuple #[intsV (stL L' (d + 1)), sl]) (fun sl => [Own sl 96 5 (lastL L' (d + 1)).length (resL (lastL L' (d + 1)))]) rfl rfl rfl Tryz.call63 (fun w hw => hcall w _ (hgd ▸ (keep_all (Rounds.up _ _) (hw.mem (i := 3) rfl)).at hdl (List.getElem?_eq_getElem hiv))) rfl (fun sl _ => ?_); refine g_shape 0 rfl fun A9 k9 hv9 _ => ?_; subst hv9
         refine tn <| tk 18 rfl (v_move rfl) rfl <| tk 19 rfl (v_extract rfl rfl) rfl <| tk 20 rfl (v_extract rfl rfl) rfl <| tk 21 rfl (v_nilCheck rfl) rfl <| tk 22 rfl (v_fieldAddrB (o := 3) uT35 rfl rfl Tryz.nz32 rfl) rfl <| t1 23 rfl rfl ?_
         refine x_store (v := Value.agg (intCells (stL L' (d + 1))).toArray) 2 rfl rfl rfl Tryz.hi32 (Tryz.cz32.trans (by simp [Value.cells, intCells, hz2])) (by rw [chRd_len hz1]; simp [Value.cells, intCells, hz2]) (one_intCells _) (chRd tv rv (.slice (some ad) L'.length kl2) m d (stL L' (d + 1)) lw2) (by rw [show (Value.agg (intCells (stL L' (d + 1))).toArray).cells.size = 10 from by simp [Value.cells, intCells, hz2]]; exact chRd_st_set hz1 _) ?_
         refine tn <| tk 24 rfl (v_nilCheck rfl) rfl <| tk 25 rfl (v_fieldAddrB (o := 13) uT35 rfl rfl Tryz.nz33 rfl) rfl <| t1 26 rfl rfl ?_
         refine x_store1 (v := .slice A9 (lastL L' (d + 1)).length k9) 2 rfl rfl rfl Tryz.hi33 Tryz.cz33 rfl (by rw [chRd_len hz2]; decide) rfl ?_; rw [chRd_last_set hz2]
         refine tn <| td ?_
         exact e_cutEnd (.slice A9 (lastL L' (d + 1)).length k9) trivial (by repeat first | exact .nil _ | refine .cons rfl ?_) (fun _ hw => hw.pick [1, 2, 3, 4, 0] (by decide))
        ·refine a_op rfl rfl <| x_val (v_loadB 1 rfl uT3 rfl rfl rfl) rfl <| tn ?_
         refine tk 15 rfl (v_indexS uT28 Tryz.hi37 Tryz.cz37 rfl rfl (by first | omega | decide)) rfl ?_
         refine tk 16 rfl (v_loadR 0 rfl (by omega) hu uT37 rfl rfl) rfl ?_
         refine t1 5 rfl rfl ?_
         refine x_val (v_loadBN (cs' := intCells (stL L' d)) 1 rfl uT32 rfl Tryz.hi32 Tryz.cz32 rfl (chRd_st hz1) (by simp [intCells, hz1])) rfl ?_
         refine tn <| t1 17 rfl rfl ?_
         refine x_call (dst := some 127) (mc := []) (σ := Value) (fun _ => True) (fun sl => .tuple #[intsV (stL L' (d + 1)), sl]) (fun sl => [Own sl 96 5 (lastL L' (d + 1)).length (resL (lastL L' (d + 1)))]) rfl rfl rfl Tryz.call63 (fun w hw => hcall w _ (hgd ▸ (keep_all (Rounds.up _ _) (hw.mem (i := 3) rfl)).at hdl (List.getElem?_eq_getElem hiv))) rfl (fun sl _ => ?_); refine g_shape 0 rfl fun A9 k9 hv9 _ => ?_; subst hv9
         refine tn <| tk 18 rfl (v_move rfl) rfl <| tk 19 rfl (v_extract rfl rfl) rfl <| tk 20 rfl (v_extract rfl rfl) rfl <| tk 21 rfl (v_nilCheck rfl) rfl <| tk 22 rfl (v_fieldAddrB (o := 3) uT35 rfl rfl Tryz.nz32 rfl) rfl <| t1 23 rfl rfl ?_
         refine x_store (v := Value.agg (intCells (stL L' (d + 1))).toArray) 2 rfl rfl rfl Tryz.hi32 (Tryz.cz32.trans (by simp [Value.cells, intCells, hz2])) (by rw [chRd_len hz1]; simp [Value.cells, intCells, hz2]) (one_intCells _) (chRd tv rv (.slice (some ad) L'.length kl2) m d (stL L' (d + 1)) lw2) (by rw [show (Value.agg (intCells (stL L' (d + 1))).toArray).cells.size = 10 from by simp [Value.cells, intCells, hz2]]; exact chRd_st_set hz1 _) ?_
         refine tn <| tk 24 rfl (v_nilCheck rfl) rfl <| tk 25 rfl (v_fieldAddrB (o := 13) uT35 rfl rfl Tryz.nz33 rfl) rfl <| t1 26 rfl rfl ?_
         refine x_store1 (v := .slice A9 (lastL L' (d + 1)).length k9) 2 rfl rfl rfl Tryz.hi33 Tryz.cz33 rfl (by rw [chRd_len hz2]; decide) rfl ?_; rw [chRd_last_set hz2]
         refine tn <| td ?_
         exact e_cutEnd (.slice A9 (lastL L' (d + 1)).length k9) trivial (by repeat first | exact .nil _ | refine .cons rfl ?_) (fun _ hw => hw.pick [1, 2, 3, 4, 0] (by decide))
       ·refine a_op rfl rfl <| x_val (v_loadB 1 rfl uT3 rfl rfl rfl) rfl <| tn ?_
        refine a_all [5, 10] (by kernel_rfl) rfl ?_
        intro i hi
        simp only [List.mem_cons, List.not_mem_nil, or_false] at hi
        rcases hi with rfl | rfl
        ·refine a_op rfl rfl ?_
         refine x_val (v_loadBN (cs' := intCells (stL L' d)) 1 rfl uT32 rfl Tryz.hi32 Tryz.cz32 rfl (chRd_st hz1) (by simp [intCells, hz1])) rfl ?_
         refine tn <| t1 10 rfl rfl <| x_val (v_loadB 1 rfl uT28 rfl rfl rfl) rfl <| tn ?_
         refine tk 15 rfl (v_indexS uT28 Tryz.hi37 Tryz.cz37 rfl rfl (by first | omega | decide)) rfl ?_
         refine tk 16 rfl (v_loadR 0 rfl (by omega) hu uT37 rfl rfl) rfl ?_
         refine t1 17 rfl rfl ?_
         refine x_call (dst := some 127) (mc := []) (σ := Value) (fun _ => True) (fun sl => .tuple #[intsV (stL L' (d + 1)), sl]) (fun sl => [Own sl 96 5 (lastL L' (d + 1)).length (resL (lastL L' (d + 1)))]) rfl rfl rfl Tryz.call63 (fun w hw => hcall w _ (hgd ▸ (keep_all (Rounds.up _ _) (hw.mem (i := 3) rfl)).at hdl (List.getElem?_eq_getElem hiv))) rfl (fun sl _ => ?_); refine g_shape 0 rfl fun A9 k9 hv9 _ => ?_; subst hv9
         refine tn <| tk 18 rfl (v_move rfl) rfl <| tk 19 rfl (v_extract rfl rfl) rfl <| tk 20 rfl (v_extract rfl rfl) rfl <| tk 21 rfl (v_nilCheck rfl) rfl <| tk 22 rfl (v_fieldAddrB (o := 3) uT35 rfl rfl Tryz.nz32 rfl) rfl <| t1 23 rfl rfl ?_
         refine x_store (v := Value.agg (intCells (stL L' (d + 1))).toArray) 2 rfl rfl rfl Tryz.hi32 (Tryz.cz32.trans (by simp [Value.cells, intCells, hz2])) (by rw [chRd_len hz1]; simp [Value.cells, intCells, hz2]) (one_intCells _) (chRd tv rv (.slice (some ad) L'.length kl2) m d (stL L' (d + 1)) lw2) (by rw [show (Value.agg (intCells (stL L' (d + 1))).toArray).cells.size = 10 from by simp [Value.cells, intCells, hz2]]; exact chRd_st_set hz1 _) ?_
         refine tn <| tk 24 rfl (v_nilCheck rfl) rfl <| tk 25 rfl (v_fieldAddrB (o := 13) uT35 rfl rfl Tryz.nz33 rfl) rfl <| t1 26 rfl rfl ?_
         refine x_store1 (v := .slice A9 (lastL L' (d + 1)).length k9) 2 rfl rfl rfl Tryz.hi33 Tryz.cz33 rfl (by rw [chRd_len hz2]; decide) rfl ?_; rw [chRd_last_set hz2]
         refine tn <| td ?_
         exact e_cutEnd (.slice A9 (lastL L' (d + 1)).length k9) trivial (by repeat first | exact .nil _ | refine .cons rfl ?_) (fun _ hw => hw.pick [1, 2, 3, 4, 0] (by decide))
        ·refine a_op rfl rfl <| x_val (v_loadB 1 rfl uT28 rfl rfl rfl) rfl <| tn ?_
         refine tk 15 rfl (v_indexS uT28 Tryz.hi37 Tryz.cz37 rfl rfl (by first | omega | decide)) rfl ?_
         refine tk 16 rfl (v_loadR 0 rfl (by omega) hu uT37 rfl rfl) rfl ?_
         refine t1 5 rfl rfl ?_
         refine x_val (v_loadBN (cs' := intCells (stL L' d)) 1 rfl uT32 rfl Tryz.hi32 Tryz.cz32 rfl (chRd_st hz1) (by simp [intCells, hz1])) rfl ?_
         refine tn <| t1 17 rfl rfl ?_
         refine x_call (dst := some 127) (mc := []) (σ := Value) (fun _ => True) (fun sl => .tuple #[intsV (stL L' (d + 1)), sl]) (fun sl => [Own sl 96 5 (lastL L' (d + 1)).length (resL (lastL L' (d + 1)))]) rfl rfl rfl Tryz.call63 (fun w hw => hcall w _ (hgd ▸ (keep_all (Rounds.up _ _) (hw.mem (i := 3) rfl)).at hdl (List.getElem?_eq_getElem hiv))) rfl (fun sl _ => ?_); refine g_shape 0 rfl fun A9 k9 hv9 _ => ?_; subst hv9
         refine tn <| tk 18 rfl (v_move rfl) rfl <| tk 19 rfl (v_extract rfl rfl) rfl <| tk 20 rfl (v_extract rfl rfl) rfl <| tk 21 rfl (v_nilCheck rfl) rfl <| tk 22 rfl (v_fieldAddrB (o := 3) uT35 rfl rfl Tryz.nz32 rfl) rfl <| t1 23 rfl rfl ?_
         refine x_store (v := Value.agg (intCells (stL L' (d + 1))).toArray) 2 rfl rfl rfl Tryz.hi32 (Tryz.cz32.trans (by simp [Value.cells, intCells, hz2])) (by rw [chRd_len hz1]; simp [Value.cells, intCells, hz2]) (one_intCells _) (chRd tv rv (.slice (some ad) L'.length kl2) m d (stL L' (d + 1)) lw2) (by rw [show (Value.agg (intCells (stL L' (d + 1))).toArray).cells.size = 10 from by simp [Value.cells, intCells, hz2]]; exact chRd_st_set hz1 _) ?_
         refine tn <| tk 24 rfl (v_nilCheck rfl) rfl <| tk 25 rfl (v_fieldAddrB (o := 13) uT35 rfl rfl Tryz.nz33 rfl) rfl <| t1 26 rfl rfl ?_
         refine x_store1 (v := .slice A9 (lastL L' (d + 1)).length k9) 2 rfl rfl rfl Tryz.hi33 Tryz.cz33 rfl (by rw [chRd_len hz2]; decide) rfl ?_; rw [chRd_last_set hz2]
         refine tn <| td ?_
         exact e_cutEnd (.slice A9 (lastL L' (d + 1)).length k9) trivial (by repeat first | exact .nil _ | refine .cons rfl ?_) (fun _ hw => hw.pick [1, 2, 3, 4, 0] (by decide))
      ·rintro sl -
       refine e_region <| wm rfl rfl <| wn rfl rfl <| w_val (v_fieldAddrB (o := 2) uT35 rfl rfl Tryz.nz3 rfl) rfl <| w_val (v_loadB 1 rfl uT3 rfl rfl rfl) rfl ?_
       refine w_val (v_add rfl rfl (by omega)) rfl ?_
       refine wn rfl rfl <| w_val (v_fieldAddrB (o := 2) uT35 rfl rfl Tryz.nz3 rfl) rfl <| w_op rfl ?_
       refine x_store1 1 rfl rfl rfl Tryz.hi3 Tryz.cz3 rfl (by rw [chRd_len hz2]; decide) rfl ?_
       refine w_nil <| e_blk ?_
       exact e_round ((d + 1, sl)) (by dsimp only; omega) (by dsimp only; omega) (by repeat first | exact .nil _ | refine .cons rfl ?_) (fun _ hw => hw)
     ·have e : d = m := by omega
      subst e
      refine e_exit rfl <| esr <| wa rfl rfl <| w_nil ?_
      refine e_retQ (q_ret1 rfl (.tmp rfl) ?_)
      exact fun w' hw' => ⟨(.slice Al2 L'.length kl2, vs', G, lw2), trivial, rfl, (hw'.pick [1, 2, 3, 4] (by decide)).res⟩
    ·have hq : doQ q x = (q, 2) := by unfold doQ; rw [if_neg h1, if_neg h2, if_neg h3, if_neg h4]
     rw [hq]
     refine w_val (v_is (v' := .bool false) (v_eql rfl rfl) (by rw [decide_eq_false h1])) rfl ?_
     refine wa rfl rfl <| w_nil <| e_condF rfl <| esr ?_
     refine w_val (v_is (v' := .bool false) (v_eql rfl rfl) (by rw [decide_eq_false h2])) rfl ?_
     refine wa rfl rfl <| w_nil <| e_condF rfl <| esr ?_
     refine w_val (v_is (v' := .bool false) (v_eql rfl rfl) (by rw [decide_eq_false h3])) rfl ?_
     refine wa rfl rfl <| w_nil <| e_condF rfl <| esr ?_
     refine w_val (v_is (v' := .bool false) (v_eql rfl rfl) (by rw [decide_eq_false h4])) rfl ?_
     refine wa rfl rfl <| w_nil <| e_condF rfl <| e_skip <| e_blk <| esr <| wa rfl rfl <| w_nil ?_
     refine e_retQ (q_ret1 rfl (.tmp rfl) ?_)
     exact fun w' hw' => ⟨(.slice Al q.L.length kl, vs, G, lw), trivial, rfl, (hw'.pick [1, 2, 3, 4] (by decide)).res⟩
end Go.SL
end
section
open Go Go.Proofs Go.SL
set_option maxRecDepth 100000
set_option maxHeartbeats 4000000
namespace Go.SL
end Go.SL
end
section
open Go Go.Proofs Go.SL
set_option maxRecDepth 100000
set_option maxHeartbeats 4000000
namespace Go.SL
theorem chThenD_spec (c : Nat) (lv : Value) (vs : List Value) (q : QL) (n : Int) (w : World) (h : ScVd w.cell? c lv q.L q.k vs) (hok : q.Ok) : Calls Tryz.prog 37 #[.pointer (some ⟨c, 1, none⟩), .int .i64 n] w fun e w' => e = .returned (.tuple #[intsV (thenL q.L n).1, .bool (thenL q.L n).2]) ∧ Res w [] [] w' := by
 rw [← off_none w] at h
 have h25 := hok.log.len
 obtain ⟨Al, kl, rfl, hkl, _, hc⟩ := id h.row
 have h0 := h.c0
 refine enter0 (N := 40) Tryz.func37 rfl rfl rfl <| esr <| w_op rfl ?_
 refine x_alloc (z := .agg #[.int .i64 0, .int .i64 0, .int .i64 0, .int .i64 0, .int .i64 0, .int .i64 0, .int .i64 0, .int .i64 0, .int .i64 0, .int .i64 0]) (by intro w; exact Tryz.zeroValue32 w) rfl (fun b4 => ?_)
 refine wa rfl rfl <| wsr <| w_op rfl ?_
 refine x_alloc (z := .agg #[.int .i64 0, .int .i64 0, .int .i64 0, .int .i64 0, .int .i64 0, .int .i64 0, .int .i64 0, .int .i64 0, .int .i64 0, .int .i64 0]) (by intro w; exact Tryz.zeroValue32 w) rfl (fun b6 => ?_)
 refine w_nil <| e_seq <| e_seq ?_
 by_cases hn0 : n < 0
 ·have e : thenL q.L n = (zero10, false) := by unfold thenL; rw [if_pos (.inl hn0)]
  rw [e]
  refine e_region <| wm rfl rfl ?_
  refine w_val (v_is (v' := .bool true) (v_lss rfl rfl) (by rw [decide_eq_true hn0])) rfl ?_
  refine wm rfl rfl <| w_skip rfl rfl rfl rfl <| w_skip rfl rfl rfl rfl <| w_skip rfl rfl rfl rfl <| w_skip rfl rfl rfl rfl <| w_skip rfl rfl rfl rfl <| w_skip rfl rfl rfl rfl <| w_skip rfl rfl rfl rfl <| w_skip rfl rfl rfl rfl <| w_val (v_pickT rfl rfl) rfl <| w_nil <| e_condT rfl <| esr <| w_val (v_loadBN 0 rfl uT32 rfl Tryz.hi32 Tryz.cz32 rfl (cs' := intCells zero10) rfl rfl) rfl <| w_op rfl ?_
  refine x_storeA 1 rfl rfl rfl Tryz.hi32 (Tryz.cz32.trans (by simp [Value.cells, intsV, resCells, intCells, zero10_len])) (by simp [Value.cells, intsV, resCells, intCells, zero10_len]) (by first | exact one_intCells _ | exact one_resCells _ _) ?_
  refine wa rfl rfl <| w_nil ?_
  refine e_retQ (q_ret2 rfl (ResV.agg 1 rfl rfl (by rw [isAggD, uT32]; rfl) (Tryz.cz32) Tryz.hi32) (.tmp rfl) ?_)
  exact fun w' hw' => ⟨rfl, hw'.res.nil⟩
 ·by_cases hnl : (q.L.length : Int) < n
  ·have e : thenL q.L n = (zero10, false) := by unfold thenL; rw [if_pos (.inr hnl)]
   rw [e]
   refine e_region <| wm rfl rfl ?_
   refine w_val (v_is (v' := .bool false) (v_lss rfl rfl) (by rw [decide_eq_false hn0])) rfl ?_
   refine wm rfl rfl <| w_want rfl rfl <| wm rfl rfl <| w_want rfl rfl <| wm rfl rfl <| w_want rfl rfl <| wn rfl rfl <| w_want rfl rfl <| w_val (v_fieldAddrB (o := 0) uT35 rfl rfl Tryz.nz30 rfl) rfl <| w_want rfl rfl <| w_val (v_fieldAddrB (o := 0) uT30 rfl rfl Tryz.nz28 rfl) rfl <| w_want rfl rfl <| w_val (v_loadO uT28 rfl rfl (h0)) rfl <| w_want rfl rfl <| w_val (v_lenS uT28 rfl) rfl <| w_want rfl rfl ?_
   refine w_val (v_is (v' := .bool true) (v_gtr rfl rfl) (by rw [decide_eq_true hnl])) rfl ?_
   refine w_val (v_pickF rfl rfl) rfl <| w_nil <| e_condT rfl <| esr <| w_val (v_loadBN 0 rfl uT32 rfl Tryz.hi32 Tryz.cz32 rfl (cs' := intCells zero10) rfl rfl) rfl <| w_op rfl ?_
   refine x_storeA 1 rfl rfl rfl Tryz.hi32 (Tryz.cz32.trans (by simp [Value.cells, intsV, resCells, intCells, zero10_len])) (by simp [Value.cells, intsV, resCells, intCells, zero10_len]) (by first | exact one_intCells _ | exact one_resCells _ _) ?_
   refine wa rfl rfl <| w_nil ?_
   refine e_retQ (q_ret2 rfl (ResV.agg 1 rfl rfl (by rw [isAggD, uT32]; rfl) (Tryz.cz32) Tryz.hi32) (.tmp rfl) ?_)
   exact fun w' hw' => ⟨rfl, hw'.res.nil⟩
  ·obtain ⟨m, rfl⟩ : ∃ m : Nat, n = m := ⟨n.toNat, by omega⟩
   have e : thenL q.L (m : Int) = (stL q.L m, true) := by unfold thenL; rw [if_neg (by omega), Int.toNat_natCast]
   rw [e]
   have hm : m ≤ q.L.length := by omega
   refine e_region <| wm rfl rfl ?_
   refine w_val (v_is (v' := .bool false) (v_lss rfl rfl) (by rw [decide_eq_false hn0])) rfl ?_
   refine wm rfl rfl <| w_want rfl rfl <| wm rfl rfl <| w_want rfl rfl <| wm rfl rfl <| w_want rfl rfl <| wn rfl rfl <| w_want rfl rfl <| w_val (v_fieldAddrB (o := 0) uT35 rfl rfl Tryz.nz30 rfl) rfl <| w_want rfl rfl <| w_val (v_fieldAddrB (o := 0) uT30 rfl rfl Tryz.nz28 rfl) rfl <| w_want rfl rfl <| w_val (v_loadO uT28 rfl rfl (h0)) rfl <| w_want rfl rfl <| w_val (v_lenS uT28 rfl) rfl <| w_want rfl rfl ?_
   refine w_val (v_is (v' := .bool false) (v_gtr rfl rfl) (by rw [decide_eq_false hnl])) rfl ?_
   refine w_val (v_pickF rfl rfl) rfl <| w_nil <| e_condF rfl <| e_skip <| e_seq <| esr <| wa rfl rfl <| w_nil <| e_block ?_
   refine e_loopH (σ := Nat) [0, 1, 4, 6] (.cons rfl (.cons rfl (.cons rfl (.cons rfl .nil)))) (fun i => [(7, .int .i64 (i : Int))]) (fun i => [.blk b6 32 (intCells (stL q.L i)), .blk b4 32 (intCells zero10)]) (fun i => i ≤ m) (fun i => m - i) 0 (Nat.zero_le _) (by repeat first | exact .nil _ | refine .cons rfl ?_) (fun _ hw => hw) ?_
   rintro i hi
   dsimp only at hi ⊢
   have hz := stL_len q.L i
   refine e_seq <| esr <| wm rfl rfl <| wm rfl rfl <| w_val (v_lss rfl rfl) rfl <| w_nil ?_
   refine e_condD rfl (fun hlt => ?_) (fun hlt => ?_)
   ·have hlt' : i < q.L.length := by omega
    obtain ⟨ad, rfl, hcl⟩ := hc (by omega)
    obtain ⟨u, hu, hround⟩ := h.rounds.2 i hlt'
    have hcell : off w (feet []) (ad.add (((i : Int)).toNat * 1)) = some u := hcl _ _ (by rw [Int.toNat_natCast, Nat.mul_one]; exact hu)
    have hgd : q.L.getD i [] = q.L[i] := by simp [List.getD, hlt']
    have hst1 := stL_next' q.L i
    have hz2 := stL_len q.L (i + 1)
    have hcall := fun (w1 : World) (hl : Le (off w (feet [])) w1.cell?) => refAll_spec (stL q.L i) u (q.L.getD i []) w1 (hgd ▸ hround.mono hl) hz (hok.fault hlt')
    rw [← hst1] at hcall
    refine e_skip <| e_seq <| e_block <| e_draw ([.blk b4 32 (intCells zero10)]) Tryz.mixed <| tk 1 rfl (v_move rfl) rfl <| tk 2 rfl (v_nilCheck rfl) rfl <| tk 3 rfl (v_fieldAddrB (o := 0) uT35 rfl rfl Tryz.nz30 rfl) rfl <| tk 4 rfl (v_fieldAddrB (o := 0) uT30 rfl rfl Tryz.nz28 rfl) rfl <| tk 5 rfl (v_loadO uT28 rfl rfl (h0)) rfl <| tk 6 rfl (v_move rfl) rfl ?_
    refine tk 7 rfl (v_indexS uT28 Tryz.hi37 Tryz.cz37 rfl rfl (by first | omega | decide)) rfl ?_
    refine tk 8 rfl (v_loadO uT37 rfl rfl (hcell)) rfl <| t1 0 rfl rfl ?_
    refine x_val (v_loadBN (cs' := intCells (stL q.L i)) 0 rfl uT32 rfl Tryz.hi32 Tryz.cz32 rfl (by show (intCells (stL q.L i)).take 10 = _; exact List.take_of_length_le (by simp [intCells, hz])) (by simp [intCells, hz])) rfl ?_
    refine tn <| t1 9 rfl rfl ?_
    refine x_call (dst := some 36) (mc := []) (σ := Value) (fun _ => True) (fun sl => .tuple #[intsV (stL q.L (i + 1)), sl]) (fun sl => [Own sl 96 5 (allL (stL q.L i) (q.L.getD i [])).2.length (resL (allL (stL q.L i) (q.L.getD i [])).2)]) rfl rfl rfl Tryz.call63 (fun w hw => hcall w hw.off) rfl (fun sl _ => ?_)
    refine tn <| tk 10 rfl (v_move rfl) rfl <| tk 11 rfl (v_extract rfl rfl) rfl <| tk 12 rfl (v_extract rfl rfl) rfl <| t1 13 rfl rfl ?_
    refine x_storeA (vs := (intCells (stL q.L (i + 1))).toArray) 1 rfl rfl rfl Tryz.hi32 (Tryz.cz32.trans (by simp [intCells, hz2])) (by simp [intCells, hz, hz2]) (one_intCells _) ?_
    refine tn <| td <| e_blk <| e_region <| wm rfl rfl ?_
    refine w_val (v_add rfl rfl (by omega)) rfl ?_
    refine wa rfl rfl <| w_nil ?_
    exact e_round (i + 1) (by omega) (by omega) (by repeat first | exact .nil _ | refine .cons rfl ?_) (fun _ hw => hw.pick [1, 2] (by decide))
   ·have e : i = m := by omega
    subst e
    refine e_exit rfl <| esr ?_
    refine w_val (v_loadBA 0 rfl uT32 rfl Tryz.hi32 (Tryz.cz32.trans (by simp [Value.cells, intsV, resCells, intCells, hz, zero10_len])) rfl) rfl ?_
    refine w_op rfl ?_
    refine x_storeA 1 rfl rfl rfl Tryz.hi32 (Tryz.cz32.trans (by simp [Value.cells, intsV, resCells, intCells, hz, zero10_len])) (by simp [Value.cells, intsV, resCells, intCells, hz, zero10_len]) (by first | exact one_intCells _ | exact one_resCells _ _) ?_
    refine wa rfl rfl <| w_nil ?_
    refine e_retQ (q_ret2 rfl (ResV.agg 1 rfl rfl (by rw [isAggD, uT32]; rfl) (Tryz.cz32.trans (by simp [intCells, hz])) Tryz.hi32) (.tmp rfl) ?_)
    exact fun w' hw' => ⟨rfl, hw'.res.nil⟩
end Go.SL
end
