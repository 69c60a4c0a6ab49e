/- Ytebdkaadbakhlab: part W6 of this seat's own texts. -/
import Derived.Test.YtebdkaadbakhlabW5
import Derived.Test.YtebdkaadbakhlabP3
set_option linter.unusedVariables false
set_option linter.unusedSimpArgs false
section
open Go Go.Proofs Go.SL
set_option maxRecDepth 100000
namespace Go.SL
abbrev scB (s : Nat) (lv : Value) (k : Nat) : Chunk := .blk s 31 [lv, .int .i64 (k : Int)]
/-- a scroll in memory -/
abbrev scH (s : Nat) (lv : Value) (L : List RoundL) (k : Nat) (vs : List Value) (G : Nat → Prop) : Hp := [scB s lv k, Rw lv 34 1 L.length vs, Keep G (Rounds vs L)]
structure ScV (c : View) (s : Nat) (lv : Value) (L : List RoundL) (k : Nat) (vs : List Value) : Prop where
  cells : Cells c ⟨s, 0, none⟩ [lv, .int .i64 (k : Int)]
  row : Rds c lv 1 L.length vs
  rounds : Rounds vs L c
theorem ScV.mono {c c' : View} (hl : Le c c') {s : Nat} {lv : Value} {L : List RoundL} {k : Nat} {vs : List Value} (h : ScV c s lv L k vs) : ScV c' s lv L k vs := ⟨h.cells.mono hl, h.row.mono hl, Rounds.up _ _ _ _ hl h.rounds⟩
theorem ScV.of {s : Nat} {lv : Value} {L : List RoundL} {k : Nat} {vs : List Value} {G : Nat → Prop} {w : World} (h : ∀ c ∈ scH s lv L k vs G, c.holds w) : ScV w.cell? s lv L k vs :=
  ⟨blk_cells (h _ (List.mem_cons_self ..)) 0 (fun j v hj => by simpa using hj), row_rds (h _ (List.mem_cons_of_mem _ (List.mem_cons_self ..))), keep_all (Rounds.up _ _) (h _ (List.mem_cons_of_mem _ (List.mem_cons_of_mem _ (List.mem_cons_self ..))))⟩
theorem ScV.c0 {c : View} {s : Nat} {lv : Value} {L : List RoundL} {k : Nat} {vs : List Value} (h : ScV c s lv L k vs) : c ⟨s, 0, none⟩ = some lv := by have := h.cells 0 _ rfl; rwa [add_mk] at this
theorem ScV.c1 {c : View} {s : Nat} {lv : Value} {L : List RoundL} {k : Nat} {vs : List Value} (h : ScV c s lv L k vs) : c ⟨s, 0 + 1, none⟩ = some (.int .i64 (k : Int)) := by have := h.cells 1 _ rfl; rwa [add_mk] at this
theorem scBytes_spec (s : Nat) (lv : Value) (L : List RoundL) (k : Nat) (vs : List Value) (n : Nat) (w : World) (h : ScV w.cell? s lv L k vs) (hn : n ≤ L.length) (hok : LogOk L k) :
    Calls Try.prog 24 #[.pointer (some ⟨s, 0, none⟩), .int .i64 (n : Int)] w fun e w' => ∃ sl, True ∧ e = .returned sl ∧ Res w [] [Own sl 5 1 (bytesOf (L.take n)).length (byteCells (bytesOf (L.take n)))] w' := by
  have hB := hok.bytes
  have h25 := hok.len
  rw [← off_none w] at h
  obtain ⟨Al, kl, rfl, hkl, _, hc⟩ := id h.row
  have h0 := h.c0
  refine enter0 (N := 23) Try.func24 rfl rfl rfl ?_
  refine e_seq ?_
  refine e_region ?_
  refine w_val (v_assign rfl) rfl ?_
  refine w_nil ?_
  refine e_seq ?_
  refine e_region ?_
  refine w_val (v_assign rfl) rfl ?_
  refine w_nil ?_
  refine e_seq ?_
  refine e_seq ?_
  refine e_region ?_
  refine w_val (v_assign rfl) rfl ?_
  refine w_nil ?_
  refine g_heap (m' := [Own (.slice none 0 0) 5 1 0 []]) (fun _ hw => hw.ownNil _ _) ?_
  refine e_block ?_
  refine e_loopH (σ := Nat × Value) [0, 1] (.cons rfl (.cons rfl .nil)) (fun x => [(5, x.2), (6, .int .i64 x.1)]) (fun x => [Own x.2 5 1 (bytesOf (L.take x.1)).length (byteCells (bytesOf (L.take x.1)))]) (fun x => x.1 ≤ n) (fun x => n - x.1) (0, .slice none 0 0) (by dsimp only; omega) (by repeat (first | exact Sub.nil _ | refine Sub.cons rfl ?_)) (fun _ hw => by simpa [bytesOf, byteCells] using hw) ?_
  rintro ⟨i, v5⟩ hi
  dsimp only at hi ⊢
  refine e_seq ?_
  refine e_seq ?_
  refine e_region ?_
  refine w_val (v_move rfl) rfl ?_
  refine w_val (v_move rfl) rfl ?_
  refine w_val (v_lss rfl rfl) rfl ?_
  refine w_nil ?_
  refine e_condD rfl (fun hlt => ?_) (fun hlt => ?_)
  · have hlt' : i < L.length := by omega
    obtain ⟨ad, rfl, hcl⟩ := hc (by omega)
    obtain ⟨u, hu, hround⟩ := h.rounds.2 i hlt'
    have hcell : off w (feet []) (ad.add (((i : Int)).toNat * 1)) = some u := hcl _ _ (by rw [Int.toNat_natCast, Nat.mul_one]; exact hu)
    have hall := hok.all L[i] (List.getElem_mem _)
    have hokr := okRound_of hall.1 hall.2
    have hle1 := endAt_le_all (L := L) (i := i + 1) (by omega)
    have hsucc := endAt_succ hlt'
    have hnext : bytesOf (L.take (i + 1)) = bytesOf (L.take i) ++ encL L[i] := by rw [List.take_succ_eq_append_getElem hlt', bytesOf_app, bytesOf_one]
    have hl1 : (bytesOf (L.take i)).length + (encL L[i]).length ≤ 4000 := by
      have e1 : (bytesOf (L.take i)).length = endAt L i := rfl
      omega
    generalize hpost : bytesOf (L.take (i + 1)) = post at *
    generalize bytesOf (L.take i) = pre at *
    generalize L[i] = r at *
    refine e_skip ?_
    refine e_seq ?_
    refine e_block ?_
    refine e_region ?_
    refine w_val (v_move rfl) rfl ?_
    refine w_val (v_move rfl) rfl ?_
    refine w_val (v_nilCheck rfl) rfl ?_
    first | refine w_val (v_fieldAddrB (o := 0) Try.underlying31 rfl rfl Try.nz29 rfl) rfl ?_ | refine w_val (v_fieldAddr (o := 0) Try.underlying31 rfl rfl Try.nz29 rfl) rfl ?_
    first | refine w_val (v_loadO Try.underlying29 rfl rfl (h0)) rfl ?_ | refine w_val (v_loadO Try.underlying29 rfl rfl (hcell)) rfl ?_ | refine w_val (v_loadB 0 rfl Try.underlying29 rfl rfl rfl) rfl ?_ | refine w_val (v_loadB 1 rfl Try.underlying29 rfl rfl rfl) rfl ?_ | refine w_val (v_loadB 2 rfl Try.underlying29 rfl rfl rfl) rfl ?_ | refine w_val (v_loadB 3 rfl Try.underlying29 rfl rfl rfl) rfl ?_ | refine w_val (v_loadB 4 rfl Try.underlying29 rfl rfl rfl) rfl ?_ | refine w_val (v_loadB 5 rfl Try.underlying29 rfl rfl rfl) rfl ?_ | refine w_val (v_loadB 6 rfl Try.underlying29 rfl rfl rfl) rfl ?_ | refine w_val (v_loadB 7 rfl Try.underlying29 rfl rfl rfl) rfl ?_ | refine w_val (v_loadB 8 rfl Try.underlying29 rfl rfl rfl) rfl ?_ | refine w_val (v_loadB 9 rfl Try.underlying29 rfl rfl rfl) rfl ?_ | refine w_val (v_loadB 10 rfl Try.underlying29 rfl rfl rfl) rfl ?_ | refine w_val (v_loadB 11 rfl Try.underlying29 rfl rfl rfl) rfl ?_
    refine w_val (v_move rfl) rfl ?_
    first | refine w_val (v_indexSB Try.underlying29 Try.hi34 Try.cz34 rfl rfl (by first | omega | decide)) rfl ?_ | refine w_val (v_indexS Try.underlying29 Try.hi34 Try.cz34 rfl rfl (by first | omega | decide)) rfl ?_
    first | refine w_val (v_loadO Try.underlying34 rfl rfl (h0)) rfl ?_ | refine w_val (v_loadO Try.underlying34 rfl rfl (hcell)) rfl ?_ | refine w_val (v_loadB 0 rfl Try.underlying34 rfl rfl rfl) rfl ?_ | refine w_val (v_loadB 1 rfl Try.underlying34 rfl rfl rfl) rfl ?_ | refine w_val (v_loadB 2 rfl Try.underlying34 rfl rfl rfl) rfl ?_ | refine w_val (v_loadB 3 rfl Try.underlying34 rfl rfl rfl) rfl ?_ | refine w_val (v_loadB 4 rfl Try.underlying34 rfl rfl rfl) rfl ?_ | refine w_val (v_loadB 5 rfl Try.underlying34 rfl rfl rfl) rfl ?_ | refine w_val (v_loadB 6 rfl Try.underlying34 rfl rfl rfl) rfl ?_ | refine w_val (v_loadB 7 rfl Try.underlying34 rfl rfl rfl) rfl ?_ | refine w_val (v_loadB 8 rfl Try.underlying34 rfl rfl rfl) rfl ?_ | refine w_val (v_loadB 9 rfl Try.underlying34 rfl rfl rfl) rfl ?_ | refine w_val (v_loadB 10 rfl Try.underlying34 rfl rfl rfl) rfl ?_ | refine w_val (v_loadB 11 rfl Try.underlying34 rfl rfl rfl) rfl ?_
    refine w_op rfl ?_
    refine x_call (dst := some 20) (mc := []) (σ := Value) (fun _ => True) (fun sl => sl) (fun sl => [Own sl 5 1 (encL r).length (byteCells (encL r))]) rfl rfl rfl Try.call77 (fun w hw => bytesOf_spec _ r w (hround.mono hw.off) hokr hall.2) rfl (fun v20 _ => ?_)
    refine w_op rfl ?_
    refine x_appendI (z := .int .u8 0) (n := pre.length) (xs := byteCells pre) (size := 1) (bytes := 1) (k := (encL r).length) (news := byteCells (encL r)) 1 rfl rfl rfl Try.underlying23 (by kernel_rfl) rfl (by decide) (fun w hw => own_rds (hw.mem (i := 0) rfl)) (one_byteCells _) (by omega) (by simp only [maxLen]; omega) rfl (fun v21 => ?_)
    refine w_val (v_assign rfl) rfl ?_
    refine w_nil ?_
    refine e_blk ?_
    refine e_region ?_
    refine w_val (v_move rfl) rfl ?_
    first | refine w_val (v_add rfl rfl (by omega)) rfl ?_ | refine w_val (v_addw rfl rfl) rfl ?_
    refine w_val (v_assign rfl) rfl ?_
    refine w_nil ?_
    refine e_round ((i + 1, v21)) (by dsimp only; omega) (by dsimp only; omega) (by repeat (first | exact Sub.nil _ | refine Sub.cons rfl ?_)) (fun _ hw => ?_)
    dsimp only
    rw [hpost, hnext, byteCells_app, List.length_append]
    simp only [List.cons_append, List.nil_append, List.set_cons_zero, List.set_cons_succ] at hw
    exact hw.sub (.cons _ (List.Sublist.refl _))
  · obtain rfl : i = n := by omega
    refine e_exit rfl ?_
    refine e_seq ?_
    refine e_region ?_
    refine w_val (v_move rfl) rfl ?_
    refine w_val (v_assign rfl) rfl ?_
    refine w_nil ?_
    refine e_retQ (q_ret1 rfl (.tmp rfl) ?_)
    exact fun w' hw' => ⟨v5, trivial, rfl, hw'.res⟩
theorem own_shape {P : Program} {f : FuncId} {args : Array Value} {w : World} {e n : Nat} {xs : List Value} (h : Calls P f args w fun en w' => ∃ sl, True ∧ en = .returned sl ∧ Res w [] [Own sl e 1 n xs] w') :
    Calls P f args w fun en w' => ∃ s : Option Addr × Nat, True ∧ en = .returned (.slice s.1 n s.2) ∧ Res w [] [Own (.slice s.1 n s.2) e 1 n xs] w' := by
  refine h.mono ?_
  rintro en w' ⟨sl, _, rfl, hr⟩
  obtain ⟨A, k, rfl, _⟩ := own_rds (hr.hold _ (List.mem_singleton.2 rfl))
  exact ⟨(A, k), trivial, rfl, hr⟩
theorem refOwn_spec' (v : Value) (r : RoundL) (w : World) (h : IsRound w.cell? v r) (hr60 : r.length ≤ 60) (hb : ∀ d ∈ r, d.length ≤ 500) : Calls Try.prog 35 #[v] w
    fun e w' => ∃ s : Option Addr × Nat × (Nat → Prop), True ∧ e = .returned (.slice s.1 r.length s.2.1) ∧ Res w [] [Keep s.2.2 (fun c => IsRound c (.slice s.1 r.length s.2.1) r)] w' := by
  refine (refOwn_spec v r w h hr60 hb).mono ?_
  rintro e w' ⟨⟨sl, G⟩, _, rfl, hr⟩
  obtain ⟨A, k, hsl⟩ := keep_shape (hr.hold _ (List.mem_singleton.2 rfl))
  dsimp only at hsl hr ⊢
  subst hsl
  exact ⟨(A, k, G), trivial, rfl, hr⟩
end Go.SL
end
section
open Go Go.Proofs Go.SL
set_option maxRecDepth 100000
namespace Go.SL
theorem scPut_spec (s : Nat) (lv : Value) (L : List RoundL) (k : Nat) (vs : List Value) (G : Nat → Prop) (v : Value) (r : RoundL) (w : World) (h : ∀ c ∈ scH s lv L k vs G, c.holds w) (hsep : (scH s lv L k vs G).Pairwise Disj) (hok : LogOk L k)
    (hr : IsRound (off w (feet (scH s lv L k vs G))) v r) (hin : ∀ d ∈ r, ∀ o ∈ d, OpIn o) :
    Calls Try.prog 70 #[.pointer (some ⟨s, 0, none⟩), v] w fun e w' => ∃ x : Value × List Value × (Nat → Prop), True ∧ e = .returned (.tuple #[.int .i64 (putL L r).2.1, .int .i64 (putL L r).2.2]) ∧ Res w (scH s lv L k vs G) (scH s x.1 (putL L r).1 k x.2.1 x.2.2) w' := by
  have hB := hok.bytes
  have h25 := hok.len
  obtain ⟨A, kp, rfl, hle, _⟩ := hr.form
  refine enter (mc := scH s lv L k vs G) (N := 50) Try.func70 rfl rfl rfl ?_ ?_ ?_
  · exact h
  · exact hsep
  refine g_shapeR2 1 rfl fun Al kl hlv hkl _ => ?_
  subst hlv
  refine e_seq ?_
  refine e_region ?_
  refine w_val (v_assign rfl) rfl ?_
  refine w_val (v_assign rfl) rfl ?_
  refine w_nil ?_
  refine e_seq ?_
  refine e_seq ?_
  refine e_region ?_
  refine w_val (v_move rfl) rfl ?_
  refine w_op rfl ?_
  refine x_call0 (v := .int .i64 (roundFaultL r)) rfl rfl rfl Try.call41 rfl (fun w hw => RoundFault_spec _ r w (hr.mono hw.off)) ?_
  refine w_val (v_assign rfl) rfl ?_
  refine w_nil ?_
  refine e_seq ?_
  refine e_region ?_
  refine w_val (v_move rfl) rfl ?_
  refine w_val (v_neq rfl rfl) rfl ?_
  refine w_nil ?_
  by_cases hf : roundFaultL r ≠ 0
  · rw [putL_bad hf]
    first | refine e_condDT rfl (by omega) ?_ | refine e_condT rfl ?_
    refine e_seq ?_
    refine e_region ?_
    refine w_val (v_move rfl) rfl ?_
    refine w_val (v_assign rfl) rfl ?_
    refine w_val (v_assign rfl) rfl ?_
    refine w_nil ?_
    refine e_retQ (q_ret2 rfl (.tmp rfl) (.tmp rfl) ?_)
    exact fun w' hw' => ⟨(.slice Al L.length kl, vs, G), trivial, rfl, hw'.res⟩
  · have hok2 := okRound_of (by omega) hin
    have hlen := encL_len r
    have hlen2 := encBody_len hok2
    have hlen3 := encL_pos r
    have hsm := small_of (z := r) (by omega)
    by_cases hl25 : L.length = 25
    · rw [putL_full hf (.inl hl25)]
      first | refine e_condDF rfl (by omega) ?_ | refine e_condF rfl ?_
      refine e_skip ?_
      refine e_seq ?_
      refine e_seq ?_
      refine e_region ?_
      refine w_val (v_move rfl) rfl ?_
      refine w_val (v_nilCheck rfl) rfl ?_
      first | refine w_val (v_fieldAddrB (o := 0) Try.underlying31 rfl rfl Try.nz29 rfl) rfl ?_ | refine w_val (v_fieldAddr (o := 0) Try.underlying31 rfl rfl Try.nz29 rfl) rfl ?_
      first | refine w_val (v_loadB 0 rfl Try.underlying29 rfl rfl rfl) rfl ?_ | refine w_val (v_loadB 1 rfl Try.underlying29 rfl rfl rfl) rfl ?_ | refine w_val (v_loadB 2 rfl Try.underlying29 rfl rfl rfl) rfl ?_ | refine w_val (v_loadB 3 rfl Try.underlying29 rfl rfl rfl) rfl ?_ | refine w_val (v_loadB 4 rfl Try.underlying29 rfl rfl rfl) rfl ?_ | refine w_val (v_loadB 5 rfl Try.underlying29 rfl rfl rfl) rfl ?_ | refine w_val (v_loadB 6 rfl Try.underlying29 rfl rfl rfl) rfl ?_ | refine w_val (v_loadB 7 rfl Try.underlying29 rfl rfl rfl) rfl ?_ | refine w_val (v_loadB 8 rfl Try.underlying29 rfl rfl rfl) rfl ?_ | refine w_val (v_loadB 9 rfl Try.underlying29 rfl rfl rfl) rfl ?_ | refine w_val (v_loadB 10 rfl Try.underlying29 rfl rfl rfl) rfl ?_ | refine w_val (v_loadB 11 rfl Try.underlying29 rfl rfl rfl) rfl ?_
      refine w_val (v_lenS Try.underlying29 rfl) rfl ?_
      refine w_val (v_is (v' := .bool true) (v_geq rfl rfl) (by rw [decide_eq_true (by omega)])) rfl ?_
      refine w_val (v_move rfl) rfl ?_
      refine w_skip rfl rfl rfl rfl ?_
      refine w_skip rfl rfl rfl rfl ?_
      refine w_skip rfl rfl rfl rfl ?_
      refine w_skip rfl rfl rfl rfl ?_
      refine w_skip rfl rfl rfl rfl ?_
      refine w_skip rfl rfl rfl rfl ?_
      refine w_skip rfl rfl rfl rfl ?_
      refine w_skip rfl rfl rfl rfl ?_
      refine w_skip rfl rfl rfl rfl ?_
      refine w_skip rfl rfl rfl rfl ?_
      refine w_skip rfl rfl rfl rfl ?_
      refine w_skip rfl rfl rfl rfl ?_
      refine w_skip rfl rfl rfl rfl ?_
      first | refine w_val (v_pickT rfl rfl) rfl ?_ | refine w_val (v_pickF rfl rfl) rfl ?_
      refine w_nil ?_
      first | refine e_condDT rfl (by omega) ?_ | refine e_condT rfl ?_
      refine e_seq ?_
      refine e_region ?_
      refine w_val (v_assign rfl) rfl ?_
      refine w_val (v_assign rfl) rfl ?_
      refine w_nil ?_
      refine e_retQ (q_ret2 rfl (.tmp rfl) (.tmp rfl) ?_)
      exact fun w' hw' => ⟨(.slice Al L.length kl, vs, G), trivial, rfl, hw'.res⟩
    · have hcB := fun (w1 : World) (hw : ∀ c ∈ scH s (.slice Al L.length kl) L k vs G, c.holds w1) => scBytes_spec s _ L k vs L.length w1 (ScV.of hw) (Nat.le_refl _) hok
      rw [List.take_length] at hcB
      by_cases hbig : 4000 < (bytesOf L).length + (encL r).length
      · rw [putL_full hf (.inr hbig)]
        first | refine e_condDF rfl (by omega) ?_ | refine e_condF rfl ?_
        refine e_skip ?_
        refine e_seq ?_
        refine e_seq ?_
        refine e_region ?_
        refine w_val (v_move rfl) rfl ?_
        refine w_val (v_nilCheck rfl) rfl ?_
        first | refine w_val (v_fieldAddrB (o := 0) Try.underlying31 rfl rfl Try.nz29 rfl) rfl ?_ | refine w_val (v_fieldAddr (o := 0) Try.underlying31 rfl rfl Try.nz29 rfl) rfl ?_
        first | refine w_val (v_loadB 0 rfl Try.underlying29 rfl rfl rfl) rfl ?_ | refine w_val (v_loadB 1 rfl Try.underlying29 rfl rfl rfl) rfl ?_ | refine w_val (v_loadB 2 rfl Try.underlying29 rfl rfl rfl) rfl ?_ | refine w_val (v_loadB 3 rfl Try.underlying29 rfl rfl rfl) rfl ?_ | refine w_val (v_loadB 4 rfl Try.underlying29 rfl rfl rfl) rfl ?_ | refine w_val (v_loadB 5 rfl Try.underlying29 rfl rfl rfl) rfl ?_ | refine w_val (v_loadB 6 rfl Try.underlying29 rfl rfl rfl) rfl ?_ | refine w_val (v_loadB 7 rfl Try.underlying29 rfl rfl rfl) rfl ?_ | refine w_val (v_loadB 8 rfl Try.underlying29 rfl rfl rfl) rfl ?_ | refine w_val (v_loadB 9 rfl Try.underlying29 rfl rfl rfl) rfl ?_ | refine w_val (v_loadB 10 rfl Try.underlying29 rfl rfl rfl) rfl ?_ | refine w_val (v_loadB 11 rfl Try.underlying29 rfl rfl rfl) rfl ?_
        refine w_val (v_lenS Try.underlying29 rfl) rfl ?_
        refine w_val (v_is (v' := .bool false) (v_geq rfl rfl) (by rw [decide_eq_false (by omega)])) rfl ?_
        refine w_val (v_move rfl) rfl ?_
        refine w_want rfl rfl ?_
        refine w_val (v_move rfl) rfl ?_
        refine w_want rfl rfl ?_
        refine w_val (v_move rfl) rfl ?_
        refine w_want rfl rfl ?_
        refine w_val (v_nilCheck rfl) rfl ?_
        refine w_want rfl rfl ?_
        first | refine w_val (v_fieldAddrB (o := 0) Try.underlying31 rfl rfl Try.nz29 rfl) rfl ?_ | refine w_val (v_fieldAddr (o := 0) Try.underlying31 rfl rfl Try.nz29 rfl) rfl ?_
        refine w_want rfl rfl ?_
        first | refine w_val (v_loadB 0 rfl Try.underlying29 rfl rfl rfl) rfl ?_ | refine w_val (v_loadB 1 rfl Try.underlying29 rfl rfl rfl) rfl ?_ | refine w_val (v_loadB 2 rfl Try.underlying29 rfl rfl rfl) rfl ?_ | refine w_val (v_loadB 3 rfl Try.underlying29 rfl rfl rfl) rfl ?_ | refine w_val (v_loadB 4 rfl Try.underlying29 rfl rfl rfl) rfl ?_ | refine w_val (v_loadB 5 rfl Try.underlying29 rfl rfl rfl) rfl ?_ | refine w_val (v_loadB 6 rfl Try.underlying29 rfl rfl rfl) rfl ?_ | refine w_val (v_loadB 7 rfl Try.underlying29 rfl rfl rfl) rfl ?_ | refine w_val (v_loadB 8 rfl Try.underlying29 rfl rfl rfl) rfl ?_ | refine w_val (v_loadB 9 rfl Try.underlying29 rfl rfl rfl) rfl ?_ | refine w_val (v_loadB 10 rfl Try.underlying29 rfl rfl rfl) rfl ?_ | refine w_val (v_loadB 11 rfl Try.underlying29 rfl rfl rfl) rfl ?_
        refine w_want rfl rfl ?_
        refine w_val (v_lenS Try.underlying29 rfl) rfl ?_
        refine w_want rfl rfl ?_
        refine w_op rfl ?_
        refine x_call (dst := some 25) (mc := []) (σ := (Option Addr × Nat)) (fun _ => True) (fun sl => .slice sl.1 (bytesOf L).length sl.2) (fun sl => [Own (.slice sl.1 (bytesOf L).length sl.2) 5 1 (bytesOf L).length (byteCells (bytesOf L))]) rfl rfl rfl Try.call24 (fun w hw => own_shape (hcB w (fun c hc => hw.hold c hc))) rfl (fun sl1 _ => ?_)
        refine w_want rfl rfl ?_
        refine w_val (v_lenS Try.underlying23 rfl) rfl ?_
        refine w_want rfl rfl ?_
        refine w_val (v_move rfl) rfl ?_
        refine w_want rfl rfl ?_
        refine w_op rfl ?_
        refine x_call (dst := some 28) (mc := []) (σ := (Option Addr × Nat)) (fun _ => True) (fun sl => .slice sl.1 (encL r).length sl.2) (fun sl => [Own (.slice sl.1 (encL r).length sl.2) 5 1 (encL r).length (byteCells (encL r))]) rfl rfl rfl Try.call77 (fun w hw => own_shape (bytesOf_spec _ r w (hr.mono hw.off) hok2 hin)) rfl (fun sl2 _ => ?_)
        refine w_want rfl rfl ?_
        refine w_val (v_lenS Try.underlying23 rfl) rfl ?_
        refine w_want rfl rfl ?_
        first | refine w_val (v_add rfl rfl (by omega)) rfl ?_ | refine w_val (v_addw rfl rfl) rfl ?_
        refine w_want rfl rfl ?_
        refine w_val (v_is (v' := .bool true) (v_gtr rfl rfl) (by rw [decide_eq_true (by omega)])) rfl ?_
        first | refine w_val (v_pickT rfl rfl) rfl ?_ | refine w_val (v_pickF rfl rfl) rfl ?_
        refine w_nil ?_
        first | refine e_condDT rfl (by omega) ?_ | refine e_condT rfl ?_
        refine e_seq ?_
        refine e_region ?_
        refine w_val (v_assign rfl) rfl ?_
        refine w_val (v_assign rfl) rfl ?_
        refine w_nil ?_
        refine e_retQ (q_ret2 rfl (.tmp rfl) (.tmp rfl) ?_)
        exact fun w' hw' => ⟨(.slice Al L.length kl, vs, G), trivial, rfl, (hw'.sub (.cons _ (.cons _ (List.Sublist.refl _)))).res⟩
      · rw [putL_ok hf (by omega)]
        have e4 : (L ++ [r]).length = L.length + 1 := by simp
        first | refine e_condDF rfl (by omega) ?_ | refine e_condF rfl ?_
        refine e_skip ?_
        refine e_seq ?_
        refine e_seq ?_
        refine e_region ?_
        refine w_val (v_move rfl) rfl ?_
        refine w_val (v_nilCheck rfl) rfl ?_
        first | refine w_val (v_fieldAddrB (o := 0) Try.underlying31 rfl rfl Try.nz29 rfl) rfl ?_ | refine w_val (v_fieldAddr (o := 0) Try.underlying31 rfl rfl Try.nz29 rfl) rfl ?_
        first | refine w_val (v_loadB 0 rfl Try.underlying29 rfl rfl rfl) rfl ?_ | refine w_val (v_loadB 1 rfl Try.underlying29 rfl rfl rfl) rfl ?_ | refine w_val (v_loadB 2 rfl Try.underlying29 rfl rfl rfl) rfl ?_ | refine w_val (v_loadB 3 rfl Try.underlying29 rfl rfl rfl) rfl ?_ | refine w_val (v_loadB 4 rfl Try.underlying29 rfl rfl rfl) rfl ?_ | refine w_val (v_loadB 5 rfl Try.underlying29 rfl rfl rfl) rfl ?_ | refine w_val (v_loadB 6 rfl Try.underlying29 rfl rfl rfl) rfl ?_ | refine w_val (v_loadB 7 rfl Try.underlying29 rfl rfl rfl) rfl ?_ | refine w_val (v_loadB 8 rfl Try.underlying29 rfl rfl rfl) rfl ?_ | refine w_val (v_loadB 9 rfl Try.underlying29 rfl rfl rfl) rfl ?_ | refine w_val (v_loadB 10 rfl Try.underlying29 rfl rfl rfl) rfl ?_ | refine w_val (v_loadB 11 rfl Try.underlying29 rfl rfl rfl) rfl ?_
        refine w_val (v_lenS Try.underlying29 rfl) rfl ?_
        refine w_val (v_is (v' := .bool false) (v_geq rfl rfl) (by rw [decide_eq_false (by omega)])) rfl ?_
        refine w_val (v_move rfl) rfl ?_
        refine w_want rfl rfl ?_
        refine w_val (v_move rfl) rfl ?_
        refine w_want rfl rfl ?_
        refine w_val (v_move rfl) rfl ?_
        refine w_want rfl rfl ?_
        refine w_val (v_nilCheck rfl) rfl ?_
        refine w_want rfl rfl ?_
        first | refine w_val (v_fieldAddrB (o := 0) Try.underlying31 rfl rfl Try.nz29 rfl) rfl ?_ | refine w_val (v_fieldAddr (o := 0) Try.underlying31 rfl rfl Try.nz29 rfl) rfl ?_
        refine w_want rfl rfl ?_
        first | refine w_val (v_loadB 0 rfl Try.underlying29 rfl rfl rfl) rfl ?_ | refine w_val (v_loadB 1 rfl Try.underlying29 rfl rfl rfl) rfl ?_ | refine w_val (v_loadB 2 rfl Try.underlying29 rfl rfl rfl) rfl ?_ | refine w_val (v_loadB 3 rfl Try.underlying29 rfl rfl rfl) rfl ?_ | refine w_val (v_loadB 4 rfl Try.underlying29 rfl rfl rfl) rfl ?_ | refine w_val (v_loadB 5 rfl Try.underlying29 rfl rfl rfl) rfl ?_ | refine w_val (v_loadB 6 rfl Try.underlying29 rfl rfl rfl) rfl ?_ | refine w_val (v_loadB 7 rfl Try.underlying29 rfl rfl rfl) rfl ?_ | refine w_val (v_loadB 8 rfl Try.underlying29 rfl rfl rfl) rfl ?_ | refine w_val (v_loadB 9 rfl Try.underlying29 rfl rfl rfl) rfl ?_ | refine w_val (v_loadB 10 rfl Try.underlying29 rfl rfl rfl) rfl ?_ | refine w_val (v_loadB 11 rfl Try.underlying29 rfl rfl rfl) rfl ?_
        refine w_want rfl rfl ?_
        refine w_val (v_lenS Try.underlying29 rfl) rfl ?_
        refine w_want rfl rfl ?_
        refine w_op rfl ?_
        refine x_call (dst := some 25) (mc := []) (σ := (Option Addr × Nat)) (fun _ => True) (fun sl => .slice sl.1 (bytesOf L).length sl.2) (fun sl => [Own (.slice sl.1 (bytesOf L).length sl.2) 5 1 (bytesOf L).length (byteCells (bytesOf L))]) rfl rfl rfl Try.call24 (fun w hw => own_shape (hcB w (fun c hc => hw.hold c hc))) rfl (fun sl1 _ => ?_)
        refine w_want rfl rfl ?_
        refine w_val (v_lenS Try.underlying23 rfl) rfl ?_
        refine w_want rfl rfl ?_
        refine w_val (v_move rfl) rfl ?_
        refine w_want rfl rfl ?_
        refine w_op rfl ?_
        refine x_call (dst := some 28) (mc := []) (σ := (Option Addr × Nat)) (fun _ => True) (fun sl => .slice sl.1 (encL r).length sl.2) (fun sl => [Own (.slice sl.1 (encL r).length sl.2) 5 1 (encL r).length (byteCells (encL r))]) rfl rfl rfl Try.call77 (fun w hw => own_shape (bytesOf_spec _ r w (hr.mono hw.off) hok2 hin)) rfl (fun sl2 _ => ?_)
        refine w_want rfl rfl ?_
        refine w_val (v_lenS Try.underlying23 rfl) rfl ?_
        refine w_want rfl rfl ?_
        first | refine w_val (v_add rfl rfl (by omega)) rfl ?_ | refine w_val (v_addw rfl rfl) rfl ?_
        refine w_want rfl rfl ?_
        refine w_val (v_is (v' := .bool false) (v_gtr rfl rfl) (by rw [decide_eq_false (by omega)])) rfl ?_
        first | refine w_val (v_pickT rfl rfl) rfl ?_ | refine w_val (v_pickF rfl rfl) rfl ?_
        refine w_nil ?_
        first | refine e_condDF rfl (by omega) ?_ | refine e_condF rfl ?_
        refine e_skip ?_
        refine e_seq ?_
        refine g_sub (m' := scH s (.slice Al L.length kl) L k vs G) (.cons _ (.cons _ (List.Sublist.refl _))) ?_
        refine e_cutH (σ := Option Addr × Nat × List Value × (Nat → Prop)) [0] (.cons rfl .nil) (fun _ => []) (fun x => [scB s (.slice x.1 (L.length + 1) x.2.1) k, Rw (.slice x.1 (L.length + 1) x.2.1) 34 1 (L.length + 1) x.2.2.1, Keep x.2.2.2 (Rounds x.2.2.1 (L ++ [r]))]) (fun _ => True) ?_ ?_
        · refine e_draw ([]) Try.mixed ?_
          refine a_take 0 pan_cx (by kernel_rfl) (fun _ hw => hw.sub (by repeat (first | exact List.Sublist.slnil | exact List.Sublist.refl _ | apply List.Sublist.cons_cons | apply List.Sublist.cons))) rfl (by kernel_rfl) (by kernel_rfl) (v_move rfl) rfl ?_
          refine a_take 1 pan_cx (by kernel_rfl) (fun _ hw => hw.sub (by repeat (first | exact List.Sublist.slnil | exact List.Sublist.refl _ | apply List.Sublist.cons_cons | apply List.Sublist.cons))) rfl (by kernel_rfl) (by kernel_rfl) (v_move rfl) rfl ?_
          refine a_take 2 pan_cx (by kernel_rfl) (fun _ hw => hw.sub (by repeat (first | exact List.Sublist.slnil | exact List.Sublist.refl _ | apply List.Sublist.cons_cons | apply List.Sublist.cons))) rfl (by kernel_rfl) (by kernel_rfl) (v_nilCheck rfl) rfl ?_
          first | refine a_take 3 pan_cx (by kernel_rfl) (fun _ hw => hw.sub (by repeat (first | exact List.Sublist.slnil | exact List.Sublist.refl _ | apply List.Sublist.cons_cons | apply List.Sublist.cons))) rfl (by kernel_rfl) (by kernel_rfl) (v_fieldAddrB (o := 0) Try.underlying31 rfl rfl Try.nz29 rfl) rfl ?_ | refine a_take 3 pan_cx (by kernel_rfl) (fun _ hw => hw.sub (by repeat (first | exact List.Sublist.slnil | exact List.Sublist.refl _ | apply List.Sublist.cons_cons | apply List.Sublist.cons))) rfl (by kernel_rfl) (by kernel_rfl) (v_fieldAddr (o := 0) Try.underlying31 rfl rfl Try.nz29 rfl) rfl ?_
          refine a_take 5 pan_cx (by kernel_rfl) (fun _ hw => hw.sub (by repeat (first | exact List.Sublist.slnil | exact List.Sublist.refl _ | apply List.Sublist.cons_cons | apply List.Sublist.cons))) rfl (by kernel_rfl) (by kernel_rfl) (v_move rfl) rfl ?_
          refine a_all [4, 6] (by kernel_rfl) rfl ?_
          intro i hi
          simp only [List.mem_cons, List.not_mem_nil, or_false] at hi
          rcases hi with rfl | rfl
          · refine a_op rfl rfl ?_
            first | refine x_val (v_loadB 0 rfl Try.underlying29 rfl rfl rfl) rfl ?_ | refine x_val (v_loadB 1 rfl Try.underlying29 rfl rfl rfl) rfl ?_ | refine x_val (v_loadB 2 rfl Try.underlying29 rfl rfl rfl) rfl ?_ | refine x_val (v_loadB 3 rfl Try.underlying29 rfl rfl rfl) rfl ?_ | refine x_val (v_loadB 4 rfl Try.underlying29 rfl rfl rfl) rfl ?_ | refine x_val (v_loadB 5 rfl Try.underlying29 rfl rfl rfl) rfl ?_ | refine x_val (v_loadB 6 rfl Try.underlying29 rfl rfl rfl) rfl ?_ | refine x_val (v_loadB 7 rfl Try.underlying29 rfl rfl rfl) rfl ?_ | refine x_val (v_loadB 8 rfl Try.underlying29 rfl rfl rfl) rfl ?_ | refine x_val (v_loadB 9 rfl Try.underlying29 rfl rfl rfl) rfl ?_ | refine x_val (v_loadB 10 rfl Try.underlying29 rfl rfl rfl) rfl ?_ | refine x_val (v_loadB 11 rfl Try.underlying29 rfl rfl rfl) rfl ?_
            refine a_and (fun _ hw => hw.sub (by repeat (first | exact List.Sublist.slnil | exact List.Sublist.refl _ | apply List.Sublist.cons_cons | apply List.Sublist.cons))) ?_
            refine a_one 6 (by kernel_rfl) rfl rfl ?_
            refine x_call (dst := some 39) (mc := []) (σ := Option Addr × Nat × (Nat → Prop)) (fun _ => True) (fun s => .slice s.1 r.length s.2.1) (fun s => [Keep s.2.2 (fun c => IsRound c (.slice s.1 r.length s.2.1) r)]) rfl rfl rfl Try.call35 (fun w hw => refOwn_spec' _ r w (hr.mono hw.off) (by omega) (fun d hd => by have := hsm.2 d hd; omega)) rfl (fun so _ => ?_)
            refine a_and (fun _ hw => hw.sub (by repeat (first | exact List.Sublist.slnil | exact List.Sublist.refl _ | apply List.Sublist.cons_cons | apply List.Sublist.cons))) ?_
            refine a_one 7 (by kernel_rfl) rfl rfl ?_
            refine x_buildSlice _ ([.slice so.1 r.length so.2.1]) rfl (run_buildSlice Try.underlying29 Try.hi34 Try.cz34 Try.zeroValue34 rfl (by kernel_rfl)) rfl (fun b40 => ?_)
            refine a_and (fun _ hw => hw.sub (by repeat (first | exact List.Sublist.slnil | exact List.Sublist.refl _ | apply List.Sublist.cons_cons | apply List.Sublist.cons))) ?_
            refine a_one 8 (by kernel_rfl) rfl rfl ?_
            refine x_appendRS (z := .slice none 0 0) (n := L.length) (xs := vs) (size := 1) (bytes := 24) (k := 1) (news := [.slice so.1 r.length so.2.1]) 3 rfl rfl rfl Try.underlying29 (by kernel_rfl) rfl (by decide) (by omega) (fun w hw => blk_rds (hw.hold _ (List.mem_cons_self ..)) rfl) (by intro u hu; simp only [List.mem_singleton] at hu; subst hu; rfl) (by omega) (by simp only [maxLen]; omega) rfl (fun Al2 kl2 hkl2 => ?_)
            refine a_and (fun _ hw => hw.sub (by repeat (first | exact List.Sublist.slnil | exact List.Sublist.refl _ | apply List.Sublist.cons_cons | apply List.Sublist.cons))) ?_
            refine a_take 9 pan_cx (by kernel_rfl) (fun _ hw => hw.sub (by repeat (first | exact List.Sublist.slnil | exact List.Sublist.refl _ | apply List.Sublist.cons_cons | apply List.Sublist.cons))) rfl (by kernel_rfl) (by kernel_rfl) (v_nilCheck rfl) rfl ?_
            first | refine a_take 10 pan_cx (by kernel_rfl) (fun _ hw => hw.sub (by repeat (first | exact List.Sublist.slnil | exact List.Sublist.refl _ | apply List.Sublist.cons_cons | apply List.Sublist.cons))) rfl (by kernel_rfl) (by kernel_rfl) (v_fieldAddrB (o := 0) Try.underlying31 rfl rfl Try.nz29 rfl) rfl ?_ | refine a_take 10 pan_cx (by kernel_rfl) (fun _ hw => hw.sub (by repeat (first | exact List.Sublist.slnil | exact List.Sublist.refl _ | apply List.Sublist.cons_cons | apply List.Sublist.cons))) rfl (by kernel_rfl) (by kernel_rfl) (v_fieldAddr (o := 0) Try.underlying31 rfl rfl Try.nz29 rfl) rfl ?_
            refine a_one 11 (by kernel_rfl) rfl rfl ?_
            first | refine x_store1 0 rfl rfl rfl Try.hi29 Try.cz29 rfl (by first | (simp; done) | (simp [intCells_len]; omega) | exact Nat.zero_lt_succ _) rfl ?_ | refine x_store1 1 rfl rfl rfl Try.hi29 Try.cz29 rfl (by first | (simp; done) | (simp [intCells_len]; omega) | exact Nat.zero_lt_succ _) rfl ?_ | refine x_store1 2 rfl rfl rfl Try.hi29 Try.cz29 rfl (by first | (simp; done) | (simp [intCells_len]; omega) | exact Nat.zero_lt_succ _) rfl ?_ | refine x_store1 3 rfl rfl rfl Try.hi29 Try.cz29 rfl (by first | (simp; done) | (simp [intCells_len]; omega) | exact Nat.zero_lt_succ _) rfl ?_ | refine x_store1 4 rfl rfl rfl Try.hi29 Try.cz29 rfl (by first | (simp; done) | (simp [intCells_len]; omega) | exact Nat.zero_lt_succ _) rfl ?_ | refine x_store1 5 rfl rfl rfl Try.hi29 Try.cz29 rfl (by first | (simp; done) | (simp [intCells_len]; omega) | exact Nat.zero_lt_succ _) rfl ?_ | refine x_store1 6 rfl rfl rfl Try.hi29 Try.cz29 rfl (by first | (simp; done) | (simp [intCells_len]; omega) | exact Nat.zero_lt_succ _) rfl ?_ | refine x_store1 7 rfl rfl rfl Try.hi29 Try.cz29 rfl (by first | (simp; done) | (simp [intCells_len]; omega) | exact Nat.zero_lt_succ _) rfl ?_ | refine x_store1 8 rfl rfl rfl Try.hi29 Try.cz29 rfl (by first | (simp; done) | (simp [intCells_len]; omega) | exact Nat.zero_lt_succ _) rfl ?_ | refine x_store1 9 rfl rfl rfl Try.hi29 Try.cz29 rfl (by first | (simp; done) | (simp [intCells_len]; omega) | exact Nat.zero_lt_succ _) rfl ?_ | refine x_store1 10 rfl rfl rfl Try.hi29 Try.cz29 rfl (by first | (simp; done) | (simp [intCells_len]; omega) | exact Nat.zero_lt_succ _) rfl ?_ | refine x_store1 11 rfl rfl rfl Try.hi29 Try.cz29 rfl (by first | (simp; done) | (simp [intCells_len]; omega) | exact Nat.zero_lt_succ _) rfl ?_
            refine a_and (fun _ hw => hw.sub (by repeat (first | exact List.Sublist.slnil | exact List.Sublist.refl _ | apply List.Sublist.cons_cons | apply List.Sublist.cons))) ?_
            refine a_done (by kernel_rfl) ?_
            refine e_cutEnd (Al2, kl2, vs ++ [.slice so.1 r.length so.2.1], feet [Keep so.2.2 (fun c => IsRound c (.slice so.1 r.length so.2.1) r), Keep G (Rounds vs L)]) trivial (by repeat (first | exact Sub.nil _ | refine Sub.cons rfl ?_)) (fun _ hw => ?_)
            simp only [List.cons_append, List.nil_append, List.set_cons_zero, List.set_cons_succ] at hw
            have h4 : St _ _ [Keep so.2.2 (fun c => IsRound c (.slice so.1 r.length so.2.1) r), scB s (.slice Al2 (L.length + 1) kl2) k, Rw (.slice Al2 (L.length + 1) kl2) 34 1 (L.length + 1) (vs ++ [Value.slice so.1 r.length so.2.1]), Keep G (Rounds vs L)] _ := hw.sub (.cons _ (List.Sublist.refl _))
            have h5 := h4.perm (m' := [Keep so.2.2 (fun c => IsRound c (.slice so.1 r.length so.2.1) r), Keep G (Rounds vs L), scB s (.slice Al2 (L.length + 1) kl2) k, Rw (.slice Al2 (L.length + 1) kl2) 34 1 (L.length + 1) (vs ++ [Value.slice so.1 r.length so.2.1])]) (.cons _ (List.perm_append_comm (l₁ := [_, _]) (l₂ := [_])))
            exact h5.roundsIn.perm (List.perm_append_comm (l₁ := [_]) (l₂ := [_, _]))
          · refine a_op rfl rfl ?_
            refine x_call (dst := some 39) (mc := []) (σ := Option Addr × Nat × (Nat → Prop)) (fun _ => True) (fun s => .slice s.1 r.length s.2.1) (fun s => [Keep s.2.2 (fun c => IsRound c (.slice s.1 r.length s.2.1) r)]) rfl rfl rfl Try.call35 (fun w hw => refOwn_spec' _ r w (hr.mono hw.off) (by omega) (fun d hd => by have := hsm.2 d hd; omega)) rfl (fun so _ => ?_)
            refine a_and (fun _ hw => hw.sub (by repeat (first | exact List.Sublist.slnil | exact List.Sublist.refl _ | apply List.Sublist.cons_cons | apply List.Sublist.cons))) ?_
            refine a_all [4, 7] (by kernel_rfl) rfl ?_
            intro i hi
            simp only [List.mem_cons, List.not_mem_nil, or_false] at hi
            rcases hi with rfl | rfl
            · refine a_op rfl rfl ?_
              first | refine x_val (v_loadB 0 rfl Try.underlying29 rfl rfl rfl) rfl ?_ | refine x_val (v_loadB 1 rfl Try.underlying29 rfl rfl rfl) rfl ?_ | refine x_val (v_loadB 2 rfl Try.underlying29 rfl rfl rfl) rfl ?_ | refine x_val (v_loadB 3 rfl Try.underlying29 rfl rfl rfl) rfl ?_ | refine x_val (v_loadB 4 rfl Try.underlying29 rfl rfl rfl) rfl ?_ | refine x_val (v_loadB 5 rfl Try.underlying29 rfl rfl rfl) rfl ?_ | refine x_val (v_loadB 6 rfl Try.underlying29 rfl rfl rfl) rfl ?_ | refine x_val (v_loadB 7 rfl Try.underlying29 rfl rfl rfl) rfl ?_ | refine x_val (v_loadB 8 rfl Try.underlying29 rfl rfl rfl) rfl ?_ | refine x_val (v_loadB 9 rfl Try.underlying29 rfl rfl rfl) rfl ?_ | refine x_val (v_loadB 10 rfl Try.underlying29 rfl rfl rfl) rfl ?_ | refine x_val (v_loadB 11 rfl Try.underlying29 rfl rfl rfl) rfl ?_
              refine a_and (fun _ hw => hw.sub (by repeat (first | exact List.Sublist.slnil | exact List.Sublist.refl _ | apply List.Sublist.cons_cons | apply List.Sublist.cons))) ?_
              refine a_one 7 (by kernel_rfl) rfl rfl ?_
              refine x_buildSlice _ ([.slice so.1 r.length so.2.1]) rfl (run_buildSlice Try.underlying29 Try.hi34 Try.cz34 Try.zeroValue34 rfl (by kernel_rfl)) rfl (fun b40 => ?_)
              refine a_and (fun _ hw => hw.sub (by repeat (first | exact List.Sublist.slnil | exact List.Sublist.refl _ | apply List.Sublist.cons_cons | apply List.Sublist.cons))) ?_
              refine a_one 8 (by kernel_rfl) rfl rfl ?_
              refine x_appendRS (z := .slice none 0 0) (n := L.length) (xs := vs) (size := 1) (bytes := 24) (k := 1) (news := [.slice so.1 r.length so.2.1]) 3 rfl rfl rfl Try.underlying29 (by kernel_rfl) rfl (by decide) (by omega) (fun w hw => blk_rds (hw.hold _ (List.mem_cons_self ..)) rfl) (by intro u hu; simp only [List.mem_singleton] at hu; subst hu; rfl) (by omega) (by simp only [maxLen]; omega) rfl (fun Al2 kl2 hkl2 => ?_)
              refine a_and (fun _ hw => hw.sub (by repeat (first | exact List.Sublist.slnil | exact List.Sublist.refl _ | apply List.Sublist.cons_cons | apply List.Sublist.cons))) ?_
              refine a_take 9 pan_cx (by kernel_rfl) (fun _ hw => hw.sub (by repeat (first | exact List.Sublist.slnil | exact List.Sublist.refl _ | apply List.Sublist.cons_cons | apply List.Sublist.cons))) rfl (by kernel_rfl) (by kernel_rfl) (v_nilCheck rfl) rfl ?_
              first | refine a_take 10 pan_cx (by kernel_rfl) (fun _ hw => hw.sub (by repeat (first | exact List.Sublist.slnil | exact List.Sublist.refl _ | apply List.Sublist.cons_cons | apply List.Sublist.cons))) rfl (by kernel_rfl) (by kernel_rfl) (v_fieldAddrB (o := 0) Try.underlying31 rfl rfl Try.nz29 rfl) rfl ?_ | refine a_take 10 pan_cx (by kernel_rfl) (fun _ hw => hw.sub (by repeat (first | exact List.Sublist.slnil | exact List.Sublist.refl _ | apply List.Sublist.cons_cons | apply List.Sublist.cons))) rfl (by kernel_rfl) (by kernel_rfl) (v_fieldAddr (o := 0) Try.underlying31 rfl rfl Try.nz29 rfl) rfl ?_
              refine a_one 11 (by kernel_rfl) rfl rfl ?_
              first | refine x_store1 0 rfl rfl rfl Try.hi29 Try.cz29 rfl (by first | (simp; done) | (simp [intCells_len]; omega) | exact Nat.zero_lt_succ _) rfl ?_ | refine x_store1 1 rfl rfl rfl Try.hi29 Try.cz29 rfl (by first | (simp; done) | (simp [intCells_len]; omega) | exact Nat.zero_lt_succ _) rfl ?_ | refine x_store1 2 rfl rfl rfl Try.hi29 Try.cz29 rfl (by first | (simp; done) | (simp [intCells_len]; omega) | exact Nat.zero_lt_succ _) rfl ?_ | refine x_store1 3 rfl rfl rfl Try.hi29 Try.cz29 rfl (by first | (simp; done) | (simp [intCells_len]; omega) | exact Nat.zero_lt_succ _) rfl ?_ | refine x_store1 4 rfl rfl rfl Try.hi29 Try.cz29 rfl (by first | (simp; done) | (simp [intCells_len]; omega) | exact Nat.zero_lt_succ _) rfl ?_ | refine x_store1 5 rfl rfl rfl Try.hi29 Try.cz29 rfl (by first | (simp; done) | (simp [intCells_len]; omega) | exact Nat.zero_lt_succ _) rfl ?_ | refine x_store1 6 rfl rfl rfl Try.hi29 Try.cz29 rfl (by first | (simp; done) | (simp [intCells_len]; omega) | exact Nat.zero_lt_succ _) rfl ?_ | refine x_store1 7 rfl rfl rfl Try.hi29 Try.cz29 rfl (by first | (simp; done) | (simp [intCells_len]; omega) | exact Nat.zero_lt_succ _) rfl ?_ | refine x_store1 8 rfl rfl rfl Try.hi29 Try.cz29 rfl (by first | (simp; done) | (simp [intCells_len]; omega) | exact Nat.zero_lt_succ _) rfl ?_ | refine x_store1 9 rfl rfl rfl Try.hi29 Try.cz29 rfl (by first | (simp; done) | (simp [intCells_len]; omega) | exact Nat.zero_lt_succ _) rfl ?_ | refine x_store1 10 rfl rfl rfl Try.hi29 Try.cz29 rfl (by first | (simp; done) | (simp [intCells_len]; omega) | exact Nat.zero_lt_succ _) rfl ?_ | refine x_store1 11 rfl rfl rfl Try.hi29 Try.cz29 rfl (by first | (simp; done) | (simp [intCells_len]; omega) | exact Nat.zero_lt_succ _) rfl ?_
              refine a_and (fun _ hw => hw.sub (by repeat (first | exact List.Sublist.slnil | exact List.Sublist.refl _ | apply List.Sublist.cons_cons | apply List.Sublist.cons))) ?_
              refine a_done (by kernel_rfl) ?_
              refine e_cutEnd (Al2, kl2, vs ++ [.slice so.1 r.length so.2.1], feet [Keep so.2.2 (fun c => IsRound c (.slice so.1 r.length so.2.1) r), Keep G (Rounds vs L)]) trivial (by repeat (first | exact Sub.nil _ | refine Sub.cons rfl ?_)) (fun _ hw => ?_)
              simp only [List.cons_append, List.nil_append, List.set_cons_zero, List.set_cons_succ] at hw
              have h4 : St _ _ [Keep so.2.2 (fun c => IsRound c (.slice so.1 r.length so.2.1) r), scB s (.slice Al2 (L.length + 1) kl2) k, Rw (.slice Al2 (L.length + 1) kl2) 34 1 (L.length + 1) (vs ++ [Value.slice so.1 r.length so.2.1]), Keep G (Rounds vs L)] _ := hw.sub (.cons _ (List.Sublist.refl _))
              have h5 := h4.perm (m' := [Keep so.2.2 (fun c => IsRound c (.slice so.1 r.length so.2.1) r), Keep G (Rounds vs L), scB s (.slice Al2 (L.length + 1) kl2) k, Rw (.slice Al2 (L.length + 1) kl2) 34 1 (L.length + 1) (vs ++ [Value.slice so.1 r.length so.2.1])]) (.cons _ (List.perm_append_comm (l₁ := [_, _]) (l₂ := [_])))
              exact h5.roundsIn.perm (List.perm_append_comm (l₁ := [_]) (l₂ := [_, _]))
            · refine a_op rfl rfl ?_
              refine x_buildSlice _ ([.slice so.1 r.length so.2.1]) rfl (run_buildSlice Try.underlying29 Try.hi34 Try.cz34 Try.zeroValue34 rfl (by kernel_rfl)) rfl (fun b40 => ?_)
              refine a_and (fun _ hw => hw.sub (by repeat (first | exact List.Sublist.slnil | exact List.Sublist.refl _ | apply List.Sublist.cons_cons | apply List.Sublist.cons))) ?_
              refine a_one 4 (by kernel_rfl) rfl rfl ?_
              first | refine x_val (v_loadB 0 rfl Try.underlying29 rfl rfl rfl) rfl ?_ | refine x_val (v_loadB 1 rfl Try.underlying29 rfl rfl rfl) rfl ?_ | refine x_val (v_loadB 2 rfl Try.underlying29 rfl rfl rfl) rfl ?_ | refine x_val (v_loadB 3 rfl Try.underlying29 rfl rfl rfl) rfl ?_ | refine x_val (v_loadB 4 rfl Try.underlying29 rfl rfl rfl) rfl ?_ | refine x_val (v_loadB 5 rfl Try.underlying29 rfl rfl rfl) rfl ?_ | refine x_val (v_loadB 6 rfl Try.underlying29 rfl rfl rfl) rfl ?_ | refine x_val (v_loadB 7 rfl Try.underlying29 rfl rfl rfl) rfl ?_ | refine x_val (v_loadB 8 rfl Try.underlying29 rfl rfl rfl) rfl ?_ | refine x_val (v_loadB 9 rfl Try.underlying29 rfl rfl rfl) rfl ?_ | refine x_val (v_loadB 10 rfl Try.underlying29 rfl rfl rfl) rfl ?_ | refine x_val (v_loadB 11 rfl Try.underlying29 rfl rfl rfl) rfl ?_
              refine a_and (fun _ hw => hw.sub (by repeat (first | exact List.Sublist.slnil | exact List.Sublist.refl _ | apply List.Sublist.cons_cons | apply List.Sublist.cons))) ?_
              refine a_one 8 (by kernel_rfl) rfl rfl ?_
              refine x_appendRS (z := .slice none 0 0) (n := L.length) (xs := vs) (size := 1) (bytes := 24) (k := 1) (news := [.slice so.1 r.length so.2.1]) 3 rfl rfl rfl Try.underlying29 (by kernel_rfl) rfl (by decide) (by omega) (fun w hw => blk_rds (hw.hold _ (List.mem_cons_self ..)) rfl) (by intro u hu; simp only [List.mem_singleton] at hu; subst hu; rfl) (by omega) (by simp only [maxLen]; omega) rfl (fun Al2 kl2 hkl2 => ?_)
              refine a_and (fun _ hw => hw.sub (by repeat (first | exact List.Sublist.slnil | exact List.Sublist.refl _ | apply List.Sublist.cons_cons | apply List.Sublist.cons))) ?_
              refine a_take 9 pan_cx (by kernel_rfl) (fun _ hw => hw.sub (by repeat (first | exact List.Sublist.slnil | exact List.Sublist.refl _ | apply List.Sublist.cons_cons | apply List.Sublist.cons))) rfl (by kernel_rfl) (by kernel_rfl) (v_nilCheck rfl) rfl ?_
              first | refine a_take 10 pan_cx (by kernel_rfl) (fun _ hw => hw.sub (by repeat (first | exact List.Sublist.slnil | exact List.Sublist.refl _ | apply List.Sublist.cons_cons | apply List.Sublist.cons))) rfl (by kernel_rfl) (by kernel_rfl) (v_fieldAddrB (o := 0) Try.underlying31 rfl rfl Try.nz29 rfl) rfl ?_ | refine a_take 10 pan_cx (by kernel_rfl) (fun _ hw => hw.sub (by repeat (first | exact List.Sublist.slnil | exact List.Sublist.refl _ | apply List.Sublist.cons_cons | apply List.Sublist.cons))) rfl (by kernel_rfl) (by kernel_rfl) (v_fieldAddr (o := 0) Try.underlying31 rfl rfl Try.nz29 rfl) rfl ?_
              refine a_one 11 (by kernel_rfl) rfl rfl ?_
              first | refine x_store1 0 rfl rfl rfl Try.hi29 Try.cz29 rfl (by first | (simp; done) | (simp [intCells_len]; omega) | exact Nat.zero_lt_succ _) rfl ?_ | refine x_store1 1 rfl rfl rfl Try.hi29 Try.cz29 rfl (by first | (simp; done) | (simp [intCells_len]; omega) | exact Nat.zero_lt_succ _) rfl ?_ | refine x_store1 2 rfl rfl rfl Try.hi29 Try.cz29 rfl (by first | (simp; done) | (simp [intCells_len]; omega) | exact Nat.zero_lt_succ _) rfl ?_ | refine x_store1 3 rfl rfl rfl Try.hi29 Try.cz29 rfl (by first | (simp; done) | (simp [intCells_len]; omega) | exact Nat.zero_lt_succ _) rfl ?_ | refine x_store1 4 rfl rfl rfl Try.hi29 Try.cz29 rfl (by first | (simp; done) | (simp [intCells_len]; omega) | exact Nat.zero_lt_succ _) rfl ?_ | refine x_store1 5 rfl rfl rfl Try.hi29 Try.cz29 rfl (by first | (simp; done) | (simp [intCells_len]; omega) | exact Nat.zero_lt_succ _) rfl ?_ | refine x_store1 6 rfl rfl rfl Try.hi29 Try.cz29 rfl (by first | (simp; done) | (simp [intCells_len]; omega) | exact Nat.zero_lt_succ _) rfl ?_ | refine x_store1 7 rfl rfl rfl Try.hi29 Try.cz29 rfl (by first | (simp; done) | (simp [intCells_len]; omega) | exact Nat.zero_lt_succ _) rfl ?_ | refine x_store1 8 rfl rfl rfl Try.hi29 Try.cz29 rfl (by first | (simp; done) | (simp [intCells_len]; omega) | exact Nat.zero_lt_succ _) rfl ?_ | refine x_store1 9 rfl rfl rfl Try.hi29 Try.cz29 rfl (by first | (simp; done) | (simp [intCells_len]; omega) | exact Nat.zero_lt_succ _) rfl ?_ | refine x_store1 10 rfl rfl rfl Try.hi29 Try.cz29 rfl (by first | (simp; done) | (simp [intCells_len]; omega) | exact Nat.zero_lt_succ _) rfl ?_ | refine x_store1 11 rfl rfl rfl Try.hi29 Try.cz29 rfl (by first | (simp; done) | (simp [intCells_len]; omega) | exact Nat.zero_lt_succ _) rfl ?_
              refine a_and (fun _ hw => hw.sub (by repeat (first | exact List.Sublist.slnil | exact List.Sublist.refl _ | apply List.Sublist.cons_cons | apply List.Sublist.cons))) ?_
              refine a_done (by kernel_rfl) ?_
              refine e_cutEnd (Al2, kl2, vs ++ [.slice so.1 r.length so.2.1], feet [Keep so.2.2 (fun c => IsRound c (.slice so.1 r.length so.2.1) r), Keep G (Rounds vs L)]) trivial (by repeat (first | exact Sub.nil _ | refine Sub.cons rfl ?_)) (fun _ hw => ?_)
              simp only [List.cons_append, List.nil_append, List.set_cons_zero, List.set_cons_succ] at hw
              have h4 : St _ _ [Keep so.2.2 (fun c => IsRound c (.slice so.1 r.length so.2.1) r), scB s (.slice Al2 (L.length + 1) kl2) k, Rw (.slice Al2 (L.length + 1) kl2) 34 1 (L.length + 1) (vs ++ [Value.slice so.1 r.length so.2.1]), Keep G (Rounds vs L)] _ := hw.sub (.cons _ (List.Sublist.refl _))
              have h5 := h4.perm (m' := [Keep so.2.2 (fun c => IsRound c (.slice so.1 r.length so.2.1) r), Keep G (Rounds vs L), scB s (.slice Al2 (L.length + 1) kl2) k, Rw (.slice Al2 (L.length + 1) kl2) 34 1 (L.length + 1) (vs ++ [Value.slice so.1 r.length so.2.1])]) (.cons _ (List.perm_append_comm (l₁ := [_, _]) (l₂ := [_])))
              exact h5.roundsIn.perm (List.perm_append_comm (l₁ := [_]) (l₂ := [_, _]))
        · rintro ⟨Al2, kl2, vs2, G2⟩ -
          dsimp only
          refine e_seq ?_
          refine e_region ?_
          refine w_val (v_move rfl) rfl ?_
          refine w_val (v_nilCheck rfl) rfl ?_
          first | refine w_val (v_fieldAddrB (o := 0) Try.underlying31 rfl rfl Try.nz29 rfl) rfl ?_ | refine w_val (v_fieldAddr (o := 0) Try.underlying31 rfl rfl Try.nz29 rfl) rfl ?_
          first | refine w_val (v_loadB 0 rfl Try.underlying29 rfl rfl rfl) rfl ?_ | refine w_val (v_loadB 1 rfl Try.underlying29 rfl rfl rfl) rfl ?_ | refine w_val (v_loadB 2 rfl Try.underlying29 rfl rfl rfl) rfl ?_ | refine w_val (v_loadB 3 rfl Try.underlying29 rfl rfl rfl) rfl ?_ | refine w_val (v_loadB 4 rfl Try.underlying29 rfl rfl rfl) rfl ?_ | refine w_val (v_loadB 5 rfl Try.underlying29 rfl rfl rfl) rfl ?_ | refine w_val (v_loadB 6 rfl Try.underlying29 rfl rfl rfl) rfl ?_ | refine w_val (v_loadB 7 rfl Try.underlying29 rfl rfl rfl) rfl ?_ | refine w_val (v_loadB 8 rfl Try.underlying29 rfl rfl rfl) rfl ?_ | refine w_val (v_loadB 9 rfl Try.underlying29 rfl rfl rfl) rfl ?_ | refine w_val (v_loadB 10 rfl Try.underlying29 rfl rfl rfl) rfl ?_ | refine w_val (v_loadB 11 rfl Try.underlying29 rfl rfl rfl) rfl ?_
          refine w_val (v_lenS Try.underlying29 rfl) rfl ?_
          refine w_val (v_is (v' := .int .i64 (L.length : Int)) (v_sub rfl rfl (by omega)) (by congr 1; omega)) rfl ?_
          refine w_val (v_assign rfl) rfl ?_
          refine w_val (v_assign rfl) rfl ?_
          refine w_nil ?_
          refine e_retQ (q_ret2 rfl (.tmp rfl) (.tmp rfl) ?_)
          refine fun w' hw' => ⟨(.slice Al2 (L.length + 1) kl2, vs2, G2), trivial, rfl, ?_⟩
          simp only [scH, e4]
          exact hw'.res
end Go.SL
end
section
open Go Go.Proofs Go.SL
set_option maxRecDepth 100000
namespace Go.SL
theorem scCrash_spec (s : Nat) (lv : Value) (L : List RoundL) (k : Nat) (vs : List Value) (G : Nat → Prop) (keep : Int) (w : World) (h : ∀ c ∈ scH s lv L k vs G, c.holds w) (hsep : (scH s lv L k vs G).Pairwise Disj) (hok : LogOk L k) :
    Calls Try.prog 72 #[.pointer (some ⟨s, 0, none⟩), .int .i64 keep] w fun e w' => ∃ lv', True ∧ e = .returned (.tuple #[]) ∧ Res w (scH s lv L k vs G) (scH s lv' (L.take (crashL L k keep)) (crashL L k keep) (vs.take (crashL L k keep)) G) w' := by
  have hB := hok.bytes
  have h25 := hok.len
  have hkL := hok.sure
  refine enter (mc := scH s lv L k vs G) (N := 51) Try.func72 rfl rfl rfl ?_ ?_ ?_
  · exact h
  · exact hsep
  refine g_shapeR2 1 rfl fun Al kl hlv hkl _ => ?_
  subst hlv
  refine e_seq ?_
  refine e_seq ?_
  refine e_region ?_
  refine w_val (v_move rfl) rfl ?_
  refine w_val (v_lss rfl rfl) rfl ?_
  refine w_nil ?_
  refine e_cutK (σ := Unit) [0] (.cons rfl .nil) (fun _ => [(1, .int .i64 (max keep 0))]) (fun _ => True) ?_ ?_
  · refine e_condD rfl (fun hneg => ?_) (fun hneg => ?_)
    · refine e_region ?_
      refine w_val (v_assign rfl) rfl ?_
      refine w_nil ?_
      exact e_cutEnd () trivial (Sub.cons (by rw [show max keep 0 = 0 from by omega]; rfl) (by repeat (first | exact Sub.nil _ | refine Sub.cons rfl ?_))) (fun _ hw => hw)
    · refine e_skip ?_
      exact e_cutEnd () trivial (Sub.cons (by rw [show max keep 0 = keep from by omega]; rfl) (by repeat (first | exact Sub.nil _ | refine Sub.cons rfl ?_))) (fun _ hw => hw)
  · rintro - -
    refine e_seq ?_
    refine e_region ?_
    refine w_val (v_move rfl) rfl ?_
    refine w_val (v_nilCheck rfl) rfl ?_
    first | refine w_val (v_fieldAddrB (o := 1) Try.underlying31 rfl rfl Try.nz3 rfl) rfl ?_ | refine w_val (v_fieldAddr (o := 1) Try.underlying31 rfl rfl Try.nz3 rfl) rfl ?_
    first | refine w_val (v_loadB 0 rfl Try.underlying3 rfl rfl rfl) rfl ?_ | refine w_val (v_loadB 1 rfl Try.underlying3 rfl rfl rfl) rfl ?_ | refine w_val (v_loadB 2 rfl Try.underlying3 rfl rfl rfl) rfl ?_ | refine w_val (v_loadB 3 rfl Try.underlying3 rfl rfl rfl) rfl ?_ | refine w_val (v_loadB 4 rfl Try.underlying3 rfl rfl rfl) rfl ?_ | refine w_val (v_loadB 5 rfl Try.underlying3 rfl rfl rfl) rfl ?_ | refine w_val (v_loadB 6 rfl Try.underlying3 rfl rfl rfl) rfl ?_ | refine w_val (v_loadB 7 rfl Try.underlying3 rfl rfl rfl) rfl ?_ | refine w_val (v_loadB 8 rfl Try.underlying3 rfl rfl rfl) rfl ?_ | refine w_val (v_loadB 9 rfl Try.underlying3 rfl rfl rfl) rfl ?_ | refine w_val (v_loadB 10 rfl Try.underlying3 rfl rfl rfl) rfl ?_ | refine w_val (v_loadB 11 rfl Try.underlying3 rfl rfl rfl) rfl ?_
    refine w_val (v_assign rfl) rfl ?_
    refine w_nil ?_
    refine e_seq ?_
    refine e_block ?_
    refine e_loopK (σ := Nat) [0, 1] (.cons rfl (.cons rfl .nil)) (fun m => [(4, .int .i64 (m : Int))]) (fun m => k ≤ m ∧ m ≤ L.length ∧ (m = k ∨ (endAt L m : Int) - endAt L k ≤ max keep 0)) (fun m => L.length - m) k ⟨Nat.le_refl _, hkL, .inl rfl⟩ (by repeat (first | exact Sub.nil _ | refine Sub.cons rfl ?_)) ?_
    rintro m ⟨hkm, hmL, hm⟩
    by_cases hlt : m < L.length
    · have hc1 := fun (w1 : World) (hw : ∀ c ∈ scH s (.slice Al L.length kl) L k vs G, c.holds w1) => own_shape (scBytes_spec s _ L k vs (m + 1) w1 (ScV.of hw) (by omega) hok)
      have hc2 := fun (w1 : World) (hw : ∀ c ∈ scH s (.slice Al L.length kl) L k vs G, c.holds w1) => own_shape (scBytes_spec s _ L k vs k w1 (ScV.of hw) hkL hok)
      have e1 : (bytesOf (L.take (m + 1))).length = endAt L (m + 1) := rfl
      have e2 : (bytesOf (L.take k)).length = endAt L k := rfl
      have he1 := endAt_le_all (L := L) (i := m + 1) (by omega)
      have he2 := endAt_le_all (L := L) (i := k) (by omega)
      rw [e1] at hc1
      rw [e2] at hc2
      refine e_seq ?_
      refine e_seq ?_
      refine e_draw (scH s (.slice Al L.length kl) L k vs G) Try.mixed ?_
      refine a_take 0 pan_cx (by kernel_rfl) (fun _ hw => hw.sub (by repeat (first | exact List.Sublist.slnil | exact List.Sublist.refl _ | apply List.Sublist.cons_cons | apply List.Sublist.cons))) rfl (by kernel_rfl) (by kernel_rfl) (v_move rfl) rfl ?_
      refine a_take 1 pan_cx (by kernel_rfl) (fun _ hw => hw.sub (by repeat (first | exact List.Sublist.slnil | exact List.Sublist.refl _ | apply List.Sublist.cons_cons | apply List.Sublist.cons))) rfl (by kernel_rfl) (by kernel_rfl) (v_move rfl) rfl ?_
      refine a_take 2 pan_cx (by kernel_rfl) (fun _ hw => hw.sub (by repeat (first | exact List.Sublist.slnil | exact List.Sublist.refl _ | apply List.Sublist.cons_cons | apply List.Sublist.cons))) rfl (by kernel_rfl) (by kernel_rfl) (v_nilCheck rfl) rfl ?_
      first | refine a_take 3 pan_cx (by kernel_rfl) (fun _ hw => hw.sub (by repeat (first | exact List.Sublist.slnil | exact List.Sublist.refl _ | apply List.Sublist.cons_cons | apply List.Sublist.cons))) rfl (by kernel_rfl) (by kernel_rfl) (v_fieldAddrB (o := 0) Try.underlying31 rfl rfl Try.nz29 rfl) rfl ?_ | refine a_take 3 pan_cx (by kernel_rfl) (fun _ hw => hw.sub (by repeat (first | exact List.Sublist.slnil | exact List.Sublist.refl _ | apply List.Sublist.cons_cons | apply List.Sublist.cons))) rfl (by kernel_rfl) (by kernel_rfl) (v_fieldAddr (o := 0) Try.underlying31 rfl rfl Try.nz29 rfl) rfl ?_
      first | refine a_take 4 pan_cx (by kernel_rfl) (fun _ hw => hw.sub (by repeat (first | exact List.Sublist.slnil | exact List.Sublist.refl _ | apply List.Sublist.cons_cons | apply List.Sublist.cons))) rfl (by kernel_rfl) (by kernel_rfl) (v_loadB 0 rfl Try.underlying29 rfl rfl rfl) rfl ?_ | refine a_take 4 pan_cx (by kernel_rfl) (fun _ hw => hw.sub (by repeat (first | exact List.Sublist.slnil | exact List.Sublist.refl _ | apply List.Sublist.cons_cons | apply List.Sublist.cons))) rfl (by kernel_rfl) (by kernel_rfl) (v_loadB 1 rfl Try.underlying29 rfl rfl rfl) rfl ?_ | refine a_take 4 pan_cx (by kernel_rfl) (fun _ hw => hw.sub (by repeat (first | exact List.Sublist.slnil | exact List.Sublist.refl _ | apply List.Sublist.cons_cons | apply List.Sublist.cons))) rfl (by kernel_rfl) (by kernel_rfl) (v_loadB 2 rfl Try.underlying29 rfl rfl rfl) rfl ?_ | refine a_take 4 pan_cx (by kernel_rfl) (fun _ hw => hw.sub (by repeat (first | exact List.Sublist.slnil | exact List.Sublist.refl _ | apply List.Sublist.cons_cons | apply List.Sublist.cons))) rfl (by kernel_rfl) (by kernel_rfl) (v_loadB 3 rfl Try.underlying29 rfl rfl rfl) rfl ?_ | refine a_take 4 pan_cx (by kernel_rfl) (fun _ hw => hw.sub (by repeat (first | exact List.Sublist.slnil | exact List.Sublist.refl _ | apply List.Sublist.cons_cons | apply List.Sublist.cons))) rfl (by kernel_rfl) (by kernel_rfl) (v_loadB 4 rfl Try.underlying29 rfl rfl rfl) rfl ?_ | refine a_take 4 pan_cx (by kernel_rfl) (fun _ hw => hw.sub (by repeat (first | exact List.Sublist.slnil | exact List.Sublist.refl _ | apply List.Sublist.cons_cons | apply List.Sublist.cons))) rfl (by kernel_rfl) (by kernel_rfl) (v_loadB 5 rfl Try.underlying29 rfl rfl rfl) rfl ?_ | refine a_take 4 pan_cx (by kernel_rfl) (fun _ hw => hw.sub (by repeat (first | exact List.Sublist.slnil | exact List.Sublist.refl _ | apply List.Sublist.cons_cons | apply List.Sublist.cons))) rfl (by kernel_rfl) (by kernel_rfl) (v_loadB 6 rfl Try.underlying29 rfl rfl rfl) rfl ?_ | refine a_take 4 pan_cx (by kernel_rfl) (fun _ hw => hw.sub (by repeat (first | exact List.Sublist.slnil | exact List.Sublist.refl _ | apply List.Sublist.cons_cons | apply List.Sublist.cons))) rfl (by kernel_rfl) (by kernel_rfl) (v_loadB 7 rfl Try.underlying29 rfl rfl rfl) rfl ?_ | refine a_take 4 pan_cx (by kernel_rfl) (fun _ hw => hw.sub (by repeat (first | exact List.Sublist.slnil | exact List.Sublist.refl _ | apply List.Sublist.cons_cons | apply List.Sublist.cons))) rfl (by kernel_rfl) (by kernel_rfl) (v_loadB 8 rfl Try.underlying29 rfl rfl rfl) rfl ?_ | refine a_take 4 pan_cx (by kernel_rfl) (fun _ hw => hw.sub (by repeat (first | exact List.Sublist.slnil | exact List.Sublist.refl _ | apply List.Sublist.cons_cons | apply List.Sublist.cons))) rfl (by kernel_rfl) (by kernel_rfl) (v_loadB 9 rfl Try.underlying29 rfl rfl rfl) rfl ?_ | refine a_take 4 pan_cx (by kernel_rfl) (fun _ hw => hw.sub (by repeat (first | exact List.Sublist.slnil | exact List.Sublist.refl _ | apply List.Sublist.cons_cons | apply List.Sublist.cons))) rfl (by kernel_rfl) (by kernel_rfl) (v_loadB 10 rfl Try.underlying29 rfl rfl rfl) rfl ?_ | refine a_take 4 pan_cx (by kernel_rfl) (fun _ hw => hw.sub (by repeat (first | exact List.Sublist.slnil | exact List.Sublist.refl _ | apply List.Sublist.cons_cons | apply List.Sublist.cons))) rfl (by kernel_rfl) (by kernel_rfl) (v_loadB 11 rfl Try.underlying29 rfl rfl rfl) rfl ?_
      refine a_take 5 pan_cx (by kernel_rfl) (fun _ hw => hw.sub (by repeat (first | exact List.Sublist.slnil | exact List.Sublist.refl _ | apply List.Sublist.cons_cons | apply List.Sublist.cons))) rfl (by kernel_rfl) (by kernel_rfl) (v_lenS Try.underlying29 rfl) rfl ?_
      refine a_take 6 pan_cx (by kernel_rfl) (fun _ hw => hw.sub (by repeat (first | exact List.Sublist.slnil | exact List.Sublist.refl _ | apply List.Sublist.cons_cons | apply List.Sublist.cons))) rfl (by kernel_rfl) (by kernel_rfl) (v_is (v' := .bool true) (v_lss rfl rfl) (by rw [decide_eq_true (by omega)])) rfl ?_
      refine a_take 7 pan_cx (by kernel_rfl) (fun _ hw => hw.sub (by repeat (first | exact List.Sublist.slnil | exact List.Sublist.refl _ | apply List.Sublist.cons_cons | apply List.Sublist.cons))) rfl (by kernel_rfl) (by kernel_rfl) (v_move rfl) rfl ?_
      refine a_want 8 pan_cx (by kernel_rfl) (fun _ hw => hw.sub (by repeat (first | exact List.Sublist.slnil | exact List.Sublist.refl _ | apply List.Sublist.cons_cons | apply List.Sublist.cons))) rfl (by kernel_rfl) (by kernel_rfl) rfl rfl (v_move rfl) rfl ?_
      refine a_want 9 pan_cx (by kernel_rfl) (fun _ hw => hw.sub (by repeat (first | exact List.Sublist.slnil | exact List.Sublist.refl _ | apply List.Sublist.cons_cons | apply List.Sublist.cons))) rfl (by kernel_rfl) (by kernel_rfl) rfl rfl (v_move rfl) rfl ?_
      first | refine a_want 10 pan_cx (by kernel_rfl) (fun _ hw => hw.sub (by repeat (first | exact List.Sublist.slnil | exact List.Sublist.refl _ | apply List.Sublist.cons_cons | apply List.Sublist.cons))) rfl (by kernel_rfl) (by kernel_rfl) rfl rfl (v_add rfl rfl (by omega)) rfl ?_ | refine a_want 10 pan_cx (by kernel_rfl) (fun _ hw => hw.sub (by repeat (first | exact List.Sublist.slnil | exact List.Sublist.refl _ | apply List.Sublist.cons_cons | apply List.Sublist.cons))) rfl (by kernel_rfl) (by kernel_rfl) rfl rfl (v_addw rfl rfl) rfl ?_
      refine a_want 13 pan_cx (by kernel_rfl) (fun _ hw => hw.sub (by repeat (first | exact List.Sublist.slnil | exact List.Sublist.refl _ | apply List.Sublist.cons_cons | apply List.Sublist.cons))) rfl (by kernel_rfl) (by kernel_rfl) rfl rfl (v_move rfl) rfl ?_
      refine a_want 14 pan_cx (by kernel_rfl) (fun _ hw => hw.sub (by repeat (first | exact List.Sublist.slnil | exact List.Sublist.refl _ | apply List.Sublist.cons_cons | apply List.Sublist.cons))) rfl (by kernel_rfl) (by kernel_rfl) rfl rfl (v_move rfl) rfl ?_
      refine a_want 15 pan_cx (by kernel_rfl) (fun _ hw => hw.sub (by repeat (first | exact List.Sublist.slnil | exact List.Sublist.refl _ | apply List.Sublist.cons_cons | apply List.Sublist.cons))) rfl (by kernel_rfl) (by kernel_rfl) rfl rfl (v_nilCheck rfl) rfl ?_
      first | refine a_want 16 pan_cx (by kernel_rfl) (fun _ hw => hw.sub (by repeat (first | exact List.Sublist.slnil | exact List.Sublist.refl _ | apply List.Sublist.cons_cons | apply List.Sublist.cons))) rfl (by kernel_rfl) (by kernel_rfl) rfl rfl (v_fieldAddrB (o := 1) Try.underlying31 rfl rfl Try.nz3 rfl) rfl ?_ | refine a_want 16 pan_cx (by kernel_rfl) (fun _ hw => hw.sub (by repeat (first | exact List.Sublist.slnil | exact List.Sublist.refl _ | apply List.Sublist.cons_cons | apply List.Sublist.cons))) rfl (by kernel_rfl) (by kernel_rfl) rfl rfl (v_fieldAddr (o := 1) Try.underlying31 rfl rfl Try.nz3 rfl) rfl ?_
      first | refine a_want 17 pan_cx (by kernel_rfl) (fun _ hw => hw.sub (by repeat (first | exact List.Sublist.slnil | exact List.Sublist.refl _ | apply List.Sublist.cons_cons | apply List.Sublist.cons))) rfl (by kernel_rfl) (by kernel_rfl) rfl rfl (v_loadB 0 rfl Try.underlying3 rfl rfl rfl) rfl ?_ | refine a_want 17 pan_cx (by kernel_rfl) (fun _ hw => hw.sub (by repeat (first | exact List.Sublist.slnil | exact List.Sublist.refl _ | apply List.Sublist.cons_cons | apply List.Sublist.cons))) rfl (by kernel_rfl) (by kernel_rfl) rfl rfl (v_loadB 1 rfl Try.underlying3 rfl rfl rfl) rfl ?_ | refine a_want 17 pan_cx (by kernel_rfl) (fun _ hw => hw.sub (by repeat (first | exact List.Sublist.slnil | exact List.Sublist.refl _ | apply List.Sublist.cons_cons | apply List.Sublist.cons))) rfl (by kernel_rfl) (by kernel_rfl) rfl rfl (v_loadB 2 rfl Try.underlying3 rfl rfl rfl) rfl ?_ | refine a_want 17 pan_cx (by kernel_rfl) (fun _ hw => hw.sub (by repeat (first | exact List.Sublist.slnil | exact List.Sublist.refl _ | apply List.Sublist.cons_cons | apply List.Sublist.cons))) rfl (by kernel_rfl) (by kernel_rfl) rfl rfl (v_loadB 3 rfl Try.underlying3 rfl rfl rfl) rfl ?_ | refine a_want 17 pan_cx (by kernel_rfl) (fun _ hw => hw.sub (by repeat (first | exact List.Sublist.slnil | exact List.Sublist.refl _ | apply List.Sublist.cons_cons | apply List.Sublist.cons))) rfl (by kernel_rfl) (by kernel_rfl) rfl rfl (v_loadB 4 rfl Try.underlying3 rfl rfl rfl) rfl ?_ | refine a_want 17 pan_cx (by kernel_rfl) (fun _ hw => hw.sub (by repeat (first | exact List.Sublist.slnil | exact List.Sublist.refl _ | apply List.Sublist.cons_cons | apply List.Sublist.cons))) rfl (by kernel_rfl) (by kernel_rfl) rfl rfl (v_loadB 5 rfl Try.underlying3 rfl rfl rfl) rfl ?_ | refine a_want 17 pan_cx (by kernel_rfl) (fun _ hw => hw.sub (by repeat (first | exact List.Sublist.slnil | exact List.Sublist.refl _ | apply List.Sublist.cons_cons | apply List.Sublist.cons))) rfl (by kernel_rfl) (by kernel_rfl) rfl rfl (v_loadB 6 rfl Try.underlying3 rfl rfl rfl) rfl ?_ | refine a_want 17 pan_cx (by kernel_rfl) (fun _ hw => hw.sub (by repeat (first | exact List.Sublist.slnil | exact List.Sublist.refl _ | apply List.Sublist.cons_cons | apply List.Sublist.cons))) rfl (by kernel_rfl) (by kernel_rfl) rfl rfl (v_loadB 7 rfl Try.underlying3 rfl rfl rfl) rfl ?_ | refine a_want 17 pan_cx (by kernel_rfl) (fun _ hw => hw.sub (by repeat (first | exact List.Sublist.slnil | exact List.Sublist.refl _ | apply List.Sublist.cons_cons | apply List.Sublist.cons))) rfl (by kernel_rfl) (by kernel_rfl) rfl rfl (v_loadB 8 rfl Try.underlying3 rfl rfl rfl) rfl ?_ | refine a_want 17 pan_cx (by kernel_rfl) (fun _ hw => hw.sub (by repeat (first | exact List.Sublist.slnil | exact List.Sublist.refl _ | apply List.Sublist.cons_cons | apply List.Sublist.cons))) rfl (by kernel_rfl) (by kernel_rfl) rfl rfl (v_loadB 9 rfl Try.underlying3 rfl rfl rfl) rfl ?_ | refine a_want 17 pan_cx (by kernel_rfl) (fun _ hw => hw.sub (by repeat (first | exact List.Sublist.slnil | exact List.Sublist.refl _ | apply List.Sublist.cons_cons | apply List.Sublist.cons))) rfl (by kernel_rfl) (by kernel_rfl) rfl rfl (v_loadB 10 rfl Try.underlying3 rfl rfl rfl) rfl ?_ | refine a_want 17 pan_cx (by kernel_rfl) (fun _ hw => hw.sub (by repeat (first | exact List.Sublist.slnil | exact List.Sublist.refl _ | apply List.Sublist.cons_cons | apply List.Sublist.cons))) rfl (by kernel_rfl) (by kernel_rfl) rfl rfl (v_loadB 11 rfl Try.underlying3 rfl rfl rfl) rfl ?_
      refine a_want 21 pan_cx (by kernel_rfl) (fun _ hw => hw.sub (by repeat (first | exact List.Sublist.slnil | exact List.Sublist.refl _ | apply List.Sublist.cons_cons | apply List.Sublist.cons))) rfl (by kernel_rfl) (by kernel_rfl) rfl rfl (v_move rfl) rfl ?_
      refine a_oneW 11 (by kernel_rfl) rfl rfl rfl ?_
      refine x_call (dst := some 22) (mc := []) (σ := (Option Addr × Nat)) (fun _ => True) (fun sl => .slice sl.1 (endAt L (m + 1)) sl.2) (fun sl => [Own (.slice sl.1 (endAt L (m + 1)) sl.2) 5 1 (endAt L (m + 1)) (byteCells (bytesOf (L.take (m + 1))))]) rfl rfl rfl Try.call24 (fun w hw => hc1 w (fun c hc => hw.hold c hc)) rfl (fun sl1 _ => ?_)
      refine a_and (fun _ hw => hw.sub (by repeat (first | exact List.Sublist.slnil | exact List.Sublist.refl _ | apply List.Sublist.cons_cons | apply List.Sublist.cons))) ?_
      refine a_want 12 pan_cx (by kernel_rfl) (fun _ hw => hw.sub (by repeat (first | exact List.Sublist.slnil | exact List.Sublist.refl _ | apply List.Sublist.cons_cons | apply List.Sublist.cons))) rfl (by kernel_rfl) (by kernel_rfl) rfl rfl (v_lenS Try.underlying23 rfl) rfl ?_
      refine a_oneW 18 (by kernel_rfl) rfl rfl rfl ?_
      refine x_call (dst := some 29) (mc := []) (σ := (Option Addr × Nat)) (fun _ => True) (fun sl => .slice sl.1 (endAt L k) sl.2) (fun sl => [Own (.slice sl.1 (endAt L k) sl.2) 5 1 (endAt L k) (byteCells (bytesOf (L.take k)))]) rfl rfl rfl Try.call24 (fun w hw => hc2 w (fun c hc => hw.hold c (List.mem_cons_of_mem _ hc))) rfl (fun sl2 _ => ?_)
      refine a_and (fun _ hw => hw.sub (by repeat (first | exact List.Sublist.slnil | exact List.Sublist.refl _ | apply List.Sublist.cons_cons | apply List.Sublist.cons))) ?_
      refine a_want 19 pan_cx (by kernel_rfl) (fun _ hw => hw.sub (by repeat (first | exact List.Sublist.slnil | exact List.Sublist.refl _ | apply List.Sublist.cons_cons | apply List.Sublist.cons))) rfl (by kernel_rfl) (by kernel_rfl) rfl rfl (v_lenS Try.underlying23 rfl) rfl ?_
      first | refine a_want 20 pan_cx (by kernel_rfl) (fun _ hw => hw.sub (by repeat (first | exact List.Sublist.slnil | exact List.Sublist.refl _ | apply List.Sublist.cons_cons | apply List.Sublist.cons))) rfl (by kernel_rfl) (by kernel_rfl) rfl rfl (v_sub rfl rfl (by omega)) rfl ?_ | refine a_want 20 pan_cx (by kernel_rfl) (fun _ hw => hw.sub (by repeat (first | exact List.Sublist.slnil | exact List.Sublist.refl _ | apply List.Sublist.cons_cons | apply List.Sublist.cons))) rfl (by kernel_rfl) (by kernel_rfl) rfl rfl (v_subw rfl rfl) rfl ?_
      refine a_want 22 pan_cx (by kernel_rfl) (fun _ hw => hw.sub (by repeat (first | exact List.Sublist.slnil | exact List.Sublist.refl _ | apply List.Sublist.cons_cons | apply List.Sublist.cons))) rfl (by kernel_rfl) (by kernel_rfl) rfl rfl (v_leq rfl rfl) rfl ?_
      first | refine a_take 23 pan_cx (by kernel_rfl) (fun _ hw => hw.sub (by repeat (first | exact List.Sublist.slnil | exact List.Sublist.refl _ | apply List.Sublist.cons_cons | apply List.Sublist.cons))) rfl (by kernel_rfl) (by kernel_rfl) (v_pickT rfl rfl) rfl ?_ | refine a_take 23 pan_cx (by kernel_rfl) (fun _ hw => hw.sub (by repeat (first | exact List.Sublist.slnil | exact List.Sublist.refl _ | apply List.Sublist.cons_cons | apply List.Sublist.cons))) rfl (by kernel_rfl) (by kernel_rfl) (v_pickF rfl rfl) rfl ?_
      refine a_done (by kernel_rfl) ?_
      refine e_condD rfl (fun hle => ?_) (fun hle => ?_)
      · refine e_skip ?_
        refine e_block ?_
        refine e_region ?_
        refine w_val (v_move rfl) rfl ?_
        first | refine w_val (v_add rfl rfl (by omega)) rfl ?_ | refine w_val (v_addw rfl rfl) rfl ?_
        refine w_val (v_assign rfl) rfl ?_
        refine w_nil ?_
        refine e_blk ?_
        exact e_round (m + 1) (⟨by omega, by omega, .inr hle⟩) (by omega) (by repeat (first | exact Sub.nil _ | refine Sub.cons rfl ?_)) (fun _ hw => hw.sub (.cons _ (.cons _ (List.Sublist.refl _))))
      · have hcr := crashL_is (keep := keep) hkm hmL hB hm (fun _ => by omega)
        rw [hcr]
        have hrow : m ≤ L.length := hmL
        refine e_exit rfl ?_
        refine e_seq ?_
        refine e_region ?_
        refine w_val (v_move rfl) rfl ?_
        refine w_val (v_move rfl) rfl ?_
        refine w_val (v_nilCheck rfl) rfl ?_
        first | refine w_val (v_fieldAddrB (o := 0) Try.underlying31 rfl rfl Try.nz29 rfl) rfl ?_ | refine w_val (v_fieldAddr (o := 0) Try.underlying31 rfl rfl Try.nz29 rfl) rfl ?_
        first | refine w_val (v_loadB 0 rfl Try.underlying29 rfl rfl rfl) rfl ?_ | refine w_val (v_loadB 1 rfl Try.underlying29 rfl rfl rfl) rfl ?_ | refine w_val (v_loadB 2 rfl Try.underlying29 rfl rfl rfl) rfl ?_ | refine w_val (v_loadB 3 rfl Try.underlying29 rfl rfl rfl) rfl ?_ | refine w_val (v_loadB 4 rfl Try.underlying29 rfl rfl rfl) rfl ?_ | refine w_val (v_loadB 5 rfl Try.underlying29 rfl rfl rfl) rfl ?_ | refine w_val (v_loadB 6 rfl Try.underlying29 rfl rfl rfl) rfl ?_ | refine w_val (v_loadB 7 rfl Try.underlying29 rfl rfl rfl) rfl ?_ | refine w_val (v_loadB 8 rfl Try.underlying29 rfl rfl rfl) rfl ?_ | refine w_val (v_loadB 9 rfl Try.underlying29 rfl rfl rfl) rfl ?_ | refine w_val (v_loadB 10 rfl Try.underlying29 rfl rfl rfl) rfl ?_ | refine w_val (v_loadB 11 rfl Try.underlying29 rfl rfl rfl) rfl ?_
        refine w_val (v_move rfl) rfl ?_
        refine w_val (v_move rfl) rfl ?_
        refine w_val (v_is (v' := .slice Al m m) (v_sliceHM Try.underlying29 Try.hi34 Try.cz34 rfl rfl rfl (by omega)) (by rw [Int.toNat_natCast, slV_0'])) rfl ?_
        refine w_val (v_nilCheck rfl) rfl ?_
        first | refine w_val (v_fieldAddrB (o := 0) Try.underlying31 rfl rfl Try.nz29 rfl) rfl ?_ | refine w_val (v_fieldAddr (o := 0) Try.underlying31 rfl rfl Try.nz29 rfl) rfl ?_
        refine w_op rfl ?_
        first | refine x_store1 0 rfl rfl rfl Try.hi29 Try.cz29 rfl (by first | (simp; done) | (simp [intCells_len]; omega) | exact Nat.zero_lt_succ _) rfl ?_ | refine x_store1 1 rfl rfl rfl Try.hi29 Try.cz29 rfl (by first | (simp; done) | (simp [intCells_len]; omega) | exact Nat.zero_lt_succ _) rfl ?_ | refine x_store1 2 rfl rfl rfl Try.hi29 Try.cz29 rfl (by first | (simp; done) | (simp [intCells_len]; omega) | exact Nat.zero_lt_succ _) rfl ?_ | refine x_store1 3 rfl rfl rfl Try.hi29 Try.cz29 rfl (by first | (simp; done) | (simp [intCells_len]; omega) | exact Nat.zero_lt_succ _) rfl ?_ | refine x_store1 4 rfl rfl rfl Try.hi29 Try.cz29 rfl (by first | (simp; done) | (simp [intCells_len]; omega) | exact Nat.zero_lt_succ _) rfl ?_ | refine x_store1 5 rfl rfl rfl Try.hi29 Try.cz29 rfl (by first | (simp; done) | (simp [intCells_len]; omega) | exact Nat.zero_lt_succ _) rfl ?_ | refine x_store1 6 rfl rfl rfl Try.hi29 Try.cz29 rfl (by first | (simp; done) | (simp [intCells_len]; omega) | exact Nat.zero_lt_succ _) rfl ?_ | refine x_store1 7 rfl rfl rfl Try.hi29 Try.cz29 rfl (by first | (simp; done) | (simp [intCells_len]; omega) | exact Nat.zero_lt_succ _) rfl ?_ | refine x_store1 8 rfl rfl rfl Try.hi29 Try.cz29 rfl (by first | (simp; done) | (simp [intCells_len]; omega) | exact Nat.zero_lt_succ _) rfl ?_ | refine x_store1 9 rfl rfl rfl Try.hi29 Try.cz29 rfl (by first | (simp; done) | (simp [intCells_len]; omega) | exact Nat.zero_lt_succ _) rfl ?_ | refine x_store1 10 rfl rfl rfl Try.hi29 Try.cz29 rfl (by first | (simp; done) | (simp [intCells_len]; omega) | exact Nat.zero_lt_succ _) rfl ?_ | refine x_store1 11 rfl rfl rfl Try.hi29 Try.cz29 rfl (by first | (simp; done) | (simp [intCells_len]; omega) | exact Nat.zero_lt_succ _) rfl ?_
        refine w_nil ?_
        refine e_region ?_
        refine w_val (v_move rfl) rfl ?_
        refine w_val (v_move rfl) rfl ?_
        refine w_val (v_nilCheck rfl) rfl ?_
        first | refine w_val (v_fieldAddrB (o := 1) Try.underlying31 rfl rfl Try.nz3 rfl) rfl ?_ | refine w_val (v_fieldAddr (o := 1) Try.underlying31 rfl rfl Try.nz3 rfl) rfl ?_
        refine w_op rfl ?_
        first | refine x_store1 0 rfl rfl rfl Try.hi3 Try.cz3 rfl (by first | (simp; done) | (simp [intCells_len]; omega) | exact Nat.zero_lt_succ _) rfl ?_ | refine x_store1 1 rfl rfl rfl Try.hi3 Try.cz3 rfl (by first | (simp; done) | (simp [intCells_len]; omega) | exact Nat.zero_lt_succ _) rfl ?_ | refine x_store1 2 rfl rfl rfl Try.hi3 Try.cz3 rfl (by first | (simp; done) | (simp [intCells_len]; omega) | exact Nat.zero_lt_succ _) rfl ?_ | refine x_store1 3 rfl rfl rfl Try.hi3 Try.cz3 rfl (by first | (simp; done) | (simp [intCells_len]; omega) | exact Nat.zero_lt_succ _) rfl ?_ | refine x_store1 4 rfl rfl rfl Try.hi3 Try.cz3 rfl (by first | (simp; done) | (simp [intCells_len]; omega) | exact Nat.zero_lt_succ _) rfl ?_ | refine x_store1 5 rfl rfl rfl Try.hi3 Try.cz3 rfl (by first | (simp; done) | (simp [intCells_len]; omega) | exact Nat.zero_lt_succ _) rfl ?_ | refine x_store1 6 rfl rfl rfl Try.hi3 Try.cz3 rfl (by first | (simp; done) | (simp [intCells_len]; omega) | exact Nat.zero_lt_succ _) rfl ?_ | refine x_store1 7 rfl rfl rfl Try.hi3 Try.cz3 rfl (by first | (simp; done) | (simp [intCells_len]; omega) | exact Nat.zero_lt_succ _) rfl ?_ | refine x_store1 8 rfl rfl rfl Try.hi3 Try.cz3 rfl (by first | (simp; done) | (simp [intCells_len]; omega) | exact Nat.zero_lt_succ _) rfl ?_ | refine x_store1 9 rfl rfl rfl Try.hi3 Try.cz3 rfl (by first | (simp; done) | (simp [intCells_len]; omega) | exact Nat.zero_lt_succ _) rfl ?_ | refine x_store1 10 rfl rfl rfl Try.hi3 Try.cz3 rfl (by first | (simp; done) | (simp [intCells_len]; omega) | exact Nat.zero_lt_succ _) rfl ?_ | refine x_store1 11 rfl rfl rfl Try.hi3 Try.cz3 rfl (by first | (simp; done) | (simp [intCells_len]; omega) | exact Nat.zero_lt_succ _) rfl ?_
        refine w_nil ?_
        refine g_cutR (j := m) 3 rfl hmL ?_
        refine g_keep (q := Rounds (vs.take m) (L.take m)) 4 rfl (fun c hc => hc.take m) ?_
        refine e_endQ (q_ret0 rfl ?_)
        refine fun w' hw' => ⟨.slice Al m m, trivial, rfl, ?_⟩
        have e4 : (L.take m).length = m := by simp; omega
        have hr := (hw'.sub (.cons _ (.cons _ (List.Sublist.refl _)))).res
        simp only [scH, e4]
        simpa using hr
    · have hmm : m = L.length := by omega
      refine e_seq ?_
      refine e_seq ?_
      refine e_draw (scH s (.slice Al L.length kl) L k vs G) Try.mixed ?_
      refine a_take 0 pan_cx (by kernel_rfl) (fun _ hw => hw.sub (by repeat (first | exact List.Sublist.slnil | exact List.Sublist.refl _ | apply List.Sublist.cons_cons | apply List.Sublist.cons))) rfl (by kernel_rfl) (by kernel_rfl) (v_move rfl) rfl ?_
      refine a_take 1 pan_cx (by kernel_rfl) (fun _ hw => hw.sub (by repeat (first | exact List.Sublist.slnil | exact List.Sublist.refl _ | apply List.Sublist.cons_cons | apply List.Sublist.cons))) rfl (by kernel_rfl) (by kernel_rfl) (v_move rfl) rfl ?_
      refine a_take 2 pan_cx (by kernel_rfl) (fun _ hw => hw.sub (by repeat (first | exact List.Sublist.slnil | exact List.Sublist.refl _ | apply List.Sublist.cons_cons | apply List.Sublist.cons))) rfl (by kernel_rfl) (by kernel_rfl) (v_nilCheck rfl) rfl ?_
      first | refine a_take 3 pan_cx (by kernel_rfl) (fun _ hw => hw.sub (by repeat (first | exact List.Sublist.slnil | exact List.Sublist.refl _ | apply List.Sublist.cons_cons | apply List.Sublist.cons))) rfl (by kernel_rfl) (by kernel_rfl) (v_fieldAddrB (o := 0) Try.underlying31 rfl rfl Try.nz29 rfl) rfl ?_ | refine a_take 3 pan_cx (by kernel_rfl) (fun _ hw => hw.sub (by repeat (first | exact List.Sublist.slnil | exact List.Sublist.refl _ | apply List.Sublist.cons_cons | apply List.Sublist.cons))) rfl (by kernel_rfl) (by kernel_rfl) (v_fieldAddr (o := 0) Try.underlying31 rfl rfl Try.nz29 rfl) rfl ?_
      first | refine a_take 4 pan_cx (by kernel_rfl) (fun _ hw => hw.sub (by repeat (first | exact List.Sublist.slnil | exact List.Sublist.refl _ | apply List.Sublist.cons_cons | apply List.Sublist.cons))) rfl (by kernel_rfl) (by kernel_rfl) (v_loadB 0 rfl Try.underlying29 rfl rfl rfl) rfl ?_ | refine a_take 4 pan_cx (by kernel_rfl) (fun _ hw => hw.sub (by repeat (first | exact List.Sublist.slnil | exact List.Sublist.refl _ | apply List.Sublist.cons_cons | apply List.Sublist.cons))) rfl (by kernel_rfl) (by kernel_rfl) (v_loadB 1 rfl Try.underlying29 rfl rfl rfl) rfl ?_ | refine a_take 4 pan_cx (by kernel_rfl) (fun _ hw => hw.sub (by repeat (first | exact List.Sublist.slnil | exact List.Sublist.refl _ | apply List.Sublist.cons_cons | apply List.Sublist.cons))) rfl (by kernel_rfl) (by kernel_rfl) (v_loadB 2 rfl Try.underlying29 rfl rfl rfl) rfl ?_ | refine a_take 4 pan_cx (by kernel_rfl) (fun _ hw => hw.sub (by repeat (first | exact List.Sublist.slnil | exact List.Sublist.refl _ | apply List.Sublist.cons_cons | apply List.Sublist.cons))) rfl (by kernel_rfl) (by kernel_rfl) (v_loadB 3 rfl Try.underlying29 rfl rfl rfl) rfl ?_ | refine a_take 4 pan_cx (by kernel_rfl) (fun _ hw => hw.sub (by repeat (first | exact List.Sublist.slnil | exact List.Sublist.refl _ | apply List.Sublist.cons_cons | apply List.Sublist.cons))) rfl (by kernel_rfl) (by kernel_rfl) (v_loadB 4 rfl Try.underlying29 rfl rfl rfl) rfl ?_ | refine a_take 4 pan_cx (by kernel_rfl) (fun _ hw => hw.sub (by repeat (first | exact List.Sublist.slnil | exact List.Sublist.refl _ | apply List.Sublist.cons_cons | apply List.Sublist.cons))) rfl (by kernel_rfl) (by kernel_rfl) (v_loadB 5 rfl Try.underlying29 rfl rfl rfl) rfl ?_ | refine a_take 4 pan_cx (by kernel_rfl) (fun _ hw => hw.sub (by repeat (first | exact List.Sublist.slnil | exact List.Sublist.refl _ | apply List.Sublist.cons_cons | apply List.Sublist.cons))) rfl (by kernel_rfl) (by kernel_rfl) (v_loadB 6 rfl Try.underlying29 rfl rfl rfl) rfl ?_ | refine a_take 4 pan_cx (by kernel_rfl) (fun _ hw => hw.sub (by repeat (first | exact List.Sublist.slnil | exact List.Sublist.refl _ | apply List.Sublist.cons_cons | apply List.Sublist.cons))) rfl (by kernel_rfl) (by kernel_rfl) (v_loadB 7 rfl Try.underlying29 rfl rfl rfl) rfl ?_ | refine a_take 4 pan_cx (by kernel_rfl) (fun _ hw => hw.sub (by repeat (first | exact List.Sublist.slnil | exact List.Sublist.refl _ | apply List.Sublist.cons_cons | apply List.Sublist.cons))) rfl (by kernel_rfl) (by kernel_rfl) (v_loadB 8 rfl Try.underlying29 rfl rfl rfl) rfl ?_ | refine a_take 4 pan_cx (by kernel_rfl) (fun _ hw => hw.sub (by repeat (first | exact List.Sublist.slnil | exact List.Sublist.refl _ | apply List.Sublist.cons_cons | apply List.Sublist.cons))) rfl (by kernel_rfl) (by kernel_rfl) (v_loadB 9 rfl Try.underlying29 rfl rfl rfl) rfl ?_ | refine a_take 4 pan_cx (by kernel_rfl) (fun _ hw => hw.sub (by repeat (first | exact List.Sublist.slnil | exact List.Sublist.refl _ | apply List.Sublist.cons_cons | apply List.Sublist.cons))) rfl (by kernel_rfl) (by kernel_rfl) (v_loadB 10 rfl Try.underlying29 rfl rfl rfl) rfl ?_ | refine a_take 4 pan_cx (by kernel_rfl) (fun _ hw => hw.sub (by repeat (first | exact List.Sublist.slnil | exact List.Sublist.refl _ | apply List.Sublist.cons_cons | apply List.Sublist.cons))) rfl (by kernel_rfl) (by kernel_rfl) (v_loadB 11 rfl Try.underlying29 rfl rfl rfl) rfl ?_
      refine a_take 5 pan_cx (by kernel_rfl) (fun _ hw => hw.sub (by repeat (first | exact List.Sublist.slnil | exact List.Sublist.refl _ | apply List.Sublist.cons_cons | apply List.Sublist.cons))) rfl (by kernel_rfl) (by kernel_rfl) (v_lenS Try.underlying29 rfl) rfl ?_
      refine a_take 6 pan_cx (by kernel_rfl) (fun _ hw => hw.sub (by repeat (first | exact List.Sublist.slnil | exact List.Sublist.refl _ | apply List.Sublist.cons_cons | apply List.Sublist.cons))) rfl (by kernel_rfl) (by kernel_rfl) (v_is (v' := .bool false) (v_lss rfl rfl) (by rw [decide_eq_false (by omega)])) rfl ?_
      refine a_take 7 pan_cx (by kernel_rfl) (fun _ hw => hw.sub (by repeat (first | exact List.Sublist.slnil | exact List.Sublist.refl _ | apply List.Sublist.cons_cons | apply List.Sublist.cons))) rfl (by kernel_rfl) (by kernel_rfl) (v_move rfl) rfl ?_
      refine a_skip 8 pan_cx (by kernel_rfl) (fun _ hw => hw.sub (by repeat (first | exact List.Sublist.slnil | exact List.Sublist.refl _ | apply List.Sublist.cons_cons | apply List.Sublist.cons))) rfl (by kernel_rfl) (by kernel_rfl) rfl rfl rfl rfl ?_
      refine a_skip 9 pan_cx (by kernel_rfl) (fun _ hw => hw.sub (by repeat (first | exact List.Sublist.slnil | exact List.Sublist.refl _ | apply List.Sublist.cons_cons | apply List.Sublist.cons))) rfl (by kernel_rfl) (by kernel_rfl) rfl rfl rfl rfl ?_
      refine a_skip 10 pan_cx (by kernel_rfl) (fun _ hw => hw.sub (by repeat (first | exact List.Sublist.slnil | exact List.Sublist.refl _ | apply List.Sublist.cons_cons | apply List.Sublist.cons))) rfl (by kernel_rfl) (by kernel_rfl) rfl rfl rfl rfl ?_
      refine a_skip 11 pan_cx (by kernel_rfl) (fun _ hw => hw.sub (by repeat (first | exact List.Sublist.slnil | exact List.Sublist.refl _ | apply List.Sublist.cons_cons | apply List.Sublist.cons))) rfl (by kernel_rfl) (by kernel_rfl) rfl rfl rfl rfl ?_
      refine a_skip 12 pan_cx (by kernel_rfl) (fun _ hw => hw.sub (by repeat (first | exact List.Sublist.slnil | exact List.Sublist.refl _ | apply List.Sublist.cons_cons | apply List.Sublist.cons))) rfl (by kernel_rfl) (by kernel_rfl) rfl rfl rfl rfl ?_
      refine a_skip 13 pan_cx (by kernel_rfl) (fun _ hw => hw.sub (by repeat (first | exact List.Sublist.slnil | exact List.Sublist.refl _ | apply List.Sublist.cons_cons | apply List.Sublist.cons))) rfl (by kernel_rfl) (by kernel_rfl) rfl rfl rfl rfl ?_
      refine a_skip 14 pan_cx (by kernel_rfl) (fun _ hw => hw.sub (by repeat (first | exact List.Sublist.slnil | exact List.Sublist.refl _ | apply List.Sublist.cons_cons | apply List.Sublist.cons))) rfl (by kernel_rfl) (by kernel_rfl) rfl rfl rfl rfl ?_
      refine a_skip 15 pan_cx (by kernel_rfl) (fun _ hw => hw.sub (by repeat (first | exact List.Sublist.slnil | exact List.Sublist.refl _ | apply List.Sublist.cons_cons | apply List.Sublist.cons))) rfl (by kernel_rfl) (by kernel_rfl) rfl rfl rfl rfl ?_
      refine a_skip 16 pan_cx (by kernel_rfl) (fun _ hw => hw.sub (by repeat (first | exact List.Sublist.slnil | exact List.Sublist.refl _ | apply List.Sublist.cons_cons | apply List.Sublist.cons))) rfl (by kernel_rfl) (by kernel_rfl) rfl rfl rfl rfl ?_
      refine a_skip 17 pan_cx (by kernel_rfl) (fun _ hw => hw.sub (by repeat (first | exact List.Sublist.slnil | exact List.Sublist.refl _ | apply List.Sublist.cons_cons | apply List.Sublist.cons))) rfl (by kernel_rfl) (by kernel_rfl) rfl rfl rfl rfl ?_
      refine a_skip 18 pan_cx (by kernel_rfl) (fun _ hw => hw.sub (by repeat (first | exact List.Sublist.slnil | exact List.Sublist.refl _ | apply List.Sublist.cons_cons | apply List.Sublist.cons))) rfl (by kernel_rfl) (by kernel_rfl) rfl rfl rfl rfl ?_
      refine a_skip 19 pan_cx (by kernel_rfl) (fun _ hw => hw.sub (by repeat (first | exact List.Sublist.slnil | exact List.Sublist.refl _ | apply List.Sublist.cons_cons | apply List.Sublist.cons))) rfl (by kernel_rfl) (by kernel_rfl) rfl rfl rfl rfl ?_
      refine a_skip 20 pan_cx (by kernel_rfl) (fun _ hw => hw.sub (by repeat (first | exact List.Sublist.slnil | exact List.Sublist.refl _ | apply List.Sublist.cons_cons | apply List.Sublist.cons))) rfl (by kernel_rfl) (by kernel_rfl) rfl rfl rfl rfl ?_
      refine a_skip 21 pan_cx (by kernel_rfl) (fun _ hw => hw.sub (by repeat (first | exact List.Sublist.slnil | exact List.Sublist.refl _ | apply List.Sublist.cons_cons | apply List.Sublist.cons))) rfl (by kernel_rfl) (by kernel_rfl) rfl rfl rfl rfl ?_
      refine a_skip 22 pan_cx (by kernel_rfl) (fun _ hw => hw.sub (by repeat (first | exact List.Sublist.slnil | exact List.Sublist.refl _ | apply List.Sublist.cons_cons | apply List.Sublist.cons))) rfl (by kernel_rfl) (by kernel_rfl) rfl rfl rfl rfl ?_
      first | refine a_take 23 pan_cx (by kernel_rfl) (fun _ hw => hw.sub (by repeat (first | exact List.Sublist.slnil | exact List.Sublist.refl _ | apply List.Sublist.cons_cons | apply List.Sublist.cons))) rfl (by kernel_rfl) (by kernel_rfl) (v_pickT rfl rfl) rfl ?_ | refine a_take 23 pan_cx (by kernel_rfl) (fun _ hw => hw.sub (by repeat (first | exact List.Sublist.slnil | exact List.Sublist.refl _ | apply List.Sublist.cons_cons | apply List.Sublist.cons))) rfl (by kernel_rfl) (by kernel_rfl) (v_pickF rfl rfl) rfl ?_
      refine a_done (by kernel_rfl) ?_
      refine e_condF rfl ?_
      have hcr := crashL_is (keep := keep) hkm hmL hB hm (fun h => absurd h hlt)
      rw [hcr]
      refine e_exit rfl ?_
      refine e_seq ?_
      refine e_region ?_
      refine w_val (v_move rfl) rfl ?_
      refine w_val (v_move rfl) rfl ?_
      refine w_val (v_nilCheck rfl) rfl ?_
      first | refine w_val (v_fieldAddrB (o := 0) Try.underlying31 rfl rfl Try.nz29 rfl) rfl ?_ | refine w_val (v_fieldAddr (o := 0) Try.underlying31 rfl rfl Try.nz29 rfl) rfl ?_
      first | refine w_val (v_loadB 0 rfl Try.underlying29 rfl rfl rfl) rfl ?_ | refine w_val (v_loadB 1 rfl Try.underlying29 rfl rfl rfl) rfl ?_ | refine w_val (v_loadB 2 rfl Try.underlying29 rfl rfl rfl) rfl ?_ | refine w_val (v_loadB 3 rfl Try.underlying29 rfl rfl rfl) rfl ?_ | refine w_val (v_loadB 4 rfl Try.underlying29 rfl rfl rfl) rfl ?_ | refine w_val (v_loadB 5 rfl Try.underlying29 rfl rfl rfl) rfl ?_ | refine w_val (v_loadB 6 rfl Try.underlying29 rfl rfl rfl) rfl ?_ | refine w_val (v_loadB 7 rfl Try.underlying29 rfl rfl rfl) rfl ?_ | refine w_val (v_loadB 8 rfl Try.underlying29 rfl rfl rfl) rfl ?_ | refine w_val (v_loadB 9 rfl Try.underlying29 rfl rfl rfl) rfl ?_ | refine w_val (v_loadB 10 rfl Try.underlying29 rfl rfl rfl) rfl ?_ | refine w_val (v_loadB 11 rfl Try.underlying29 rfl rfl rfl) rfl ?_
      refine w_val (v_move rfl) rfl ?_
      refine w_val (v_move rfl) rfl ?_
      refine w_val (v_is (v' := .slice Al m m) (v_sliceHM Try.underlying29 Try.hi34 Try.cz34 rfl rfl rfl (by omega)) (by rw [Int.toNat_natCast, slV_0'])) rfl ?_
      refine w_val (v_nilCheck rfl) rfl ?_
      first | refine w_val (v_fieldAddrB (o := 0) Try.underlying31 rfl rfl Try.nz29 rfl) rfl ?_ | refine w_val (v_fieldAddr (o := 0) Try.underlying31 rfl rfl Try.nz29 rfl) rfl ?_
      refine w_op rfl ?_
      first | refine x_store1 0 rfl rfl rfl Try.hi29 Try.cz29 rfl (by first | (simp; done) | (simp [intCells_len]; omega) | exact Nat.zero_lt_succ _) rfl ?_ | refine x_store1 1 rfl rfl rfl Try.hi29 Try.cz29 rfl (by first | (simp; done) | (simp [intCells_len]; omega) | exact Nat.zero_lt_succ _) rfl ?_ | refine x_store1 2 rfl rfl rfl Try.hi29 Try.cz29 rfl (by first | (simp; done) | (simp [intCells_len]; omega) | exact Nat.zero_lt_succ _) rfl ?_ | refine x_store1 3 rfl rfl rfl Try.hi29 Try.cz29 rfl (by first | (simp; done) | (simp [intCells_len]; omega) | exact Nat.zero_lt_succ _) rfl ?_ | refine x_store1 4 rfl rfl rfl Try.hi29 Try.cz29 rfl (by first | (simp; done) | (simp [intCells_len]; omega) | exact Nat.zero_lt_succ _) rfl ?_ | refine x_store1 5 rfl rfl rfl Try.hi29 Try.cz29 rfl (by first | (simp; done) | (simp [intCells_len]; omega) | exact Nat.zero_lt_succ _) rfl ?_ | refine x_store1 6 rfl rfl rfl Try.hi29 Try.cz29 rfl (by first | (simp; done) | (simp [intCells_len]; omega) | exact Nat.zero_lt_succ _) rfl ?_ | refine x_store1 7 rfl rfl rfl Try.hi29 Try.cz29 rfl (by first | (simp; done) | (simp [intCells_len]; omega) | exact Nat.zero_lt_succ _) rfl ?_ | refine x_store1 8 rfl rfl rfl Try.hi29 Try.cz29 rfl (by first | (simp; done) | (simp [intCells_len]; omega) | exact Nat.zero_lt_succ _) rfl ?_ | refine x_store1 9 rfl rfl rfl Try.hi29 Try.cz29 rfl (by first | (simp; done) | (simp [intCells_len]; omega) | exact Nat.zero_lt_succ _) rfl ?_ | refine x_store1 10 rfl rfl rfl Try.hi29 Try.cz29 rfl (by first | (simp; done) | (simp [intCells_len]; omega) | exact Nat.zero_lt_succ _) rfl ?_ | refine x_store1 11 rfl rfl rfl Try.hi29 Try.cz29 rfl (by first | (simp; done) | (simp [intCells_len]; omega) | exact Nat.zero_lt_succ _) rfl ?_
      refine w_nil ?_
      refine e_region ?_
      refine w_val (v_move rfl) rfl ?_
      refine w_val (v_move rfl) rfl ?_
      refine w_val (v_nilCheck rfl) rfl ?_
      first | refine w_val (v_fieldAddrB (o := 1) Try.underlying31 rfl rfl Try.nz3 rfl) rfl ?_ | refine w_val (v_fieldAddr (o := 1) Try.underlying31 rfl rfl Try.nz3 rfl) rfl ?_
      refine w_op rfl ?_
      first | refine x_store1 0 rfl rfl rfl Try.hi3 Try.cz3 rfl (by first | (simp; done) | (simp [intCells_len]; omega) | exact Nat.zero_lt_succ _) rfl ?_ | refine x_store1 1 rfl rfl rfl Try.hi3 Try.cz3 rfl (by first | (simp; done) | (simp [intCells_len]; omega) | exact Nat.zero_lt_succ _) rfl ?_ | refine x_store1 2 rfl rfl rfl Try.hi3 Try.cz3 rfl (by first | (simp; done) | (simp [intCells_len]; omega) | exact Nat.zero_lt_succ _) rfl ?_ | refine x_store1 3 rfl rfl rfl Try.hi3 Try.cz3 rfl (by first | (simp; done) | (simp [intCells_len]; omega) | exact Nat.zero_lt_succ _) rfl ?_ | refine x_store1 4 rfl rfl rfl Try.hi3 Try.cz3 rfl (by first | (simp; done) | (simp [intCells_len]; omega) | exact Nat.zero_lt_succ _) rfl ?_ | refine x_store1 5 rfl rfl rfl Try.hi3 Try.cz3 rfl (by first | (simp; done) | (simp [intCells_len]; omega) | exact Nat.zero_lt_succ _) rfl ?_ | refine x_store1 6 rfl rfl rfl Try.hi3 Try.cz3 rfl (by first | (simp; done) | (simp [intCells_len]; omega) | exact Nat.zero_lt_succ _) rfl ?_ | refine x_store1 7 rfl rfl rfl Try.hi3 Try.cz3 rfl (by first | (simp; done) | (simp [intCells_len]; omega) | exact Nat.zero_lt_succ _) rfl ?_ | refine x_store1 8 rfl rfl rfl Try.hi3 Try.cz3 rfl (by first | (simp; done) | (simp [intCells_len]; omega) | exact Nat.zero_lt_succ _) rfl ?_ | refine x_store1 9 rfl rfl rfl Try.hi3 Try.cz3 rfl (by first | (simp; done) | (simp [intCells_len]; omega) | exact Nat.zero_lt_succ _) rfl ?_ | refine x_store1 10 rfl rfl rfl Try.hi3 Try.cz3 rfl (by first | (simp; done) | (simp [intCells_len]; omega) | exact Nat.zero_lt_succ _) rfl ?_ | refine x_store1 11 rfl rfl rfl Try.hi3 Try.cz3 rfl (by first | (simp; done) | (simp [intCells_len]; omega) | exact Nat.zero_lt_succ _) rfl ?_
      refine w_nil ?_
      refine g_cutR (j := m) 1 rfl hmL ?_
      refine g_keep (q := Rounds (vs.take m) (L.take m)) 2 rfl (fun c hc => hc.take m) ?_
      refine e_endQ (q_ret0 rfl ?_)
      refine fun w' hw' => ⟨.slice Al m m, trivial, rfl, ?_⟩
      have e4 : (L.take m).length = m := by simp; omega
      have hr := hw'.res
      simp only [scH, e4]
      simpa using hr
end Go.SL
end
section
open Go Go.Proofs Go.SL
set_option maxRecDepth 100000
namespace Go.SL
theorem greatLog_spec (v : Value) (l : List StepL) (w : World) (h : IsSteps w.cell? v l) (hl : ∀ x ∈ l, ∀ d ∈ x.round, d.length ≤ 4398046511104) : Calls Try.prog 15 #[v] w fun e w' => ∃ b : Bool, True ∧ e = .returned (.bool b) ∧ Res w [] [] w' := by
  rw [← off_none w] at h
  obtain ⟨A, kp, rfl, hle, hc⟩ := h
  refine enter0 (N := 50) Try.func15 rfl rfl rfl ?_
  refine e_seq ?_
  refine e_region ?_
  refine w_val (v_assign rfl) rfl ?_
  refine w_nil ?_
  refine e_seq ?_
  refine e_region ?_
  refine w_val (v_assign rfl) rfl ?_
  refine w_nil ?_
  refine e_seq ?_
  refine e_seq ?_
  refine e_region ?_
  refine w_val (v_assign rfl) rfl ?_
  refine w_nil ?_
  refine e_block ?_
  refine e_loopK (σ := Nat × Int) [0] (.cons rfl .nil) (fun x => [(3, .int .i64 x.2), (4, .int .i64 (x.1 : Int))]) (fun x => x.1 ≤ l.length) (fun x => l.length - x.1) (0, 0) (by dsimp only; omega) (by repeat (first | exact Sub.nil _ | refine Sub.cons rfl ?_)) ?_
  rintro ⟨i, n⟩ hi
  dsimp only at hi ⊢
  refine e_seq ?_
  refine e_seq ?_
  have hfin : ∀ b : Bool, True := fun _ => trivial
  by_cases hlt : i < l.length ∧ i < 200
  · obtain ⟨ad, u, rfl, hcs, hr⟩ := hc i hlt.1
    obtain ⟨A2, kp2, rfl, hle2, hc2⟩ := hr.form
    have hd := hl l[i] (List.getElem_mem _)
    have hc3 : off w (feet []) ((ad.add (((i : Int)).toNat * 3)).add 2) = some (.slice A2 l[i].round.length kp2) := by
      rw [Int.toNat_natCast]; exact hcs 2 _ rfl
    generalize l[i].round = r at *
    refine e_region ?_
    refine w_val (v_move rfl) rfl ?_
    refine w_val (v_move rfl) rfl ?_
    refine w_val (v_lenS Try.underlying22 rfl) rfl ?_
    refine w_val (v_is (v' := .bool true) (v_lss rfl rfl) (by rw [decide_eq_true (by omega)])) rfl ?_
    refine w_val (v_move rfl) rfl ?_
    refine w_want rfl rfl ?_
    refine w_val (v_move rfl) rfl ?_
    refine w_want rfl rfl ?_
    refine w_val (v_is (v' := .bool true) (v_lss rfl rfl) (by rw [decide_eq_true (by omega)])) rfl ?_
    first | refine w_val (v_pickT rfl rfl) rfl ?_ | refine w_val (v_pickF rfl rfl) rfl ?_
    refine w_nil ?_
    first | refine e_condDT rfl (by omega) ?_ | refine e_condT rfl ?_
    refine e_skip ?_
    refine e_seq ?_
    refine e_block ?_
    refine e_seq ?_
    refine e_seq ?_
    refine e_region ?_
    refine w_val (v_move rfl) rfl ?_
    refine w_val (v_move rfl) rfl ?_
    first | refine w_val (v_indexSB Try.underlying22 Try.hi36 Try.cz36 rfl rfl (by first | omega | decide)) rfl ?_ | refine w_val (v_indexS Try.underlying22 Try.hi36 Try.cz36 rfl rfl (by first | omega | decide)) rfl ?_
    first | refine w_val (v_fieldAddrB (o := 2) Try.underlying36 rfl rfl Try.nz34 rfl) rfl ?_ | refine w_val (v_fieldAddr (o := 2) Try.underlying36 rfl rfl Try.nz34 rfl) rfl ?_
    first | refine w_val (v_loadO Try.underlying34 rfl rfl (hc3)) rfl ?_ | refine w_val (v_loadB 0 rfl Try.underlying34 rfl rfl rfl) rfl ?_ | refine w_val (v_loadB 1 rfl Try.underlying34 rfl rfl rfl) rfl ?_ | refine w_val (v_loadB 2 rfl Try.underlying34 rfl rfl rfl) rfl ?_ | refine w_val (v_loadB 3 rfl Try.underlying34 rfl rfl rfl) rfl ?_ | refine w_val (v_loadB 4 rfl Try.underlying34 rfl rfl rfl) rfl ?_ | refine w_val (v_loadB 5 rfl Try.underlying34 rfl rfl rfl) rfl ?_ | refine w_val (v_loadB 6 rfl Try.underlying34 rfl rfl rfl) rfl ?_ | refine w_val (v_loadB 7 rfl Try.underlying34 rfl rfl rfl) rfl ?_ | refine w_val (v_loadB 8 rfl Try.underlying34 rfl rfl rfl) rfl ?_ | refine w_val (v_loadB 9 rfl Try.underlying34 rfl rfl rfl) rfl ?_ | refine w_val (v_loadB 10 rfl Try.underlying34 rfl rfl rfl) rfl ?_ | refine w_val (v_loadB 11 rfl Try.underlying34 rfl rfl rfl) rfl ?_
    refine w_op rfl ?_
    refine x_call0 (v := .bool (greatL r)) rfl rfl rfl Try.call32 rfl (fun w hw => great_spec _ r w (hr.mono hw.off) hd) ?_
    refine w_nil ?_
    refine e_cond rfl (fun hg => ?_) (fun hg => ?_)
    · refine e_seq ?_
      refine e_region ?_
      refine w_val (v_assign rfl) rfl ?_
      refine w_nil ?_
      refine e_retQ (q_ret1 rfl (.tmp rfl) ?_)
      exact fun w' hw' => ⟨true, trivial, rfl, hw'.res.nil⟩
    · have h60 := (great_not hg).1
      refine e_skip ?_
      refine e_seq ?_
      refine e_region ?_
      refine w_val (v_assign rfl) rfl ?_
      refine w_nil ?_
      refine e_block ?_
      refine e_loopK (σ := Nat × Int) [0, 4] (.cons rfl (.cons rfl .nil)) (fun x => [(3, .int .i64 x.2), (5, .int .i64 (x.1 : Int))]) (fun x => x.1 ≤ r.length) (fun x => r.length - x.1) (0, n) (by dsimp only; omega) (by repeat (first | exact Sub.nil _ | refine Sub.cons rfl ?_)) ?_
      rintro ⟨j, n⟩ hj
      dsimp only at hj ⊢
      refine e_seq ?_
      refine e_seq ?_
      refine e_region ?_
      refine w_val (v_move rfl) rfl ?_
      refine w_val (v_move rfl) rfl ?_
      refine w_val (v_move rfl) rfl ?_
      first | refine w_val (v_indexSB Try.underlying22 Try.hi36 Try.cz36 rfl rfl (by first | omega | decide)) rfl ?_ | refine w_val (v_indexS Try.underlying22 Try.hi36 Try.cz36 rfl rfl (by first | omega | decide)) rfl ?_
      first | refine w_val (v_fieldAddrB (o := 2) Try.underlying36 rfl rfl Try.nz34 rfl) rfl ?_ | refine w_val (v_fieldAddr (o := 2) Try.underlying36 rfl rfl Try.nz34 rfl) rfl ?_
      first | refine w_val (v_loadO Try.underlying34 rfl rfl (hc3)) rfl ?_ | refine w_val (v_loadB 0 rfl Try.underlying34 rfl rfl rfl) rfl ?_ | refine w_val (v_loadB 1 rfl Try.underlying34 rfl rfl rfl) rfl ?_ | refine w_val (v_loadB 2 rfl Try.underlying34 rfl rfl rfl) rfl ?_ | refine w_val (v_loadB 3 rfl Try.underlying34 rfl rfl rfl) rfl ?_ | refine w_val (v_loadB 4 rfl Try.underlying34 rfl rfl rfl) rfl ?_ | refine w_val (v_loadB 5 rfl Try.underlying34 rfl rfl rfl) rfl ?_ | refine w_val (v_loadB 6 rfl Try.underlying34 rfl rfl rfl) rfl ?_ | refine w_val (v_loadB 7 rfl Try.underlying34 rfl rfl rfl) rfl ?_ | refine w_val (v_loadB 8 rfl Try.underlying34 rfl rfl rfl) rfl ?_ | refine w_val (v_loadB 9 rfl Try.underlying34 rfl rfl rfl) rfl ?_ | refine w_val (v_loadB 10 rfl Try.underlying34 rfl rfl rfl) rfl ?_ | refine w_val (v_loadB 11 rfl Try.underlying34 rfl rfl rfl) rfl ?_
      refine w_val (v_lenS Try.underlying34 rfl) rfl ?_
      refine w_val (v_lss rfl rfl) rfl ?_
      refine w_nil ?_
      refine e_condD rfl (fun hlt2 => ?_) (fun hlt2 => ?_)
      · have hlt2' : j < r.length := by omega
        obtain ⟨ad2, u2, rfl, hcell2, hd2⟩ := hc2 j hlt2'
        obtain ⟨A3, kp3, rfl, _, _⟩ := hd2.form
        generalize r[j] = d at *
        refine e_skip ?_
        refine e_seq ?_
        refine e_block ?_
        refine e_region ?_
        refine w_val (v_move rfl) rfl ?_
        refine w_val (v_move rfl) rfl ?_
        refine w_val (v_move rfl) rfl ?_
        first | refine w_val (v_indexSB Try.underlying22 Try.hi36 Try.cz36 rfl rfl (by first | omega | decide)) rfl ?_ | refine w_val (v_indexS Try.underlying22 Try.hi36 Try.cz36 rfl rfl (by first | omega | decide)) rfl ?_
        first | refine w_val (v_fieldAddrB (o := 2) Try.underlying36 rfl rfl Try.nz34 rfl) rfl ?_ | refine w_val (v_fieldAddr (o := 2) Try.underlying36 rfl rfl Try.nz34 rfl) rfl ?_
        first | refine w_val (v_loadO Try.underlying34 rfl rfl (hc3)) rfl ?_ | refine w_val (v_loadO Try.underlying34 rfl rfl (hcell2)) rfl ?_ | refine w_val (v_loadB 0 rfl Try.underlying34 rfl rfl rfl) rfl ?_ | refine w_val (v_loadB 1 rfl Try.underlying34 rfl rfl rfl) rfl ?_ | refine w_val (v_loadB 2 rfl Try.underlying34 rfl rfl rfl) rfl ?_ | refine w_val (v_loadB 3 rfl Try.underlying34 rfl rfl rfl) rfl ?_ | refine w_val (v_loadB 4 rfl Try.underlying34 rfl rfl rfl) rfl ?_ | refine w_val (v_loadB 5 rfl Try.underlying34 rfl rfl rfl) rfl ?_ | refine w_val (v_loadB 6 rfl Try.underlying34 rfl rfl rfl) rfl ?_ | refine w_val (v_loadB 7 rfl Try.underlying34 rfl rfl rfl) rfl ?_ | refine w_val (v_loadB 8 rfl Try.underlying34 rfl rfl rfl) rfl ?_ | refine w_val (v_loadB 9 rfl Try.underlying34 rfl rfl rfl) rfl ?_ | refine w_val (v_loadB 10 rfl Try.underlying34 rfl rfl rfl) rfl ?_ | refine w_val (v_loadB 11 rfl Try.underlying34 rfl rfl rfl) rfl ?_
        refine w_val (v_move rfl) rfl ?_
        first | refine w_val (v_indexSB Try.underlying34 Try.hi52 Try.cz52 rfl rfl (by first | omega | decide)) rfl ?_ | refine w_val (v_indexS Try.underlying34 Try.hi52 Try.cz52 rfl rfl (by first | omega | decide)) rfl ?_
        first | refine w_val (v_loadO Try.underlying52 rfl rfl (hc3)) rfl ?_ | refine w_val (v_loadO Try.underlying52 rfl rfl (hcell2)) rfl ?_ | refine w_val (v_loadB 0 rfl Try.underlying52 rfl rfl rfl) rfl ?_ | refine w_val (v_loadB 1 rfl Try.underlying52 rfl rfl rfl) rfl ?_ | refine w_val (v_loadB 2 rfl Try.underlying52 rfl rfl rfl) rfl ?_ | refine w_val (v_loadB 3 rfl Try.underlying52 rfl rfl rfl) rfl ?_ | refine w_val (v_loadB 4 rfl Try.underlying52 rfl rfl rfl) rfl ?_ | refine w_val (v_loadB 5 rfl Try.underlying52 rfl rfl rfl) rfl ?_ | refine w_val (v_loadB 6 rfl Try.underlying52 rfl rfl rfl) rfl ?_ | refine w_val (v_loadB 7 rfl Try.underlying52 rfl rfl rfl) rfl ?_ | refine w_val (v_loadB 8 rfl Try.underlying52 rfl rfl rfl) rfl ?_ | refine w_val (v_loadB 9 rfl Try.underlying52 rfl rfl rfl) rfl ?_ | refine w_val (v_loadB 10 rfl Try.underlying52 rfl rfl rfl) rfl ?_ | refine w_val (v_loadB 11 rfl Try.underlying52 rfl rfl rfl) rfl ?_
        refine w_val (v_lenS Try.underlying52 rfl) rfl ?_
        refine w_val (v_addw rfl rfl) rfl ?_
        refine w_val (v_assign rfl) rfl ?_
        refine w_nil ?_
        refine e_blk ?_
        refine e_region ?_
        refine w_val (v_move rfl) rfl ?_
        first | refine w_val (v_add rfl rfl (by omega)) rfl ?_ | refine w_val (v_addw rfl rfl) rfl ?_
        refine w_val (v_assign rfl) rfl ?_
        refine w_nil ?_
        exact e_round ((j + 1, IntKind.i64.wrap (n + d.length))) (by dsimp only; omega) (by dsimp only; omega) (by repeat (first | exact Sub.nil _ | refine Sub.cons rfl ?_)) (fun _ hw => hw)
      · refine e_exit rfl ?_
        refine e_blk ?_
        refine e_region ?_
        refine w_val (v_move rfl) rfl ?_
        first | refine w_val (v_add rfl rfl (by omega)) rfl ?_ | refine w_val (v_addw rfl rfl) rfl ?_
        refine w_val (v_assign rfl) rfl ?_
        refine w_nil ?_
        exact e_round ((i + 1, n)) (by dsimp only; omega) (by dsimp only; omega) (by repeat (first | exact Sub.nil _ | refine Sub.cons rfl ?_)) (fun _ hw => hw)
  · have hlen : i < l.length → ¬ i < 200 := fun h h2 => hlt ⟨h, h2⟩
    have hexit : ∀ b : Bool, True := fun _ => trivial
    refine e_cutK (σ := Unit) [0, 3, 4] (.cons rfl (.cons rfl (.cons rfl .nil))) (fun _ => [(13, .bool false)]) (fun _ => True) ?_ ?_
    · by_cases h1 : i < l.length
      · refine e_region ?_
        refine w_val (v_move rfl) rfl ?_
        refine w_val (v_move rfl) rfl ?_
        refine w_val (v_lenS Try.underlying22 rfl) rfl ?_
        refine w_val (v_is (v' := .bool true) (v_lss rfl rfl) (by rw [decide_eq_true (by omega)])) rfl ?_
        refine w_val (v_move rfl) rfl ?_
        refine w_want rfl rfl ?_
        refine w_val (v_move rfl) rfl ?_
        refine w_want rfl rfl ?_
        refine w_val (v_is (v' := .bool false) (v_lss rfl rfl) (by rw [decide_eq_false (by omega)])) rfl ?_
        first | refine w_val (v_pickT rfl rfl) rfl ?_ | refine w_val (v_pickF rfl rfl) rfl ?_
        refine w_nil ?_
        exact e_cutEnd (()) (trivial) (by repeat (first | exact Sub.nil _ | refine Sub.cons rfl ?_)) (fun _ hw => hw)
      · refine e_region ?_
        refine w_val (v_move rfl) rfl ?_
        refine w_val (v_move rfl) rfl ?_
        refine w_val (v_lenS Try.underlying22 rfl) rfl ?_
        refine w_val (v_is (v' := .bool false) (v_lss rfl rfl) (by rw [decide_eq_false (by omega)])) rfl ?_
        refine w_val (v_move rfl) rfl ?_
        refine w_skip rfl rfl rfl rfl ?_
        refine w_skip rfl rfl rfl rfl ?_
        first | refine w_val (v_pickT rfl rfl) rfl ?_ | refine w_val (v_pickF rfl rfl) rfl ?_
        refine w_nil ?_
        exact e_cutEnd (()) (trivial) (by repeat (first | exact Sub.nil _ | refine Sub.cons rfl ?_)) (fun _ hw => hw)
    · rintro - -
      refine e_condF rfl ?_
      refine e_exit rfl ?_
      refine e_seq ?_
      by_cases h100 : 100 < l.length
      · refine e_region ?_
        refine w_val (v_move rfl) rfl ?_
        refine w_val (v_lenS Try.underlying22 rfl) rfl ?_
        refine w_val (v_is (v' := .bool true) (v_gtr rfl rfl) (by rw [decide_eq_true (by omega)])) rfl ?_
        refine w_val (v_move rfl) rfl ?_
        refine w_skip rfl rfl rfl rfl ?_
        refine w_skip rfl rfl rfl rfl ?_
        first | refine w_val (v_pickT rfl rfl) rfl ?_ | refine w_val (v_pickF rfl rfl) rfl ?_
        refine w_val (v_assign rfl) rfl ?_
        refine w_nil ?_
        refine e_retQ (q_ret1 rfl (.tmp rfl) ?_)
        exact fun w' hw' => ⟨_, trivial, rfl, hw'.res.nil⟩
      · refine e_region ?_
        refine w_val (v_move rfl) rfl ?_
        refine w_val (v_lenS Try.underlying22 rfl) rfl ?_
        refine w_val (v_is (v' := .bool false) (v_gtr rfl rfl) (by rw [decide_eq_false (by omega)])) rfl ?_
        refine w_val (v_move rfl) rfl ?_
        refine w_want rfl rfl ?_
        refine w_val (v_move rfl) rfl ?_
        refine w_want rfl rfl ?_
        refine w_val (v_gtr rfl rfl) rfl ?_
        first | refine w_val (v_pickT rfl rfl) rfl ?_ | refine w_val (v_pickF rfl rfl) rfl ?_
        refine w_val (v_assign rfl) rfl ?_
        refine w_nil ?_
        refine e_retQ (q_ret1 rfl (.tmp rfl) ?_)
        exact fun w' hw' => ⟨_, trivial, rfl, hw'.res.nil⟩
end Go.SL
end
