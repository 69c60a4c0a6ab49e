/- Ytebdkaadbakhlac: part W6 of this seat's own texts. -/
import Derived.Test.YtebdkaadbakhlacW5
import Derived.Test.YtebdkaadbakhlacP3
set_option linter.unusedVariables false
set_option linter.unusedSimpArgs false
section

open Go Go.Proofs Go.SL
set_option maxRecDepth 100000
namespace Go.SL
abbrev scB (s : Nat) (lv : Value) (k : Nat) : Chunk := .blk s 95 [lv, .int .i64 (k : Int)]
/-- a scroll in memory -/
abbrev scH (s : Nat) (lv : Value) (L : List RoundL) (k : Nat) (vs : List Value) (G : Nat → Prop) : Hp := [scB s lv k, Rw lv 38 1 L.length vs, Keep G (Rounds vs L)]
structure ScV (c : View) (s : Nat) (lv : Value) (L : List RoundL) (k : Nat) (vs : List Value) : Prop where
  cells : Cells c ⟨s, 0, none⟩ [lv, .int .i64 (k : Int)]
  row : Rds c lv 1 L.length vs
  rounds : Rounds vs L c
theorem ScV.mono {c c' : View} (hl : Le c c') {s : Nat} {lv : Value} {L : List RoundL} {k : Nat} {vs : List Value} (h : ScV c s lv L k vs) : ScV c' s lv L k vs := ⟨h.cells.mono hl, h.row.mono hl, Rounds.up _ _ _ _ hl h.rounds⟩
theorem ScV.of {s : Nat} {lv : Value} {L : List RoundL} {k : Nat} {vs : List Value} {G : Nat → Prop} {w : World} (h : ∀ c ∈ scH s lv L k vs G, c.holds w) : ScV w.cell? s lv L k vs :=
  ⟨blk_cells (h _ (List.mem_cons_self ..)) 0 (fun j v hj => by simpa using hj), row_rds (h _ (List.mem_cons_of_mem _ (List.mem_cons_self ..))), keep_all (Rounds.up _ _) (h _ (List.mem_cons_of_mem _ (List.mem_cons_of_mem _ (List.mem_cons_self ..))))⟩
theorem ScV.c0 {c : View} {s : Nat} {lv : Value} {L : List RoundL} {k : Nat} {vs : List Value} (h : ScV c s lv L k vs) : c ⟨s, 0, none⟩ = some lv := by have := h.cells 0 _ rfl; rwa [add_mk] at this
theorem ScV.c1 {c : View} {s : Nat} {lv : Value} {L : List RoundL} {k : Nat} {vs : List Value} (h : ScV c s lv L k vs) : c ⟨s, 0 + 1, none⟩ = some (.int .i64 (k : Int)) := by have := h.cells 1 _ rfl; rwa [add_mk] at this
theorem scBytes_spec (s : Nat) (lv : Value) (L : List RoundL) (k : Nat) (vs : List Value) (n : Nat) (w : World) (h : ScV w.cell? s lv L k vs) (hn : n ≤ L.length) (hok : LogOk L k) :
    Calls Try.prog 107 #[.pointer (some ⟨s, 0, none⟩), .int .i64 (n : Int)] w fun e w' => ∃ sl, True ∧ e = .returned sl ∧ Res w [] [Own sl 5 1 (bytesOf (L.take n)).length (byteCells (bytesOf (L.take n)))] w' := by
  have hB := hok.bytes
  have h25 := hok.len
  rw [← off_none w] at h
  obtain ⟨Al, kl, rfl, hkl, _, hc⟩ := id h.row
  have h0 := h.c0
  refine enter0 (N := 23) Try.func107 rfl rfl rfl ?_
  refine e_seq ?_
  refine e_region ?_
  refine w_val (v_assign rfl) rfl ?_
  refine w_nil ?_
  refine e_seq ?_
  refine e_region ?_
  refine w_val (v_assign rfl) rfl ?_
  refine w_nil ?_
  refine e_seq ?_
  refine e_seq ?_
  refine e_region ?_
  refine w_val (v_assign rfl) rfl ?_
  refine w_nil ?_
  refine g_heap (m' := [Own (.slice none 0 0) 5 1 0 []]) (fun _ hw => hw.ownNil _ _) ?_
  refine e_block ?_
  refine e_loopH (σ := Nat × Value) [0, 1] (.cons rfl (.cons rfl .nil)) (fun x => [(5, x.2), (6, .int .i64 x.1)]) (fun x => [Own x.2 5 1 (bytesOf (L.take x.1)).length (byteCells (bytesOf (L.take x.1)))]) (fun x => x.1 ≤ n) (fun x => n - x.1) (0, .slice none 0 0) (by dsimp only; omega) (by repeat (first | exact Sub.nil _ | refine Sub.cons rfl ?_)) (fun _ hw => by simpa [bytesOf, byteCells] using hw) ?_
  rintro ⟨i, v5⟩ hi
  dsimp only at hi ⊢
  refine e_seq ?_
  refine e_seq ?_
  refine e_region ?_
  refine w_val (v_move rfl) rfl ?_
  refine w_val (v_move rfl) rfl ?_
  refine w_val (v_lss rfl rfl) rfl ?_
  refine w_nil ?_
  refine e_condD rfl (fun hlt => ?_) (fun hlt => ?_)
  · have hlt' : i < L.length := by omega
    obtain ⟨ad, rfl, hcl⟩ := hc (by omega)
    obtain ⟨u, hu, hround⟩ := h.rounds.2 i hlt'
    have hcell : off w (feet []) (ad.add (((i : Int)).toNat * 1)) = some u := hcl _ _ (by rw [Int.toNat_natCast, Nat.mul_one]; exact hu)
    have hall := hok.all L[i] (List.getElem_mem _)
    have hokr := okRound_of hall.1 hall.2
    have hle1 := endAt_le_all (L := L) (i := i + 1) (by omega)
    have hsucc := endAt_succ hlt'
    have hnext : bytesOf (L.take (i + 1)) = bytesOf (L.take i) ++ encL L[i] := by rw [List.take_succ_eq_append_getElem hlt', bytesOf_app, bytesOf_one]
    have hl1 : (bytesOf (L.take i)).length + (encL L[i]).length ≤ 4000 := by
      have e1 : (bytesOf (L.take i)).length = endAt L i := rfl
      omega
    generalize hpost : bytesOf (L.take (i + 1)) = post at *
    generalize bytesOf (L.take i) = pre at *
    generalize L[i] = r at *
    refine e_skip ?_
    refine e_seq ?_
    refine e_block ?_
    refine e_region ?_
    refine w_val (v_move rfl) rfl ?_
    refine w_val (v_move rfl) rfl ?_
    refine w_val (v_nilCheck rfl) rfl ?_
    refine w_val (v_fieldAddrB (o := 0) Try.underlying95 rfl rfl Try.nz93 rfl) rfl ?_
    refine w_val (v_loadO Try.underlying93 rfl rfl (h0)) rfl ?_
    refine w_val (v_move rfl) rfl ?_
    refine w_val (v_indexS Try.underlying93 Try.hi38 Try.cz38 rfl rfl (by first | omega | decide)) rfl ?_
    refine w_val (v_loadO Try.underlying38 rfl rfl (hcell)) rfl ?_
    refine w_op rfl ?_
    refine x_call (dst := some 20) (mc := []) (σ := Value) (fun _ => True) (fun sl => sl) (fun sl => [Own sl 5 1 (encL r).length (byteCells (encL r))]) rfl rfl rfl Try.call108 (fun w hw => bytesOf_spec _ r w (hround.mono hw.off) hokr hall.2) rfl (fun v20 _ => ?_)
    refine w_op rfl ?_
    refine x_appendI (z := .int .u8 0) (n := pre.length) (xs := byteCells pre) (size := 1) (bytes := 1) (k := (encL r).length) (news := byteCells (encL r)) 1 rfl rfl rfl Try.underlying110 (by kernel_rfl) rfl (by decide) (fun w hw => own_rds (hw.mem (i := 0) rfl)) (one_byteCells _) (by omega) (by simp only [maxLen]; omega) rfl (fun v21 => ?_)
    refine w_val (v_assign rfl) rfl ?_
    refine w_nil ?_
    refine e_blk ?_
    refine e_region ?_
    refine w_val (v_move rfl) rfl ?_
    refine w_val (v_add rfl rfl (by omega)) rfl ?_
    refine w_val (v_assign rfl) rfl ?_
    refine w_nil ?_
    refine e_round ((i + 1, v21)) (by dsimp only; omega) (by dsimp only; omega) (by repeat (first | exact Sub.nil _ | refine Sub.cons rfl ?_)) (fun _ hw => ?_)
    dsimp only
    rw [hpost, hnext, byteCells_app, List.length_append]
    simp only [List.cons_append, List.nil_append, List.set_cons_zero, List.set_cons_succ] at hw
    exact hw.sub (.cons _ (List.Sublist.refl _))
  · obtain rfl : i = n := by omega
    refine e_exit rfl ?_
    refine e_seq ?_
    refine e_region ?_
    refine w_val (v_move rfl) rfl ?_
    refine w_val (v_assign rfl) rfl ?_
    refine w_nil ?_
    refine e_retQ (q_ret1 rfl (.tmp rfl) ?_)
    exact fun w' hw' => ⟨v5, trivial, rfl, hw'.res⟩
theorem own_shape {P : Program} {f : FuncId} {args : Array Value} {w : World} {e n : Nat} {xs : List Value} (h : Calls P f args w fun en w' => ∃ sl, True ∧ en = .returned sl ∧ Res w [] [Own sl e 1 n xs] w') :
    Calls P f args w fun en w' => ∃ s : Option Addr × Nat, True ∧ en = .returned (.slice s.1 n s.2) ∧ Res w [] [Own (.slice s.1 n s.2) e 1 n xs] w' := by
  refine h.mono ?_
  rintro en w' ⟨sl, _, rfl, hr⟩
  obtain ⟨A, k, rfl, _⟩ := own_rds (hr.hold _ (List.mem_singleton.2 rfl))
  exact ⟨(A, k), trivial, rfl, hr⟩
theorem refOwn_spec' (v : Value) (r : RoundL) (w : World) (h : IsRound w.cell? v r) (hr60 : r.length ≤ 60) (hb : ∀ d ∈ r, d.length ≤ 500) : Calls Try.prog 28 #[v] w
    fun e w' => ∃ s : Option Addr × Nat × (Nat → Prop), True ∧ e = .returned (.slice s.1 r.length s.2.1) ∧ Res w [] [Keep s.2.2 (fun c => IsRound c (.slice s.1 r.length s.2.1) r)] w' := by
  refine (refOwn_spec v r w h hr60 hb).mono ?_
  rintro e w' ⟨⟨sl, G⟩, _, rfl, hr⟩
  obtain ⟨A, k, hsl⟩ := keep_shape (hr.hold _ (List.mem_singleton.2 rfl))
  dsimp only at hsl hr ⊢
  subst hsl
  exact ⟨(A, k, G), trivial, rfl, hr⟩
end Go.SL
end
section

open Go Go.Proofs Go.SL
set_option maxRecDepth 100000
namespace Go.SL
end Go.SL
end
section

open Go Go.Proofs Go.SL
set_option maxRecDepth 100000
namespace Go.SL
end Go.SL
end
section

open Go Go.Proofs Go.SL
set_option maxRecDepth 100000
namespace Go.SL
-- left out: caracole/caracolelaw.greatLog
end Go.SL
end
