/- Ytebdkaadbakhlaa: part S7 of this seat's own texts. -/
import Derived.Test.YtebdkaadbakhlaaS6
import Derived.Test.YtebdkaadbakhlaaEqu
set_option linter.unusedVariables false
set_option linter.unusedSimpArgs false
open Go Go.Proofs Go.SL
set_option maxRecDepth 100000
namespace Go.SL
theorem st_len_step (ar : Int → Int → Int → Int) {o : OpL} {g s g' s' : List Int} {j : Nat} (h : stepL ar o g s = some (g', s', j)) : g'.length = g.length ∧ s'.length = s.length := by
  unfold stepL at h
  repeat' split at h
  all_goals first
    | cases h; done
    | (simp only [Option.some.injEq, Prod.mk.injEq] at h; obtain ⟨rfl, rfl, _⟩ := h; simp [st])
theorem runF_len (ar : Int → Int → Int → Int) : ∀ (n : Nat) (d : DeedL) (g s : List Int), (runF ar n d g s).2.1.length = g.length ∧ (runF ar n d g s).2.2.length = s.length
  | 0, _, _, _ => ⟨rfl, rfl⟩
  | _ + 1, [], _, _ => ⟨rfl, rfl⟩
  | n + 1, o :: rest, g, s => by
    simp only [runF]
    split
    · exact ⟨rfl, rfl⟩
    · rename_i g' s' k h
      have h1 := st_len_step ar h
      have h2 := runF_len ar n (rest.drop k) g' s'
      exact ⟨h2.1.trans h1.1, h2.2.trans h1.2⟩
theorem gt_st_ne {l : List Int} {i k x : Int} (h : i.toNat ≠ k.toNat) : gt (st l i x) k = gt l k := by
  simp [gt, st, List.getD, List.getElem?_set, h]
theorem step_keeps (ar : Int → Int → Int → Int) {o : OpL} {g s g' s' : List Int} {j : Nat} {k : Int} (h : stepL ar o g s = some (g', s', j)) (hk : ¬ (o.kind = 7 ∧ o.a = k)) (hk0 : 0 ≤ k) (ha : 0 ≤ o.a) : gt s' k = gt s k := by
  unfold stepL at h
  repeat' split at h
  all_goals first
    | cases h; done
    | (simp only [Option.some.injEq, Prod.mk.injEq] at h; obtain ⟨_, rfl, _⟩ := h; rfl)
    | (rename_i h7; simp only [Option.some.injEq, Prod.mk.injEq] at h; obtain ⟨_, rfl, _⟩ := h; exact gt_st_ne (by omega))
theorem runF_keeps (ar : Int → Int → Int → Int) {k : Int} (hk0 : 0 ≤ k) : ∀ (n : Nat) (d : DeedL) (g s : List Int), (∀ o ∈ d, 0 ≤ o.a ∧ ¬ (o.kind = 7 ∧ o.a = k)) → gt (runF ar n d g s).2.2 k = gt s k
  | 0, _, _, _, _ => rfl
  | _ + 1, [], _, _, _ => rfl
  | n + 1, o :: rest, g, s, hd => by
    simp only [runF]
    split
    · rfl
    · rename_i g' s' j h
      have h1 := hd o (by simp)
      rw [runF_keeps ar hk0 n (rest.drop j) g' s' (fun o ho => hd o (by simp [List.mem_of_mem_drop ho])), step_keeps ar h h1.2 hk0 h1.1]
theorem rng_a {o : OpL} (h : opFaultL o = 0) : 0 ≤ o.a := by
  rcases rng_all h with ⟨_, ha⟩ | ⟨_, ha⟩ | ⟨_, ha, _⟩ | ⟨_, ha, _⟩ | ⟨_, ha, _⟩ | ⟨_, ha, _⟩ <;> omega
theorem storesL_false_mem {d : DeedL} {k : Int} (h : storesL d k = false) : ∀ o ∈ d, ¬ (o.kind = 7 ∧ o.a = k) := by
  intro o ho
  simp only [storesL, List.any_eq_false] at h
  simpa using h o ho
/-- what a deed does not store to stays -/
theorem serDo_keeps {s : List Int} {d : DeedL} {k : Int} (hk0 : 0 ≤ k) (hc : (serDoL s d).2.2.2 = 0) (hs : storesL d k = false) : gt (serDoL s d).1 k = gt s k := by
  by_cases hck : (checkL d).1 ≠ 0
  · simp only [serDoL, if_pos hck] at hc
    exact absurd hc hck
  · have hck' : (checkL d).1 = 0 := by omega
    obtain ⟨_, hchk⟩ := checked hck'
    simp only [serDoL, if_neg hck, doL]
    split
    · rfl
    · exact runF_keeps _ hk0 _ _ _ _ (fun o ho => by
        obtain ⟨i, hi, rfl⟩ := List.mem_iff_getElem.1 ho
        exact ⟨rng_a (hchk i hi).1, storesL_false_mem hs _ ho⟩)
theorem serDo_len {s : List Int} {d : DeedL} (hs : s.length = 10) : (serDoL s d).1.length = 10 ∧ (serDoL s d).2.2.1.length = 4 := by
  have h : (runL arithL d zero4 s).2.1.length = 4 ∧ (runL arithL d zero4 s).2.2.length = s.length := runF_len arithL d.length d zero4 s
  unfold serDoL
  split
  · exact ⟨rfl, rfl⟩
  · simp only [doL]
    generalize runL arithL d zero4 s = R at h
    by_cases hb : R.1 = true
    · rw [if_pos hb]; exact ⟨hs, h.1⟩
    · rw [if_neg hb]; exact ⟨h.2.trans hs, h.1⟩
theorem serDo_code {s : List Int} {d : DeedL} (hc : (serDoL s d).2.2.2 = 0) : ((serDoL s d).2.1 = 9 ∧ (serDoL s d).1 = s) ∨ (serDoL s d).2.1 = 0 := by
  by_cases hck : (checkL d).1 ≠ 0
  · simp only [serDoL, if_pos hck] at hc
    exact absurd hc hck
  · simp only [serDoL, if_neg hck, doL]
    split
    · exact .inl ⟨rfl, rfl⟩
    · exact .inr rfl
theorem gt_ne_iff {a b : List Int} {k : Int} : decide (gt a k ≠ gt b k) = true ↔ gt a k ≠ gt b k := by simp
theorem SerialStops_spec (s : List Int) (v : Value) (d : DeedL) (w : World) (h : IsDeed w.cell? v d) (hs : s.length = 10) : Calls Try.prog 3 #[intsV s, v] w
    fun e w' => e = .returned (.bool true) ∧ Res w [] [] w' := by
  have hd := h
  rw [← off_none w] at h hd
  obtain ⟨A, kp, rfl, hle, hc⟩ := h.form
  refine enter0 (N := 49) Try.func3 rfl rfl rfl ?_
  refine e_seq ?_
  refine e_region ?_
  refine w_op rfl ?_
  refine x_box rfl rfl (fun b2 => ?_)
  refine w_val (v_assign rfl) rfl ?_
  refine w_nil ?_
  refine e_seq ?_
  refine e_seq ?_
  refine e_region ?_
  refine w_op rfl ?_
  refine x_call0 (v := .bool true) rfl rfl rfl Try.call14 rfl (fun w hw => serialBegun_spec w) ?_
  refine w_val (v_not rfl) rfl ?_
  refine w_nil ?_
  refine e_condF rfl ?_
  refine e_skip ?_
  refine e_seq ?_
  refine e_seq ?_
  refine e_region ?_
  refine w_val (v_move rfl) rfl ?_
  refine w_val (v_lenS Try.underlying25 rfl) rfl ?_
  refine w_val (v_gtr rfl rfl) rfl ?_
  refine w_nil ?_
  refine e_condD rfl (fun h200 => ?_) (fun h200 => ?_)
  · refine e_seq ?_
    refine e_region ?_
    refine w_val (v_assign rfl) rfl ?_
    refine w_nil ?_
    refine e_retQ (q_ret1 rfl (.tmp rfl) ?_)
    exact fun w' hw' => ⟨rfl, hw'.res.nil⟩
  · obtain ⟨hx10, hr4⟩ := serDo_len (d := d) hs
    have hcode := serDo_code (s := s) (d := d)
    have hkeep := fun k hk0 hc => serDo_keeps (s := s) (d := d) (k := k) hk0 hc
    refine e_skip ?_
    refine e_seq ?_
    refine e_region ?_
    first | refine w_val (v_loadBA 0 rfl Try.underlying23 rfl Try.hi23 Try.cz23 rfl) rfl ?_ | refine w_val (v_loadBA 1 rfl Try.underlying23 rfl Try.hi23 Try.cz23 rfl) rfl ?_ | refine w_val (v_loadBA 2 rfl Try.underlying23 rfl Try.hi23 Try.cz23 rfl) rfl ?_ | refine w_val (v_loadBA 3 rfl Try.underlying23 rfl Try.hi23 Try.cz23 rfl) rfl ?_ | refine w_val (v_loadBA 4 rfl Try.underlying23 rfl Try.hi23 Try.cz23 rfl) rfl ?_ | refine w_val (v_loadBA 5 rfl Try.underlying23 rfl Try.hi23 Try.cz23 rfl) rfl ?_ | refine w_val (v_loadBA 6 rfl Try.underlying23 rfl Try.hi23 Try.cz23 rfl) rfl ?_ | refine w_val (v_loadBA 7 rfl Try.underlying23 rfl Try.hi23 Try.cz23 rfl) rfl ?_ | refine w_val (v_loadBA 0 rfl Try.underlying23 rfl Try.hi23 (Try.cz23.trans (by simp [Value.cells, intsV, resCells, intCells, hs])) rfl) rfl ?_ | refine w_val (v_loadBA 1 rfl Try.underlying23 rfl Try.hi23 (Try.cz23.trans (by simp [Value.cells, intsV, resCells, intCells, hs])) rfl) rfl ?_ | refine w_val (v_loadBA 2 rfl Try.underlying23 rfl Try.hi23 (Try.cz23.trans (by simp [Value.cells, intsV, resCells, intCells, hs])) rfl) rfl ?_ | refine w_val (v_loadBA 3 rfl Try.underlying23 rfl Try.hi23 (Try.cz23.trans (by simp [Value.cells, intsV, resCells, intCells, hs])) rfl) rfl ?_ | refine w_val (v_loadBA 4 rfl Try.underlying23 rfl Try.hi23 (Try.cz23.trans (by simp [Value.cells, intsV, resCells, intCells, hs])) rfl) rfl ?_ | refine w_val (v_loadBA 5 rfl Try.underlying23 rfl Try.hi23 (Try.cz23.trans (by simp [Value.cells, intsV, resCells, intCells, hs])) rfl) rfl ?_ | refine w_val (v_loadBA 6 rfl Try.underlying23 rfl Try.hi23 (Try.cz23.trans (by simp [Value.cells, intsV, resCells, intCells, hs])) rfl) rfl ?_ | refine w_val (v_loadBA 7 rfl Try.underlying23 rfl Try.hi23 (Try.cz23.trans (by simp [Value.cells, intsV, resCells, intCells, hs])) rfl) rfl ?_ | refine w_val (v_loadBN 0 rfl Try.underlying23 rfl Try.hi23 Try.cz23 rfl rfl rfl) rfl ?_ | refine w_val (v_loadBN 1 rfl Try.underlying23 rfl Try.hi23 Try.cz23 rfl rfl rfl) rfl ?_ | refine w_val (v_loadBN 2 rfl Try.underlying23 rfl Try.hi23 Try.cz23 rfl rfl rfl) rfl ?_ | refine w_val (v_loadBN 3 rfl Try.underlying23 rfl Try.hi23 Try.cz23 rfl rfl rfl) rfl ?_ | refine w_val (v_loadBN 4 rfl Try.underlying23 rfl Try.hi23 Try.cz23 rfl rfl rfl) rfl ?_ | refine w_val (v_loadBN 5 rfl Try.underlying23 rfl Try.hi23 Try.cz23 rfl rfl rfl) rfl ?_ | refine w_val (v_loadBN 6 rfl Try.underlying23 rfl Try.hi23 Try.cz23 rfl rfl rfl) rfl ?_ | refine w_val (v_loadBN 7 rfl Try.underlying23 rfl Try.hi23 Try.cz23 rfl rfl rfl) rfl ?_
    refine w_val (v_move rfl) rfl ?_
    refine w_op rfl ?_
    refine x_call0 (v := serDoV (serDoL s d)) rfl rfl rfl Try.call15 rfl (fun w hw => serialDo_spec s _ d w (hd.mono hw.off) hs) ?_
    generalize serDoL s d = r at *
    obtain ⟨x, c, g, f⟩ := r
    dsimp only at hx10 hr4 hcode hkeep
    dsimp only [serDoV]
    have hx9 : f = 0 → c = 9 → x = s := fun h1 h2 => by rcases hcode h1 with h3 | h3; exact h3.2; omega
    refine w_val (v_move rfl) rfl ?_
    refine w_val (v_extract rfl rfl) rfl ?_
    refine w_val (v_extract rfl rfl) rfl ?_
    refine w_val (v_extract rfl rfl) rfl ?_
    refine w_op rfl ?_
    refine x_alloc (z := .agg #[.int .i64 0, .int .i64 0, .int .i64 0, .int .i64 0, .int .i64 0, .int .i64 0, .int .i64 0, .int .i64 0, .int .i64 0, .int .i64 0]) (by intro w; exact Try.zeroValue23 w) rfl (fun b5 => ?_)
    refine w_op rfl ?_
    refine x_alloc (z := .agg #[.int .i64 0, .int .i64 0, .int .i64 0, .int .i64 0, .int .i64 0]) (by intro w; exact Try.zeroValue30 w) rfl (fun b6 => ?_)
    refine w_op rfl ?_
    first | refine x_storeA 0 rfl rfl rfl Try.hi23 (Try.cz23.trans (by simp [Value.cells, intsV, resCells, intCells, hs, hx10, hr4])) (by simp [Value.cells, intsV, resCells, intCells, hs, hx10, hr4]) (by first | exact one_intCells _ | exact one_resCells _ _) ?_ | refine x_storeA 1 rfl rfl rfl Try.hi23 (Try.cz23.trans (by simp [Value.cells, intsV, resCells, intCells, hs, hx10, hr4])) (by simp [Value.cells, intsV, resCells, intCells, hs, hx10, hr4]) (by first | exact one_intCells _ | exact one_resCells _ _) ?_ | refine x_storeA 2 rfl rfl rfl Try.hi23 (Try.cz23.trans (by simp [Value.cells, intsV, resCells, intCells, hs, hx10, hr4])) (by simp [Value.cells, intsV, resCells, intCells, hs, hx10, hr4]) (by first | exact one_intCells _ | exact one_resCells _ _) ?_ | refine x_storeA 3 rfl rfl rfl Try.hi23 (Try.cz23.trans (by simp [Value.cells, intsV, resCells, intCells, hs, hx10, hr4])) (by simp [Value.cells, intsV, resCells, intCells, hs, hx10, hr4]) (by first | exact one_intCells _ | exact one_resCells _ _) ?_ | refine x_storeA 4 rfl rfl rfl Try.hi23 (Try.cz23.trans (by simp [Value.cells, intsV, resCells, intCells, hs, hx10, hr4])) (by simp [Value.cells, intsV, resCells, intCells, hs, hx10, hr4]) (by first | exact one_intCells _ | exact one_resCells _ _) ?_ | refine x_storeA 5 rfl rfl rfl Try.hi23 (Try.cz23.trans (by simp [Value.cells, intsV, resCells, intCells, hs, hx10, hr4])) (by simp [Value.cells, intsV, resCells, intCells, hs, hx10, hr4]) (by first | exact one_intCells _ | exact one_resCells _ _) ?_ | refine x_storeA 6 rfl rfl rfl Try.hi23 (Try.cz23.trans (by simp [Value.cells, intsV, resCells, intCells, hs, hx10, hr4])) (by simp [Value.cells, intsV, resCells, intCells, hs, hx10, hr4]) (by first | exact one_intCells _ | exact one_resCells _ _) ?_ | refine x_storeA 7 rfl rfl rfl Try.hi23 (Try.cz23.trans (by simp [Value.cells, intsV, resCells, intCells, hs, hx10, hr4])) (by simp [Value.cells, intsV, resCells, intCells, hs, hx10, hr4]) (by first | exact one_intCells _ | exact one_resCells _ _) ?_ | refine x_storeA 0 rfl rfl rfl Try.hi23 Try.cz23 rfl (by first | (simp [Value.oneCell', opCells]; done) | assumption | exact one_ints _ | exact one_resCells _ _) ?_ | refine x_storeA 1 rfl rfl rfl Try.hi23 Try.cz23 rfl (by first | (simp [Value.oneCell', opCells]; done) | assumption | exact one_ints _ | exact one_resCells _ _) ?_ | refine x_storeA 2 rfl rfl rfl Try.hi23 Try.cz23 rfl (by first | (simp [Value.oneCell', opCells]; done) | assumption | exact one_ints _ | exact one_resCells _ _) ?_ | refine x_storeA 3 rfl rfl rfl Try.hi23 Try.cz23 rfl (by first | (simp [Value.oneCell', opCells]; done) | assumption | exact one_ints _ | exact one_resCells _ _) ?_ | refine x_storeA 4 rfl rfl rfl Try.hi23 Try.cz23 rfl (by first | (simp [Value.oneCell', opCells]; done) | assumption | exact one_ints _ | exact one_resCells _ _) ?_ | refine x_storeA 5 rfl rfl rfl Try.hi23 Try.cz23 rfl (by first | (simp [Value.oneCell', opCells]; done) | assumption | exact one_ints _ | exact one_resCells _ _) ?_ | refine x_storeA 6 rfl rfl rfl Try.hi23 Try.cz23 rfl (by first | (simp [Value.oneCell', opCells]; done) | assumption | exact one_ints _ | exact one_resCells _ _) ?_ | refine x_storeA 7 rfl rfl rfl Try.hi23 Try.cz23 rfl (by first | (simp [Value.oneCell', opCells]; done) | assumption | exact one_ints _ | exact one_resCells _ _) ?_
    refine w_op rfl ?_
    first | refine x_storeA 0 rfl rfl rfl Try.hi30 (Try.cz30.trans (by simp [Value.cells, intsV, resCells, intCells, hs, hx10, hr4])) (by simp [Value.cells, intsV, resCells, intCells, hs, hx10, hr4]) (by first | exact one_intCells _ | exact one_resCells _ _) ?_ | refine x_storeA 1 rfl rfl rfl Try.hi30 (Try.cz30.trans (by simp [Value.cells, intsV, resCells, intCells, hs, hx10, hr4])) (by simp [Value.cells, intsV, resCells, intCells, hs, hx10, hr4]) (by first | exact one_intCells _ | exact one_resCells _ _) ?_ | refine x_storeA 2 rfl rfl rfl Try.hi30 (Try.cz30.trans (by simp [Value.cells, intsV, resCells, intCells, hs, hx10, hr4])) (by simp [Value.cells, intsV, resCells, intCells, hs, hx10, hr4]) (by first | exact one_intCells _ | exact one_resCells _ _) ?_ | refine x_storeA 3 rfl rfl rfl Try.hi30 (Try.cz30.trans (by simp [Value.cells, intsV, resCells, intCells, hs, hx10, hr4])) (by simp [Value.cells, intsV, resCells, intCells, hs, hx10, hr4]) (by first | exact one_intCells _ | exact one_resCells _ _) ?_ | refine x_storeA 4 rfl rfl rfl Try.hi30 (Try.cz30.trans (by simp [Value.cells, intsV, resCells, intCells, hs, hx10, hr4])) (by simp [Value.cells, intsV, resCells, intCells, hs, hx10, hr4]) (by first | exact one_intCells _ | exact one_resCells _ _) ?_ | refine x_storeA 5 rfl rfl rfl Try.hi30 (Try.cz30.trans (by simp [Value.cells, intsV, resCells, intCells, hs, hx10, hr4])) (by simp [Value.cells, intsV, resCells, intCells, hs, hx10, hr4]) (by first | exact one_intCells _ | exact one_resCells _ _) ?_ | refine x_storeA 6 rfl rfl rfl Try.hi30 (Try.cz30.trans (by simp [Value.cells, intsV, resCells, intCells, hs, hx10, hr4])) (by simp [Value.cells, intsV, resCells, intCells, hs, hx10, hr4]) (by first | exact one_intCells _ | exact one_resCells _ _) ?_ | refine x_storeA 7 rfl rfl rfl Try.hi30 (Try.cz30.trans (by simp [Value.cells, intsV, resCells, intCells, hs, hx10, hr4])) (by simp [Value.cells, intsV, resCells, intCells, hs, hx10, hr4]) (by first | exact one_intCells _ | exact one_resCells _ _) ?_ | refine x_storeA 0 rfl rfl rfl Try.hi30 Try.cz30 rfl (by first | (simp [Value.oneCell', opCells]; done) | assumption | exact one_ints _ | exact one_resCells _ _) ?_ | refine x_storeA 1 rfl rfl rfl Try.hi30 Try.cz30 rfl (by first | (simp [Value.oneCell', opCells]; done) | assumption | exact one_ints _ | exact one_resCells _ _) ?_ | refine x_storeA 2 rfl rfl rfl Try.hi30 Try.cz30 rfl (by first | (simp [Value.oneCell', opCells]; done) | assumption | exact one_ints _ | exact one_resCells _ _) ?_ | refine x_storeA 3 rfl rfl rfl Try.hi30 Try.cz30 rfl (by first | (simp [Value.oneCell', opCells]; done) | assumption | exact one_ints _ | exact one_resCells _ _) ?_ | refine x_storeA 4 rfl rfl rfl Try.hi30 Try.cz30 rfl (by first | (simp [Value.oneCell', opCells]; done) | assumption | exact one_ints _ | exact one_resCells _ _) ?_ | refine x_storeA 5 rfl rfl rfl Try.hi30 Try.cz30 rfl (by first | (simp [Value.oneCell', opCells]; done) | assumption | exact one_ints _ | exact one_resCells _ _) ?_ | refine x_storeA 6 rfl rfl rfl Try.hi30 Try.cz30 rfl (by first | (simp [Value.oneCell', opCells]; done) | assumption | exact one_ints _ | exact one_resCells _ _) ?_ | refine x_storeA 7 rfl rfl rfl Try.hi30 Try.cz30 rfl (by first | (simp [Value.oneCell', opCells]; done) | assumption | exact one_ints _ | exact one_resCells _ _) ?_
    refine w_val (v_assign rfl) rfl ?_
    refine w_nil ?_
    refine e_seq ?_
    refine e_seq ?_
    refine e_region ?_
    refine w_val (v_move rfl) rfl ?_
    refine w_val (v_neq rfl rfl) rfl ?_
    refine w_nil ?_
    refine e_condD rfl (fun hf => ?_) (fun hf => ?_)
    · refine e_seq ?_
      refine e_region ?_
      refine w_val (v_assign rfl) rfl ?_
      refine w_nil ?_
      refine e_retQ (q_ret1 rfl (.tmp rfl) ?_)
      exact fun w' hw' => ⟨rfl, hw'.res.nil⟩
    · refine e_skip ?_
      refine e_seq ?_
      refine e_seq ?_
      refine e_region ?_
      first | refine w_val (v_fieldAddrB (o := 0) Try.underlying30 rfl rfl Try.nz3 rfl) rfl ?_ | refine w_val (v_fieldAddr (o := 0) Try.underlying30 rfl rfl Try.nz3 rfl) rfl ?_
      first | refine w_val (v_loadB 0 rfl Try.underlying3 rfl rfl rfl) rfl ?_ | refine w_val (v_loadB 1 rfl Try.underlying3 rfl rfl rfl) rfl ?_ | refine w_val (v_loadB 2 rfl Try.underlying3 rfl rfl rfl) rfl ?_ | refine w_val (v_loadB 3 rfl Try.underlying3 rfl rfl rfl) rfl ?_ | refine w_val (v_loadB 4 rfl Try.underlying3 rfl rfl rfl) rfl ?_ | refine w_val (v_loadB 5 rfl Try.underlying3 rfl rfl rfl) rfl ?_ | refine w_val (v_loadB 6 rfl Try.underlying3 rfl rfl rfl) rfl ?_ | refine w_val (v_loadB 7 rfl Try.underlying3 rfl rfl rfl) rfl ?_
      refine w_val (v_eql rfl rfl) rfl ?_
      refine w_nil ?_
      refine e_condD rfl (fun h9 => ?_) (fun h9 => ?_)
      · refine e_seq ?_
        refine e_region ?_
        first | refine w_val (v_loadBA 0 rfl Try.underlying23 rfl Try.hi23 Try.cz23 rfl) rfl ?_ | refine w_val (v_loadBA 1 rfl Try.underlying23 rfl Try.hi23 Try.cz23 rfl) rfl ?_ | refine w_val (v_loadBA 2 rfl Try.underlying23 rfl Try.hi23 Try.cz23 rfl) rfl ?_ | refine w_val (v_loadBA 3 rfl Try.underlying23 rfl Try.hi23 Try.cz23 rfl) rfl ?_ | refine w_val (v_loadBA 4 rfl Try.underlying23 rfl Try.hi23 Try.cz23 rfl) rfl ?_ | refine w_val (v_loadBA 5 rfl Try.underlying23 rfl Try.hi23 Try.cz23 rfl) rfl ?_ | refine w_val (v_loadBA 6 rfl Try.underlying23 rfl Try.hi23 Try.cz23 rfl) rfl ?_ | refine w_val (v_loadBA 7 rfl Try.underlying23 rfl Try.hi23 Try.cz23 rfl) rfl ?_ | refine w_val (v_loadBA 0 rfl Try.underlying23 rfl Try.hi23 (Try.cz23.trans (by simp [Value.cells, intsV, resCells, intCells, hs, hx10, hr4])) rfl) rfl ?_ | refine w_val (v_loadBA 1 rfl Try.underlying23 rfl Try.hi23 (Try.cz23.trans (by simp [Value.cells, intsV, resCells, intCells, hs, hx10, hr4])) rfl) rfl ?_ | refine w_val (v_loadBA 2 rfl Try.underlying23 rfl Try.hi23 (Try.cz23.trans (by simp [Value.cells, intsV, resCells, intCells, hs, hx10, hr4])) rfl) rfl ?_ | refine w_val (v_loadBA 3 rfl Try.underlying23 rfl Try.hi23 (Try.cz23.trans (by simp [Value.cells, intsV, resCells, intCells, hs, hx10, hr4])) rfl) rfl ?_ | refine w_val (v_loadBA 4 rfl Try.underlying23 rfl Try.hi23 (Try.cz23.trans (by simp [Value.cells, intsV, resCells, intCells, hs, hx10, hr4])) rfl) rfl ?_ | refine w_val (v_loadBA 5 rfl Try.underlying23 rfl Try.hi23 (Try.cz23.trans (by simp [Value.cells, intsV, resCells, intCells, hs, hx10, hr4])) rfl) rfl ?_ | refine w_val (v_loadBA 6 rfl Try.underlying23 rfl Try.hi23 (Try.cz23.trans (by simp [Value.cells, intsV, resCells, intCells, hs, hx10, hr4])) rfl) rfl ?_ | refine w_val (v_loadBA 7 rfl Try.underlying23 rfl Try.hi23 (Try.cz23.trans (by simp [Value.cells, intsV, resCells, intCells, hs, hx10, hr4])) rfl) rfl ?_ | refine w_val (v_loadBN 0 rfl Try.underlying23 rfl Try.hi23 Try.cz23 rfl rfl rfl) rfl ?_ | refine w_val (v_loadBN 1 rfl Try.underlying23 rfl Try.hi23 Try.cz23 rfl rfl rfl) rfl ?_ | refine w_val (v_loadBN 2 rfl Try.underlying23 rfl Try.hi23 Try.cz23 rfl rfl rfl) rfl ?_ | refine w_val (v_loadBN 3 rfl Try.underlying23 rfl Try.hi23 Try.cz23 rfl rfl rfl) rfl ?_ | refine w_val (v_loadBN 4 rfl Try.underlying23 rfl Try.hi23 Try.cz23 rfl rfl rfl) rfl ?_ | refine w_val (v_loadBN 5 rfl Try.underlying23 rfl Try.hi23 Try.cz23 rfl rfl rfl) rfl ?_ | refine w_val (v_loadBN 6 rfl Try.underlying23 rfl Try.hi23 Try.cz23 rfl rfl rfl) rfl ?_ | refine w_val (v_loadBN 7 rfl Try.underlying23 rfl Try.hi23 Try.cz23 rfl rfl rfl) rfl ?_
        first | refine w_val (v_loadBA 0 rfl Try.underlying23 rfl Try.hi23 Try.cz23 rfl) rfl ?_ | refine w_val (v_loadBA 1 rfl Try.underlying23 rfl Try.hi23 Try.cz23 rfl) rfl ?_ | refine w_val (v_loadBA 2 rfl Try.underlying23 rfl Try.hi23 Try.cz23 rfl) rfl ?_ | refine w_val (v_loadBA 3 rfl Try.underlying23 rfl Try.hi23 Try.cz23 rfl) rfl ?_ | refine w_val (v_loadBA 4 rfl Try.underlying23 rfl Try.hi23 Try.cz23 rfl) rfl ?_ | refine w_val (v_loadBA 5 rfl Try.underlying23 rfl Try.hi23 Try.cz23 rfl) rfl ?_ | refine w_val (v_loadBA 6 rfl Try.underlying23 rfl Try.hi23 Try.cz23 rfl) rfl ?_ | refine w_val (v_loadBA 7 rfl Try.underlying23 rfl Try.hi23 Try.cz23 rfl) rfl ?_ | refine w_val (v_loadBA 0 rfl Try.underlying23 rfl Try.hi23 (Try.cz23.trans (by simp [Value.cells, intsV, resCells, intCells, hs, hx10, hr4])) rfl) rfl ?_ | refine w_val (v_loadBA 1 rfl Try.underlying23 rfl Try.hi23 (Try.cz23.trans (by simp [Value.cells, intsV, resCells, intCells, hs, hx10, hr4])) rfl) rfl ?_ | refine w_val (v_loadBA 2 rfl Try.underlying23 rfl Try.hi23 (Try.cz23.trans (by simp [Value.cells, intsV, resCells, intCells, hs, hx10, hr4])) rfl) rfl ?_ | refine w_val (v_loadBA 3 rfl Try.underlying23 rfl Try.hi23 (Try.cz23.trans (by simp [Value.cells, intsV, resCells, intCells, hs, hx10, hr4])) rfl) rfl ?_ | refine w_val (v_loadBA 4 rfl Try.underlying23 rfl Try.hi23 (Try.cz23.trans (by simp [Value.cells, intsV, resCells, intCells, hs, hx10, hr4])) rfl) rfl ?_ | refine w_val (v_loadBA 5 rfl Try.underlying23 rfl Try.hi23 (Try.cz23.trans (by simp [Value.cells, intsV, resCells, intCells, hs, hx10, hr4])) rfl) rfl ?_ | refine w_val (v_loadBA 6 rfl Try.underlying23 rfl Try.hi23 (Try.cz23.trans (by simp [Value.cells, intsV, resCells, intCells, hs, hx10, hr4])) rfl) rfl ?_ | refine w_val (v_loadBA 7 rfl Try.underlying23 rfl Try.hi23 (Try.cz23.trans (by simp [Value.cells, intsV, resCells, intCells, hs, hx10, hr4])) rfl) rfl ?_ | refine w_val (v_loadBN 0 rfl Try.underlying23 rfl Try.hi23 Try.cz23 rfl rfl rfl) rfl ?_ | refine w_val (v_loadBN 1 rfl Try.underlying23 rfl Try.hi23 Try.cz23 rfl rfl rfl) rfl ?_ | refine w_val (v_loadBN 2 rfl Try.underlying23 rfl Try.hi23 Try.cz23 rfl rfl rfl) rfl ?_ | refine w_val (v_loadBN 3 rfl Try.underlying23 rfl Try.hi23 Try.cz23 rfl rfl rfl) rfl ?_ | refine w_val (v_loadBN 4 rfl Try.underlying23 rfl Try.hi23 Try.cz23 rfl rfl rfl) rfl ?_ | refine w_val (v_loadBN 5 rfl Try.underlying23 rfl Try.hi23 Try.cz23 rfl rfl rfl) rfl ?_ | refine w_val (v_loadBN 6 rfl Try.underlying23 rfl Try.hi23 Try.cz23 rfl rfl rfl) rfl ?_ | refine w_val (v_loadBN 7 rfl Try.underlying23 rfl Try.hi23 Try.cz23 rfl rfl rfl) rfl ?_
        refine w_val (v_eqlInts Try.underlying23 (by kernel_rfl) Try.underlying2 Try.hi2 Try.cz2 (by first | rfl | assumption | (simp; omega)) (by first | rfl | assumption | (simp; omega)) rfl rfl) rfl ?_
        refine w_val (v_assign rfl) rfl ?_
        refine w_nil ?_
        refine e_retQ (q_ret1 rfl (.tmp rfl) ?_)
        exact fun w' hw' => ⟨by simp [hx9 (by omega) h9], hw'.res.nil⟩
      · refine e_skip ?_
        refine e_seq ?_
        refine e_seq ?_
        refine e_region ?_
        first | refine w_val (v_fieldAddrB (o := 0) Try.underlying30 rfl rfl Try.nz3 rfl) rfl ?_ | refine w_val (v_fieldAddr (o := 0) Try.underlying30 rfl rfl Try.nz3 rfl) rfl ?_
        first | refine w_val (v_loadB 0 rfl Try.underlying3 rfl rfl rfl) rfl ?_ | refine w_val (v_loadB 1 rfl Try.underlying3 rfl rfl rfl) rfl ?_ | refine w_val (v_loadB 2 rfl Try.underlying3 rfl rfl rfl) rfl ?_ | refine w_val (v_loadB 3 rfl Try.underlying3 rfl rfl rfl) rfl ?_ | refine w_val (v_loadB 4 rfl Try.underlying3 rfl rfl rfl) rfl ?_ | refine w_val (v_loadB 5 rfl Try.underlying3 rfl rfl rfl) rfl ?_ | refine w_val (v_loadB 6 rfl Try.underlying3 rfl rfl rfl) rfl ?_ | refine w_val (v_loadB 7 rfl Try.underlying3 rfl rfl rfl) rfl ?_
        refine w_val (v_neq rfl rfl) rfl ?_
        refine w_nil ?_
        refine e_condD rfl (fun h0 => ?_) (fun h0 => ?_)
        · refine e_seq ?_
          refine e_region ?_
          refine w_val (v_assign rfl) rfl ?_
          refine w_nil ?_
          exact absurd h0 (by rcases hcode (by omega) with h1 | h1 <;> omega)
        · refine e_skip ?_
          refine e_seq ?_
          refine e_seq ?_
          refine e_region ?_
          refine w_val (v_assign rfl) rfl ?_
          refine w_nil ?_
          refine e_block ?_
          refine e_loopK (σ := Nat) [1, 2, 5] (.cons rfl (.cons rfl (.cons rfl .nil))) (fun k => [(8, .int .i64 k)]) (fun k => k ≤ 10) (fun k => 10 - k) 0 (by decide) (by repeat (first | exact Sub.nil _ | refine Sub.cons rfl ?_)) ?_
          rintro k hk
          refine e_seq ?_
          refine e_seq ?_
          refine e_region ?_
          refine w_val (v_move rfl) rfl ?_
          refine w_val (v_lss rfl rfl) rfl ?_
          refine w_nil ?_
          refine e_condD rfl (fun hlt => ?_) (fun hlt => ?_)
          · have hkk := hkeep k (by omega) (by omega)
            by_cases hne : gt x k = gt s k
            · refine e_skip ?_
              refine e_seq ?_
              refine e_block ?_
              refine e_seq ?_
              refine e_draw ([.blk b5 23 (intCells x), .blk b2 23 (intCells s)]) Try.mixed ?_
              refine a_take 0 pan_cx (by kernel_rfl) (fun _ hw => hw.sub (by repeat (first | exact List.Sublist.slnil | exact List.Sublist.refl _ | apply List.Sublist.cons_cons | apply List.Sublist.cons))) rfl (by kernel_rfl) (by kernel_rfl) (v_move rfl) rfl ?_
              first | refine a_take 1 pan_cx (by kernel_rfl) (fun _ hw => hw.sub (by repeat (first | exact List.Sublist.slnil | exact List.Sublist.refl _ | apply List.Sublist.cons_cons | apply List.Sublist.cons))) rfl (by kernel_rfl) (by kernel_rfl) (v_indexAB Try.underlying23 Try.hi2 Try.cz2 rfl rfl (by omega)) rfl ?_ | refine a_take 1 pan_cx (by kernel_rfl) (fun _ hw => hw.sub (by repeat (first | exact List.Sublist.slnil | exact List.Sublist.refl _ | apply List.Sublist.cons_cons | apply List.Sublist.cons))) rfl (by kernel_rfl) (by kernel_rfl) (v_indexA Try.underlying23 Try.hi2 Try.cz2 rfl rfl (by omega)) rfl ?_
              refine a_take 2 pan_cx (by kernel_rfl) (fun _ hw => hw.sub (by repeat (first | exact List.Sublist.slnil | exact List.Sublist.refl _ | apply List.Sublist.cons_cons | apply List.Sublist.cons))) rfl (by kernel_rfl) (by kernel_rfl) (v_loadB 0 rfl Try.underlying2 rfl rfl (ints_at x k (by omega) (by omega))) rfl ?_
              refine a_take 3 pan_cx (by kernel_rfl) (fun _ hw => hw.sub (by repeat (first | exact List.Sublist.slnil | exact List.Sublist.refl _ | apply List.Sublist.cons_cons | apply List.Sublist.cons))) rfl (by kernel_rfl) (by kernel_rfl) (v_move rfl) rfl ?_
              first | refine a_take 4 pan_cx (by kernel_rfl) (fun _ hw => hw.sub (by repeat (first | exact List.Sublist.slnil | exact List.Sublist.refl _ | apply List.Sublist.cons_cons | apply List.Sublist.cons))) rfl (by kernel_rfl) (by kernel_rfl) (v_indexAB Try.underlying23 Try.hi2 Try.cz2 rfl rfl (by omega)) rfl ?_ | refine a_take 4 pan_cx (by kernel_rfl) (fun _ hw => hw.sub (by repeat (first | exact List.Sublist.slnil | exact List.Sublist.refl _ | apply List.Sublist.cons_cons | apply List.Sublist.cons))) rfl (by kernel_rfl) (by kernel_rfl) (v_indexA Try.underlying23 Try.hi2 Try.cz2 rfl rfl (by omega)) rfl ?_
              refine a_take 5 pan_cx (by kernel_rfl) (fun _ hw => hw.sub (by repeat (first | exact List.Sublist.slnil | exact List.Sublist.refl _ | apply List.Sublist.cons_cons | apply List.Sublist.cons))) rfl (by kernel_rfl) (by kernel_rfl) (v_loadB 1 rfl Try.underlying2 rfl rfl (ints_at s k (by omega) (by omega))) rfl ?_
              refine a_take 6 pan_cx (by kernel_rfl) (fun _ hw => hw.sub (by repeat (first | exact List.Sublist.slnil | exact List.Sublist.refl _ | apply List.Sublist.cons_cons | apply List.Sublist.cons))) rfl (by kernel_rfl) (by kernel_rfl) (v_is (v' := .bool false) (v_neq (p := gt x k) (q := gt s k) rfl rfl) (by rw [decide_eq_false (fun h => h hne)])) rfl ?_
              refine a_take 7 pan_cx (by kernel_rfl) (fun _ hw => hw.sub (by repeat (first | exact List.Sublist.slnil | exact List.Sublist.refl _ | apply List.Sublist.cons_cons | apply List.Sublist.cons))) rfl (by kernel_rfl) (by kernel_rfl) (v_move rfl) rfl ?_
              refine a_skip 8 pan_cx (by kernel_rfl) (fun _ hw => hw.sub (by repeat (first | exact List.Sublist.slnil | exact List.Sublist.refl _ | apply List.Sublist.cons_cons | apply List.Sublist.cons))) rfl (by kernel_rfl) (by kernel_rfl) rfl rfl rfl rfl ?_
              refine a_skip 9 pan_cx (by kernel_rfl) (fun _ hw => hw.sub (by repeat (first | exact List.Sublist.slnil | exact List.Sublist.refl _ | apply List.Sublist.cons_cons | apply List.Sublist.cons))) rfl (by kernel_rfl) (by kernel_rfl) rfl rfl rfl rfl ?_
              refine a_skip 10 pan_cx (by kernel_rfl) (fun _ hw => hw.sub (by repeat (first | exact List.Sublist.slnil | exact List.Sublist.refl _ | apply List.Sublist.cons_cons | apply List.Sublist.cons))) rfl (by kernel_rfl) (by kernel_rfl) rfl rfl rfl rfl ?_
              refine a_skip 11 pan_cx (by kernel_rfl) (fun _ hw => hw.sub (by repeat (first | exact List.Sublist.slnil | exact List.Sublist.refl _ | apply List.Sublist.cons_cons | apply List.Sublist.cons))) rfl (by kernel_rfl) (by kernel_rfl) rfl rfl rfl rfl ?_
              first | refine a_take 12 pan_cx (by kernel_rfl) (fun _ hw => hw.sub (by repeat (first | exact List.Sublist.slnil | exact List.Sublist.refl _ | apply List.Sublist.cons_cons | apply List.Sublist.cons))) rfl (by kernel_rfl) (by kernel_rfl) (v_pickT rfl rfl) rfl ?_ | refine a_take 12 pan_cx (by kernel_rfl) (fun _ hw => hw.sub (by repeat (first | exact List.Sublist.slnil | exact List.Sublist.refl _ | apply List.Sublist.cons_cons | apply List.Sublist.cons))) rfl (by kernel_rfl) (by kernel_rfl) (v_pickF rfl rfl) rfl ?_
              refine a_done (by kernel_rfl) ?_
              first | refine e_condDF rfl (by omega) ?_ | refine e_condF rfl ?_
              refine e_skip ?_
              refine e_blk ?_
              refine e_region ?_
              refine w_val (v_move rfl) rfl ?_
              first | refine w_val (v_add rfl rfl (by omega)) rfl ?_ | refine w_val (v_addw rfl rfl) rfl ?_
              refine w_val (v_assign rfl) rfl ?_
              refine w_nil ?_
              exact e_round (k + 1) (by omega) (by omega) (by repeat (first | exact Sub.nil _ | refine Sub.cons rfl ?_)) (fun _ hw => hw)
            · have hst : storesL d k = true := by
                cases hb : storesL d k with
                | true => rfl
                | false => exact absurd (hkk hb) hne
              refine e_skip ?_
              refine e_seq ?_
              refine e_block ?_
              refine e_seq ?_
              refine e_draw ([.blk b5 23 (intCells x), .blk b2 23 (intCells s)]) Try.mixed ?_
              refine a_take 0 pan_cx (by kernel_rfl) (fun _ hw => hw.sub (by repeat (first | exact List.Sublist.slnil | exact List.Sublist.refl _ | apply List.Sublist.cons_cons | apply List.Sublist.cons))) rfl (by kernel_rfl) (by kernel_rfl) (v_move rfl) rfl ?_
              first | refine a_take 1 pan_cx (by kernel_rfl) (fun _ hw => hw.sub (by repeat (first | exact List.Sublist.slnil | exact List.Sublist.refl _ | apply List.Sublist.cons_cons | apply List.Sublist.cons))) rfl (by kernel_rfl) (by kernel_rfl) (v_indexAB Try.underlying23 Try.hi2 Try.cz2 rfl rfl (by omega)) rfl ?_ | refine a_take 1 pan_cx (by kernel_rfl) (fun _ hw => hw.sub (by repeat (first | exact List.Sublist.slnil | exact List.Sublist.refl _ | apply List.Sublist.cons_cons | apply List.Sublist.cons))) rfl (by kernel_rfl) (by kernel_rfl) (v_indexA Try.underlying23 Try.hi2 Try.cz2 rfl rfl (by omega)) rfl ?_
              refine a_take 2 pan_cx (by kernel_rfl) (fun _ hw => hw.sub (by repeat (first | exact List.Sublist.slnil | exact List.Sublist.refl _ | apply List.Sublist.cons_cons | apply List.Sublist.cons))) rfl (by kernel_rfl) (by kernel_rfl) (v_loadB 0 rfl Try.underlying2 rfl rfl (ints_at x k (by omega) (by omega))) rfl ?_
              refine a_take 3 pan_cx (by kernel_rfl) (fun _ hw => hw.sub (by repeat (first | exact List.Sublist.slnil | exact List.Sublist.refl _ | apply List.Sublist.cons_cons | apply List.Sublist.cons))) rfl (by kernel_rfl) (by kernel_rfl) (v_move rfl) rfl ?_
              first | refine a_take 4 pan_cx (by kernel_rfl) (fun _ hw => hw.sub (by repeat (first | exact List.Sublist.slnil | exact List.Sublist.refl _ | apply List.Sublist.cons_cons | apply List.Sublist.cons))) rfl (by kernel_rfl) (by kernel_rfl) (v_indexAB Try.underlying23 Try.hi2 Try.cz2 rfl rfl (by omega)) rfl ?_ | refine a_take 4 pan_cx (by kernel_rfl) (fun _ hw => hw.sub (by repeat (first | exact List.Sublist.slnil | exact List.Sublist.refl _ | apply List.Sublist.cons_cons | apply List.Sublist.cons))) rfl (by kernel_rfl) (by kernel_rfl) (v_indexA Try.underlying23 Try.hi2 Try.cz2 rfl rfl (by omega)) rfl ?_
              refine a_take 5 pan_cx (by kernel_rfl) (fun _ hw => hw.sub (by repeat (first | exact List.Sublist.slnil | exact List.Sublist.refl _ | apply List.Sublist.cons_cons | apply List.Sublist.cons))) rfl (by kernel_rfl) (by kernel_rfl) (v_loadB 1 rfl Try.underlying2 rfl rfl (ints_at s k (by omega) (by omega))) rfl ?_
              refine a_take 6 pan_cx (by kernel_rfl) (fun _ hw => hw.sub (by repeat (first | exact List.Sublist.slnil | exact List.Sublist.refl _ | apply List.Sublist.cons_cons | apply List.Sublist.cons))) rfl (by kernel_rfl) (by kernel_rfl) (v_is (v' := .bool true) (v_neq (p := gt x k) (q := gt s k) rfl rfl) (by rw [decide_eq_true hne])) rfl ?_
              refine a_take 7 pan_cx (by kernel_rfl) (fun _ hw => hw.sub (by repeat (first | exact List.Sublist.slnil | exact List.Sublist.refl _ | apply List.Sublist.cons_cons | apply List.Sublist.cons))) rfl (by kernel_rfl) (by kernel_rfl) (v_move rfl) rfl ?_
              refine a_want 8 pan_cx (by kernel_rfl) (fun _ hw => hw.sub (by repeat (first | exact List.Sublist.slnil | exact List.Sublist.refl _ | apply List.Sublist.cons_cons | apply List.Sublist.cons))) rfl (by kernel_rfl) (by kernel_rfl) rfl rfl (v_move rfl) rfl ?_
              refine a_want 9 pan_cx (by kernel_rfl) (fun _ hw => hw.sub (by repeat (first | exact List.Sublist.slnil | exact List.Sublist.refl _ | apply List.Sublist.cons_cons | apply List.Sublist.cons))) rfl (by kernel_rfl) (by kernel_rfl) rfl rfl (v_move rfl) rfl ?_
              refine a_oneW 10 (by kernel_rfl) rfl rfl rfl ?_
              refine x_call0 (v := .bool true) rfl rfl rfl Try.call16 rfl (fun w hw => by have h := stores_spec _ d k w (hd.mono hw.off) (by omega); rw [hst] at h; exact h) ?_
              refine a_and (fun _ hw => hw.sub (by repeat (first | exact List.Sublist.slnil | exact List.Sublist.refl _ | apply List.Sublist.cons_cons | apply List.Sublist.cons))) ?_
              refine a_want 11 pan_cx (by kernel_rfl) (fun _ hw => hw.sub (by repeat (first | exact List.Sublist.slnil | exact List.Sublist.refl _ | apply List.Sublist.cons_cons | apply List.Sublist.cons))) rfl (by kernel_rfl) (by kernel_rfl) rfl rfl (v_not rfl) rfl ?_
              first | refine a_take 12 pan_cx (by kernel_rfl) (fun _ hw => hw.sub (by repeat (first | exact List.Sublist.slnil | exact List.Sublist.refl _ | apply List.Sublist.cons_cons | apply List.Sublist.cons))) rfl (by kernel_rfl) (by kernel_rfl) (v_pickT rfl rfl) rfl ?_ | refine a_take 12 pan_cx (by kernel_rfl) (fun _ hw => hw.sub (by repeat (first | exact List.Sublist.slnil | exact List.Sublist.refl _ | apply List.Sublist.cons_cons | apply List.Sublist.cons))) rfl (by kernel_rfl) (by kernel_rfl) (v_pickF rfl rfl) rfl ?_
              refine a_done (by kernel_rfl) ?_
              first | refine e_condDF rfl (by omega) ?_ | refine e_condF rfl ?_
              refine e_skip ?_
              refine e_blk ?_
              refine e_region ?_
              refine w_val (v_move rfl) rfl ?_
              first | refine w_val (v_add rfl rfl (by omega)) rfl ?_ | refine w_val (v_addw rfl rfl) rfl ?_
              refine w_val (v_assign rfl) rfl ?_
              refine w_nil ?_
              exact e_round (k + 1) (by omega) (by omega) (by repeat (first | exact Sub.nil _ | refine Sub.cons rfl ?_)) (fun _ hw => hw)
          · refine e_exit rfl ?_
            refine e_seq ?_
            refine e_region ?_
            refine w_val (v_assign rfl) rfl ?_
            refine w_nil ?_
            refine e_retQ (q_ret1 rfl (.tmp rfl) ?_)
            exact fun w' hw' => ⟨rfl, hw'.res.nil⟩
end Go.SL
