/- Ytebdkaadbakhlac: part M1 of this seat's own texts. -/
import Derived.Test.YtebdkaadbakhlacX2
import Derived.Test.YtebdkaadbakhlacX3
import Derived.Test.YtebdkaadbakhlacQ5
import Derived.Test.YtebdkaadbakhlacWA
set_option linter.unusedVariables false
set_option linter.unusedSimpArgs false

open Go Go.Proofs Go.SL
set_option maxRecDepth 100000
set_option maxHeartbeats 4000000
namespace Go.SL
/-- a store's own cells -/
def stR (pl dn : Nat) (z : List Int) (lv : Value) : List Value := ptrV pl :: .int .i64 (dn : Int) :: (intCells z ++ [lv])
section
variable {pl dn : Nat} {z : List Int} {lv : Value}
theorem stR_len (h : z.length = 10) : (stR pl dn z lv).length = 13 := by simp [stR, intCells, h]
theorem stR_st (h : z.length = 10) : ((stR pl dn z lv).drop (0 + 2)).take 10 = intCells z := by
  show (intCells z ++ [lv]).take 10 = _
  rw [List.take_left' (by simp [intCells, h])]
theorem stR_st_set (h : z.length = 10) (y : List Int) : (stR pl dn z lv).take (0 + 2) ++ intCells y ++ (stR pl dn z lv).drop (0 + 2 + 10) = stR pl dn y lv := by
  have : (stR pl dn z lv).drop (0 + 2 + 10) = [lv] := by
    show (intCells z ++ [lv]).drop 10 = _
    rw [List.drop_left' (by simp [intCells, h])]
  rw [this]
  rfl
theorem stR_last (h : z.length = 10) : (stR pl dn z lv)[0 + 12]? = some lv := by
  show (intCells z ++ [lv])[10]? = _
  rw [at_app (j := 0) (by simp [intCells, h])]; rfl
theorem stR_last_set (h : z.length = 10) (v : Value) : (stR pl dn z lv).set (0 + 12) v = stR pl dn z v := by
  show ptrV pl :: .int .i64 (dn : Int) :: ((intCells z ++ [lv]).set 10 v) = _
  rw [set_app (j := 0) (by simp [intCells, h])]; rfl
end
structure StP where
  p : Nat
  pl : Nat
  bv : Value
  ev : Value
  A : Option Addr
  kk : Nat
abbrev stB (y : StP) (q : QL) : Chunk := .blk y.p 103 (stR y.pl q.dn (stL q.L q.dn) (.slice y.A (lastL q.L q.dn).length (lastL q.L q.dn).length))
abbrev stO (y : StP) (q : QL) : Chunk := Own (.slice y.A (lastL q.L q.dn).length y.kk) 30 5 (lastL q.L q.dn).length (resL (lastL q.L q.dn))
/-- a store in memory -/
abbrev stH (y : StP) (q : QL) : Hp := [stB y q, stO y q] ++ lgH y.pl y.bv y.ev q.L q.k
/-- a store, as it is read -/
structure StV (c : View) (y : StP) (q : QL) : Prop where
  cells : Cells c ⟨y.p, 0, none⟩ (stR y.pl q.dn (stL q.L q.dn) (.slice y.A (lastL q.L q.dn).length (lastL q.L q.dn).length))
  last : Rds c (.slice y.A (lastL q.L q.dn).length y.kk) 5 (lastL q.L q.dn).length (resL (lastL q.L q.dn))
  lg : LgV c y.pl y.bv y.ev q.L q.k
theorem StV.mono {c c' : View} (hl : Le c c') {y : StP} {q : QL} (h : StV c y q) : StV c' y q := ⟨h.cells.mono hl, h.last.mono hl, h.lg.mono hl⟩
theorem StV.of {w0 w : World} {F : Nat → Prop} {m : Hp} {y : StP} {q : QL} (h : St w0 F m w) (hm : ∀ c ∈ stH y q, c ∈ m) : StV w.cell? y q :=
  ⟨blk_cells (h.hold _ (hm (stB y q) (by simp))) 0 (fun j v hj => by simpa using hj), own_rds (h.hold _ (hm (stO y q) (by simp))), LgV.of fun c hc => h.hold c (hm c (List.mem_append_right _ hc))⟩
theorem StV.c0 {c : View} {y : StP} {q : QL} (h : StV c y q) : c ⟨y.p, 0 + 0, none⟩ = some (ptrV y.pl) := by have := h.cells 0 _ rfl; rwa [add_mk] at this
theorem StV.c1 {c : View} {y : StP} {q : QL} (h : StV c y q) : c ⟨y.p, 0 + 1, none⟩ = some (.int .i64 (q.dn : Int)) := by have := h.cells 1 _ rfl; rwa [add_mk] at this
theorem StV.c12 {c : View} {y : StP} {q : QL} (h : StV c y q) : c ⟨y.p, 0 + 12, none⟩ = some (.slice y.A (lastL q.L q.dn).length (lastL q.L q.dn).length) := by
  have := h.cells (0 + 12) _ (stR_last (stL_len _ _))
  rwa [add_mk] at this
theorem StV.c2 {c : View} {y : StP} {q : QL} (h : StV c y q) : Cells c ⟨y.p, 0 + 2, none⟩ (intCells (stL q.L q.dn)) := fun j v hj => by
  have hlt := (List.getElem?_eq_some_iff.1 hj).1
  have := h.cells (0 + 2 + j) v (by
    rw [← stR_st (pl := y.pl) (dn := q.dn) (lv := .slice y.A (lastL q.L q.dn).length (lastL q.L q.dn).length) (stL_len q.L q.dn), List.getElem?_take] at hj
    split at hj
    · rwa [List.getElem?_drop] at hj
    · cases hj)
  rw [add_mk] at this ⊢
  rwa [show 0 + (0 + 2 + j) = 0 + 2 + j from by omega] at this
theorem stNew_spec (w : World) : Calls Try.prog 50 #[] w fun e w' => ∃ y : StP, True ∧ e = .returned (.pointer (some ⟨y.p, 0, none⟩)) ∧ Res w [] (stH y ⟨[], 0, 0⟩) w' := by
  refine enter0 (N := 4) Try.func50 rfl rfl rfl ?_
  refine e_seq ?_
  refine e_region ?_
  refine w_val (v_assign rfl) rfl ?_
  refine w_nil ?_
  refine e_seq ?_
  refine e_region ?_
  refine w_op rfl ?_
  refine x_call (dst := some 1) (mc := []) (σ := Nat) (fun _ => True) (fun p => .pointer (some ⟨p, 0, none⟩)) (fun p => lgH p (.slice none 0 0) (.slice none 0 0) [] 0) rfl rfl rfl Try.call81 (fun w _ => logNew_spec w) rfl (fun pl _ => ?_)
  refine w_val (v_build (v := .agg (stR pl 0 zero10 (.slice none 0 0)).toArray) _ rfl (by intro _; simp [Instr.build, Instr.fill, Try.zeroValue103, stR, intCells, ptrV, go_sem]; rfl)) rfl ?_
  refine w_op rfl ?_
  refine x_box rfl rfl (fun b3 => ?_)
  refine w_val (v_assign rfl) rfl ?_
  refine w_nil ?_
  refine e_retQ (q_ret1 rfl (.tmp rfl) ?_)
  exact fun w' hw' => ⟨⟨b3, pl, .slice none 0 0, .slice none 0 0, none, 0⟩, trivial, rfl, ((hw'.ownNil 30 5).pick [1, 0, 2, 3, 4] (by decide)).res⟩
theorem stDone_spec (y : StP) (q : QL) (w : World) (h : StV w.cell? y q) : Calls Try.prog 53 #[.pointer (some ⟨y.p, 0, none⟩)] w fun e w' => e = .returned (.int .i64 (q.dn : Int)) ∧ Res w [] [] w' := by
  rw [← off_none w] at h
  have h1 := h.c1
  refine enter0 (N := 7) Try.func53 rfl rfl rfl ?_
  refine e_seq ?_
  refine e_region ?_
  refine w_val (v_assign rfl) rfl ?_
  refine w_nil ?_
  refine e_seq ?_
  refine e_region ?_
  refine w_val (v_move rfl) rfl ?_
  refine w_val (v_nilCheck rfl) rfl ?_
  refine w_val (v_fieldAddrB (o := 1) Try.underlying103 rfl rfl Try.nz3 rfl) rfl ?_
  refine w_val (v_loadO Try.underlying3 rfl rfl (h1)) rfl ?_
  refine w_val (v_assign rfl) rfl ?_
  refine w_nil ?_
  refine e_retQ (q_ret1 rfl (.tmp rfl) ?_)
  exact fun w' hw' => ⟨rfl, hw'.res.nil⟩
theorem stState_spec (y : StP) (q : QL) (w : World) (h : StV w.cell? y q) : Calls Try.prog 54 #[.pointer (some ⟨y.p, 0, none⟩)] w fun e w' => e = .returned (intsV (stL q.L q.dn)) ∧ Res w [] [] w' := by
  rw [← off_none w] at h
  have h2 := h.c2
  have hz := stL_len q.L q.dn
  generalize stL q.L q.dn = z at *
  obtain ⟨z0, z1, z2, z3, z4, z5, z6, z7, z8, z9, rfl⟩ := list10 hz
  refine enter0 (N := 7) Try.func54 rfl rfl rfl ?_
  refine e_seq ?_
  refine e_region ?_
  refine w_op rfl ?_
  refine x_alloc (z := .agg #[.int .i64 0, .int .i64 0, .int .i64 0, .int .i64 0, .int .i64 0, .int .i64 0, .int .i64 0, .int .i64 0, .int .i64 0, .int .i64 0]) (by intro w; exact Try.zeroValue23 w) rfl (fun b2 => ?_)
  refine w_nil ?_
  refine e_seq ?_
  refine e_region ?_
  refine w_val (v_move rfl) rfl ?_
  refine w_val (v_nilCheck rfl) rfl ?_
  refine w_val (v_fieldAddrB (o := 2) Try.underlying103 rfl rfl Try.nz23 rfl) rfl ?_
  refine w_val (v_loadON Try.underlying23 rfl Try.hi23 rfl (h2) Try.cz23) rfl ?_
  refine w_op rfl ?_
  refine x_storeA 0 rfl rfl rfl Try.hi23 Try.cz23 rfl (by first | (simp [Value.oneCell', opCells]; done) | assumption | exact one_ints _ | exact one_resCells _ _ | exact one_slotC _) ?_
  refine w_nil ?_
  refine e_retQ (q_ret1 rfl (ResV.agg 0 rfl rfl (by rw [isAggD, Try.underlying23]; rfl) (Try.cz23) Try.hi23) ?_)
  exact fun w' hw' => ⟨rfl, hw'.res.nil⟩
theorem cloneR_spec (v : Value) (d : ResL) (w : World) (h : Rds w.cell? v 5 d.length (resL d)) (hl : d.length ≤ 1000) : Calls Try.prog 91 #[v] w fun e w' => ∃ sl, True ∧ e = .returned sl ∧ Res w [] [Own sl 30 5 d.length (resL d)] w' := by
  have h0 := h
  rw [← off_none w] at h h0
  obtain ⟨A, k, rfl, hk, _, hc⟩ := h
  refine enter0 (N := 8) Try.func91 rfl rfl rfl ?_
  refine e_seq ?_
  refine e_region ?_
  refine w_val (v_assign rfl) rfl ?_
  refine w_nil ?_
  refine e_seq ?_
  refine e_seq ?_
  refine e_region ?_
  refine w_val (v_move rfl) rfl ?_
  refine w_val (v_eqlNil Try.underlying57 (by kernel_rfl) rfl rfl) rfl ?_
  refine w_nil ?_
  refine e_cond rfl (fun hn => ?_) (fun hn => ?_)
  · have hnil : d = [] := by
      cases d with
      | nil => rfl
      | cons x xs =>
        obtain ⟨ad, rfl, _⟩ := hc (by simp)
        cases hn
    subst hnil
    refine e_seq ?_
    refine e_region ?_
    refine w_val (v_assign rfl) rfl ?_
    refine w_nil ?_
    refine e_retQ (q_ret1 rfl (.tmp rfl) ?_)
    exact fun w' hw' => ⟨.slice none 0 0, trivial, rfl, (hw'.ownNil _ _).res⟩
  · refine e_skip ?_
    refine e_seq ?_
    refine e_region ?_
    refine w_op rfl ?_
    refine x_buildSlice [] [] rfl (run_buildSlice0 Try.underlying57 Try.hi30 Try.cz30) rfl (fun b5 => ?_)
    refine w_val (v_move rfl) rfl ?_
    refine g_own (size := 5) (n := 0) 0 rfl rfl (by decide) ?_
    refine w_op rfl ?_
    refine x_appendI (z := .agg #[.int .i64 0, .int .i64 0, .int .i64 0, .int .i64 0, .int .i64 0]) (n := 0) (xs := []) (size := 5) (bytes := 40) (k := d.length) (news := resL d) 0 rfl rfl rfl Try.underlying57 (by kernel_rfl) rfl (by decide) (fun w hw => h0.mono hw.off) (fun u hu => by (simp only [resL, List.mem_flatMap] at hu; obtain ⟨x, _, hx⟩ := hu; exact one_resCells x.1 x.2 u (by simpa using hx))) (by omega) (by simp only [maxLen]; omega) rfl (fun v7 => ?_)
    refine w_val (v_assign rfl) rfl ?_
    refine w_nil ?_
    refine e_retQ (q_ret1 rfl (.tmp rfl) ?_)
    refine fun w' hw' => ⟨v7, trivial, rfl, ?_⟩
    have := hw'.res
    simp only [List.set_cons_zero, List.nil_append, Nat.zero_add] at this
    exact this
theorem stLast_spec (y : StP) (q : QL) (w : World) (h : StV w.cell? y q) (hl : (lastL q.L q.dn).length ≤ 8) : Calls Try.prog 57 #[.pointer (some ⟨y.p, 0, none⟩)] w fun e w' => ∃ sl, True ∧ e = .returned sl ∧ Res w [] [Own sl 30 5 (lastL q.L q.dn).length (resL (lastL q.L q.dn))] w' := by
  rw [← off_none w] at h
  have h12 := h.c12
  refine enter0 (N := 8) Try.func57 rfl rfl rfl ?_
  refine e_seq ?_
  refine e_region ?_
  refine w_val (v_assign rfl) rfl ?_
  refine w_nil ?_
  refine e_seq ?_
  refine e_region ?_
  refine w_val (v_move rfl) rfl ?_
  refine w_val (v_nilCheck rfl) rfl ?_
  refine w_val (v_fieldAddrB (o := 12) Try.underlying103 rfl rfl Try.nz57 rfl) rfl ?_
  refine w_val (v_loadO Try.underlying57 rfl rfl (h12)) rfl ?_
  refine w_op rfl ?_
  refine x_call (dst := some 7) (mc := []) (σ := Value) (fun _ => True) (fun sl => sl) (fun sl => [Own sl 30 5 (lastL q.L q.dn).length (resL (lastL q.L q.dn))]) rfl rfl rfl Try.call91 (fun w hw => cloneR_spec _ (lastL q.L q.dn) w (rds_clip ((h.mono hw.off).last)) (by omega)) rfl (fun sl _ => ?_)
  refine w_val (v_assign rfl) rfl ?_
  refine w_nil ?_
  refine e_retQ (q_ret1 rfl (.tmp rfl) ?_)
  exact fun w' hw' => ⟨sl, trivial, rfl, hw'.res⟩
end Go.SL

