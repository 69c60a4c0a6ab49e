/- Ytebdkaadbakhlac: part LX7 of this seat's own texts. -/
import Derived.Test.YtebdkaadbakhlacLX6
set_option linter.unusedVariables false
set_option linter.unusedSimpArgs false

open Go Go.Proofs Go.SL
set_option maxRecDepth 100000
namespace Go.SL
theorem scCrashX_spec (s e0 : Nat) (tl : List Value) (lv : Value) (L : List RoundL) (k : Nat) (vs : List Value) (G : Nat → Prop) (keep : Int) (w : World) (h : ∀ c ∈ scHX s e0 tl lv L k vs G, c.holds w) (hsep : (scHX s e0 tl lv L k vs G).Pairwise Disj) (hok : LogOk L k) :
    Calls Try.prog 88 #[.pointer (some ⟨s, 0, none⟩), .int .i64 keep] w fun e w' => ∃ lv', True ∧ e = .returned (.tuple #[]) ∧ Res w (scHX s e0 tl lv L k vs G) (scHX s e0 tl lv' (L.take (crashL L k keep)) (crashL L k keep) (vs.take (crashL L k keep)) G) w' := by
  have hB := hok.bytes
  have h25 := hok.len
  have hkL := hok.sure
  refine enter (mc := scHX s e0 tl lv L k vs G) (N := 51) Try.func88 rfl rfl rfl ?_ ?_ ?_
  · exact h
  · exact hsep
  refine g_shapeR2 1 rfl fun Al kl hlv hkl _ => ?_
  subst hlv
  refine e_seq ?_
  refine e_seq ?_
  refine e_region ?_
  refine w_val (v_move rfl) rfl ?_
  refine w_val (v_lss rfl rfl) rfl ?_
  refine w_nil ?_
  refine e_cutK (σ := Unit) [0] (.cons rfl .nil) (fun _ => [(1, .int .i64 (max keep 0))]) (fun _ => True) ?_ ?_
  · refine e_condD rfl (fun hneg => ?_) (fun hneg => ?_)
    · refine e_region ?_
      refine w_val (v_assign rfl) rfl ?_
      refine w_nil ?_
      exact e_cutEnd () trivial (Sub.cons (by rw [show max keep 0 = 0 from by omega]; rfl) (by repeat (first | exact Sub.nil _ | refine Sub.cons rfl ?_))) (fun _ hw => hw)
    · refine e_skip ?_
      exact e_cutEnd () trivial (Sub.cons (by rw [show max keep 0 = keep from by omega]; rfl) (by repeat (first | exact Sub.nil _ | refine Sub.cons rfl ?_))) (fun _ hw => hw)
  · rintro - -
    refine e_seq ?_
    refine e_region ?_
    refine w_val (v_move rfl) rfl ?_
    refine w_val (v_nilCheck rfl) rfl ?_
    refine w_val (v_fieldAddrB (o := 1) Try.underlying95 rfl rfl Try.nz3 rfl) rfl ?_
    refine w_val (v_loadB 0 rfl Try.underlying3 rfl rfl rfl) rfl ?_
    refine w_val (v_assign rfl) rfl ?_
    refine w_nil ?_
    refine e_seq ?_
    refine e_block ?_
    refine e_loopK (σ := Nat) [0, 1] (.cons rfl (.cons rfl .nil)) (fun m => [(4, .int .i64 (m : Int))]) (fun m => k ≤ m ∧ m ≤ L.length ∧ (m = k ∨ (endAt L m : Int) - endAt L k ≤ max keep 0)) (fun m => L.length - m) k ⟨Nat.le_refl _, hkL, .inl rfl⟩ (by repeat (first | exact Sub.nil _ | refine Sub.cons rfl ?_)) ?_
    rintro m ⟨hkm, hmL, hm⟩
    by_cases hlt : m < L.length
    · have hc1 := fun (w1 : World) (hw : ∀ c ∈ scHX s e0 tl (.slice Al L.length kl) L k vs G, c.holds w1) => own_shape (scBytes_spec s _ L k vs (m + 1) w1 (ScV.ofX hw) (by omega) hok)
      have hc2 := fun (w1 : World) (hw : ∀ c ∈ scHX s e0 tl (.slice Al L.length kl) L k vs G, c.holds w1) => own_shape (scBytes_spec s _ L k vs k w1 (ScV.ofX hw) hkL hok)
      have e1 : (bytesOf (L.take (m + 1))).length = endAt L (m + 1) := rfl
      have e2 : (bytesOf (L.take k)).length = endAt L k := rfl
      have he1 := endAt_le_all (L := L) (i := m + 1) (by omega)
      have he2 := endAt_le_all (L := L) (i := k) (by omega)
      rw [e1] at hc1
      rw [e2] at hc2
      refine e_seq ?_
      refine e_seq ?_
      refine e_draw (scHX s e0 tl (.slice Al L.length kl) L k vs G) Try.mixed ?_
      refine a_take 0 pan_cx (by kernel_rfl) (fun _ hw => hw.sub (by repeat (first | exact List.Sublist.slnil | exact List.Sublist.refl _ | apply List.Sublist.cons_cons | apply List.Sublist.cons))) rfl (by kernel_rfl) (by kernel_rfl) (v_move rfl) rfl ?_
      refine a_take 1 pan_cx (by kernel_rfl) (fun _ hw => hw.sub (by repeat (first | exact List.Sublist.slnil | exact List.Sublist.refl _ | apply List.Sublist.cons_cons | apply List.Sublist.cons))) rfl (by kernel_rfl) (by kernel_rfl) (v_move rfl) rfl ?_
      refine a_take 2 pan_cx (by kernel_rfl) (fun _ hw => hw.sub (by repeat (first | exact List.Sublist.slnil | exact List.Sublist.refl _ | apply List.Sublist.cons_cons | apply List.Sublist.cons))) rfl (by kernel_rfl) (by kernel_rfl) (v_nilCheck rfl) rfl ?_
      refine a_take 3 pan_cx (by kernel_rfl) (fun _ hw => hw.sub (by repeat (first | exact List.Sublist.slnil | exact List.Sublist.refl _ | apply List.Sublist.cons_cons | apply List.Sublist.cons))) rfl (by kernel_rfl) (by kernel_rfl) (v_fieldAddrB (o := 0) Try.underlying95 rfl rfl Try.nz93 rfl) rfl ?_
      refine a_take 4 pan_cx (by kernel_rfl) (fun _ hw => hw.sub (by repeat (first | exact List.Sublist.slnil | exact List.Sublist.refl _ | apply List.Sublist.cons_cons | apply List.Sublist.cons))) rfl (by kernel_rfl) (by kernel_rfl) (v_loadB 0 rfl Try.underlying93 rfl rfl rfl) rfl ?_
      refine a_take 5 pan_cx (by kernel_rfl) (fun _ hw => hw.sub (by repeat (first | exact List.Sublist.slnil | exact List.Sublist.refl _ | apply List.Sublist.cons_cons | apply List.Sublist.cons))) rfl (by kernel_rfl) (by kernel_rfl) (v_lenS Try.underlying93 rfl) rfl ?_
      refine a_take 6 pan_cx (by kernel_rfl) (fun _ hw => hw.sub (by repeat (first | exact List.Sublist.slnil | exact List.Sublist.refl _ | apply List.Sublist.cons_cons | apply List.Sublist.cons))) rfl (by kernel_rfl) (by kernel_rfl) (v_is (v' := .bool true) (v_lss rfl rfl) (by rw [decide_eq_true (by omega)])) rfl ?_
      refine a_take 7 pan_cx (by kernel_rfl) (fun _ hw => hw.sub (by repeat (first | exact List.Sublist.slnil | exact List.Sublist.refl _ | apply List.Sublist.cons_cons | apply List.Sublist.cons))) rfl (by kernel_rfl) (by kernel_rfl) (v_move rfl) rfl ?_
      refine a_want 8 pan_cx (by kernel_rfl) (fun _ hw => hw.sub (by repeat (first | exact List.Sublist.slnil | exact List.Sublist.refl _ | apply List.Sublist.cons_cons | apply List.Sublist.cons))) rfl (by kernel_rfl) (by kernel_rfl) rfl rfl (v_move rfl) rfl ?_
      refine a_want 9 pan_cx (by kernel_rfl) (fun _ hw => hw.sub (by repeat (first | exact List.Sublist.slnil | exact List.Sublist.refl _ | apply List.Sublist.cons_cons | apply List.Sublist.cons))) rfl (by kernel_rfl) (by kernel_rfl) rfl rfl (v_move rfl) rfl ?_
      refine a_want 10 pan_cx (by kernel_rfl) (fun _ hw => hw.sub (by repeat (first | exact List.Sublist.slnil | exact List.Sublist.refl _ | apply List.Sublist.cons_cons | apply List.Sublist.cons))) rfl (by kernel_rfl) (by kernel_rfl) rfl rfl (v_add rfl rfl (by omega)) rfl ?_
      refine a_want 13 pan_cx (by kernel_rfl) (fun _ hw => hw.sub (by repeat (first | exact List.Sublist.slnil | exact List.Sublist.refl _ | apply List.Sublist.cons_cons | apply List.Sublist.cons))) rfl (by kernel_rfl) (by kernel_rfl) rfl rfl (v_move rfl) rfl ?_
      refine a_want 14 pan_cx (by kernel_rfl) (fun _ hw => hw.sub (by repeat (first | exact List.Sublist.slnil | exact List.Sublist.refl _ | apply List.Sublist.cons_cons | apply List.Sublist.cons))) rfl (by kernel_rfl) (by kernel_rfl) rfl rfl (v_move rfl) rfl ?_
      refine a_want 15 pan_cx (by kernel_rfl) (fun _ hw => hw.sub (by repeat (first | exact List.Sublist.slnil | exact List.Sublist.refl _ | apply List.Sublist.cons_cons | apply List.Sublist.cons))) rfl (by kernel_rfl) (by kernel_rfl) rfl rfl (v_nilCheck rfl) rfl ?_
      refine a_want 16 pan_cx (by kernel_rfl) (fun _ hw => hw.sub (by repeat (first | exact List.Sublist.slnil | exact List.Sublist.refl _ | apply List.Sublist.cons_cons | apply List.Sublist.cons))) rfl (by kernel_rfl) (by kernel_rfl) rfl rfl (v_fieldAddrB (o := 1) Try.underlying95 rfl rfl Try.nz3 rfl) rfl ?_
      refine a_want 17 pan_cx (by kernel_rfl) (fun _ hw => hw.sub (by repeat (first | exact List.Sublist.slnil | exact List.Sublist.refl _ | apply List.Sublist.cons_cons | apply List.Sublist.cons))) rfl (by kernel_rfl) (by kernel_rfl) rfl rfl (v_loadB 0 rfl Try.underlying3 rfl rfl rfl) rfl ?_
      refine a_want 21 pan_cx (by kernel_rfl) (fun _ hw => hw.sub (by repeat (first | exact List.Sublist.slnil | exact List.Sublist.refl _ | apply List.Sublist.cons_cons | apply List.Sublist.cons))) rfl (by kernel_rfl) (by kernel_rfl) rfl rfl (v_move rfl) rfl ?_
      refine a_oneW 11 (by kernel_rfl) rfl rfl rfl ?_
      refine x_call (dst := some 22) (mc := []) (σ := (Option Addr × Nat)) (fun _ => True) (fun sl => .slice sl.1 (endAt L (m + 1)) sl.2) (fun sl => [Own (.slice sl.1 (endAt L (m + 1)) sl.2) 5 1 (endAt L (m + 1)) (byteCells (bytesOf (L.take (m + 1))))]) rfl rfl rfl Try.call107 (fun w hw => hc1 w (fun c hc => hw.hold c hc)) rfl (fun sl1 _ => ?_)
      refine a_and (fun _ hw => hw.sub (by repeat (first | exact List.Sublist.slnil | exact List.Sublist.refl _ | apply List.Sublist.cons_cons | apply List.Sublist.cons))) ?_
      refine a_want 12 pan_cx (by kernel_rfl) (fun _ hw => hw.sub (by repeat (first | exact List.Sublist.slnil | exact List.Sublist.refl _ | apply List.Sublist.cons_cons | apply List.Sublist.cons))) rfl (by kernel_rfl) (by kernel_rfl) rfl rfl (v_lenS Try.underlying110 rfl) rfl ?_
      refine a_oneW 18 (by kernel_rfl) rfl rfl rfl ?_
      refine x_call (dst := some 29) (mc := []) (σ := (Option Addr × Nat)) (fun _ => True) (fun sl => .slice sl.1 (endAt L k) sl.2) (fun sl => [Own (.slice sl.1 (endAt L k) sl.2) 5 1 (endAt L k) (byteCells (bytesOf (L.take k)))]) rfl rfl rfl Try.call107 (fun w hw => hc2 w (fun c hc => hw.hold c (List.mem_cons_of_mem _ hc))) rfl (fun sl2 _ => ?_)
      refine a_and (fun _ hw => hw.sub (by repeat (first | exact List.Sublist.slnil | exact List.Sublist.refl _ | apply List.Sublist.cons_cons | apply List.Sublist.cons))) ?_
      refine a_want 19 pan_cx (by kernel_rfl) (fun _ hw => hw.sub (by repeat (first | exact List.Sublist.slnil | exact List.Sublist.refl _ | apply List.Sublist.cons_cons | apply List.Sublist.cons))) rfl (by kernel_rfl) (by kernel_rfl) rfl rfl (v_lenS Try.underlying110 rfl) rfl ?_
      refine a_want 20 pan_cx (by kernel_rfl) (fun _ hw => hw.sub (by repeat (first | exact List.Sublist.slnil | exact List.Sublist.refl _ | apply List.Sublist.cons_cons | apply List.Sublist.cons))) rfl (by kernel_rfl) (by kernel_rfl) rfl rfl (v_sub rfl rfl (by omega)) rfl ?_
      refine a_want 22 pan_cx (by kernel_rfl) (fun _ hw => hw.sub (by repeat (first | exact List.Sublist.slnil | exact List.Sublist.refl _ | apply List.Sublist.cons_cons | apply List.Sublist.cons))) rfl (by kernel_rfl) (by kernel_rfl) rfl rfl (v_leq rfl rfl) rfl ?_
      refine a_take 23 pan_cx (by kernel_rfl) (fun _ hw => hw.sub (by repeat (first | exact List.Sublist.slnil | exact List.Sublist.refl _ | apply List.Sublist.cons_cons | apply List.Sublist.cons))) rfl (by kernel_rfl) (by kernel_rfl) (v_pickT rfl rfl) rfl ?_
      refine a_done (by kernel_rfl) ?_
      refine e_condD rfl (fun hle => ?_) (fun hle => ?_)
      · refine e_skip ?_
        refine e_block ?_
        refine e_region ?_
        refine w_val (v_move rfl) rfl ?_
        refine w_val (v_add rfl rfl (by omega)) rfl ?_
        refine w_val (v_assign rfl) rfl ?_
        refine w_nil ?_
        refine e_blk ?_
        exact e_round (m + 1) (⟨by omega, by omega, .inr hle⟩) (by omega) (by repeat (first | exact Sub.nil _ | refine Sub.cons rfl ?_)) (fun _ hw => hw.sub (.cons _ (.cons _ (List.Sublist.refl _))))
      · have hcr := crashL_is (keep := keep) hkm hmL hB hm (fun _ => by omega)
        rw [hcr]
        have hrow : m ≤ L.length := hmL
        refine e_exit rfl ?_
        refine e_seq ?_
        refine e_region ?_
        refine w_val (v_move rfl) rfl ?_
        refine w_val (v_move rfl) rfl ?_
        refine w_val (v_nilCheck rfl) rfl ?_
        refine w_val (v_fieldAddrB (o := 0) Try.underlying95 rfl rfl Try.nz93 rfl) rfl ?_
        refine w_val (v_loadB 2 rfl Try.underlying93 rfl rfl rfl) rfl ?_
        refine w_val (v_move rfl) rfl ?_
        refine w_val (v_move rfl) rfl ?_
        refine w_val (v_is (v' := .slice Al m m) (v_sliceHM Try.underlying93 Try.hi38 Try.cz38 rfl rfl rfl (by omega)) (by rw [Int.toNat_natCast, slV_0'])) rfl ?_
        refine w_val (v_nilCheck rfl) rfl ?_
        refine w_val (v_fieldAddrB (o := 0) Try.underlying95 rfl rfl Try.nz93 rfl) rfl ?_
        refine w_op rfl ?_
        refine x_store1 2 rfl rfl rfl Try.hi93 Try.cz93 rfl (by first | (simp; done) | (simp [intCells_len]; omega) | exact Nat.zero_lt_succ _) rfl ?_
        refine w_nil ?_
        refine e_region ?_
        refine w_val (v_move rfl) rfl ?_
        refine w_val (v_move rfl) rfl ?_
        refine w_val (v_nilCheck rfl) rfl ?_
        refine w_val (v_fieldAddrB (o := 1) Try.underlying95 rfl rfl Try.nz3 rfl) rfl ?_
        refine w_op rfl ?_
        refine x_store1 2 rfl rfl rfl Try.hi3 Try.cz3 rfl (by first | (simp; done) | (simp [intCells_len]; omega) | exact Nat.zero_lt_succ _) rfl ?_
        refine w_nil ?_
        refine g_cutR (j := m) 3 rfl hmL ?_
        refine g_keep (q := Rounds (vs.take m) (L.take m)) 4 rfl (fun c hc => hc.take m) ?_
        refine e_endQ (q_ret0 rfl ?_)
        refine fun w' hw' => ⟨.slice Al m m, trivial, rfl, ?_⟩
        have e4 : (L.take m).length = m := by simp; omega
        have hr := (hw'.sub (.cons _ (.cons _ (List.Sublist.refl _)))).res
        simp only [scHX, e4]
        simpa using hr
    · have hmm : m = L.length := by omega
      refine e_seq ?_
      refine e_seq ?_
      refine e_draw (scHX s e0 tl (.slice Al L.length kl) L k vs G) Try.mixed ?_
      refine a_take 0 pan_cx (by kernel_rfl) (fun _ hw => hw.sub (by repeat (first | exact List.Sublist.slnil | exact List.Sublist.refl _ | apply List.Sublist.cons_cons | apply List.Sublist.cons))) rfl (by kernel_rfl) (by kernel_rfl) (v_move rfl) rfl ?_
      refine a_take 1 pan_cx (by kernel_rfl) (fun _ hw => hw.sub (by repeat (first | exact List.Sublist.slnil | exact List.Sublist.refl _ | apply List.Sublist.cons_cons | apply List.Sublist.cons))) rfl (by kernel_rfl) (by kernel_rfl) (v_move rfl) rfl ?_
      refine a_take 2 pan_cx (by kernel_rfl) (fun _ hw => hw.sub (by repeat (first | exact List.Sublist.slnil | exact List.Sublist.refl _ | apply List.Sublist.cons_cons | apply List.Sublist.cons))) rfl (by kernel_rfl) (by kernel_rfl) (v_nilCheck rfl) rfl ?_
      refine a_take 3 pan_cx (by kernel_rfl) (fun _ hw => hw.sub (by repeat (first | exact List.Sublist.slnil | exact List.Sublist.refl _ | apply List.Sublist.cons_cons | apply List.Sublist.cons))) rfl (by kernel_rfl) (by kernel_rfl) (v_fieldAddrB (o := 0) Try.underlying95 rfl rfl Try.nz93 rfl) rfl ?_
      refine a_take 4 pan_cx (by kernel_rfl) (fun _ hw => hw.sub (by repeat (first | exact List.Sublist.slnil | exact List.Sublist.refl _ | apply List.Sublist.cons_cons | apply List.Sublist.cons))) rfl (by kernel_rfl) (by kernel_rfl) (v_loadB 0 rfl Try.underlying93 rfl rfl rfl) rfl ?_
      refine a_take 5 pan_cx (by kernel_rfl) (fun _ hw => hw.sub (by repeat (first | exact List.Sublist.slnil | exact List.Sublist.refl _ | apply List.Sublist.cons_cons | apply List.Sublist.cons))) rfl (by kernel_rfl) (by kernel_rfl) (v_lenS Try.underlying93 rfl) rfl ?_
      refine a_take 6 pan_cx (by kernel_rfl) (fun _ hw => hw.sub (by repeat (first | exact List.Sublist.slnil | exact List.Sublist.refl _ | apply List.Sublist.cons_cons | apply List.Sublist.cons))) rfl (by kernel_rfl) (by kernel_rfl) (v_is (v' := .bool false) (v_lss rfl rfl) (by rw [decide_eq_false (by omega)])) rfl ?_
      refine a_take 7 pan_cx (by kernel_rfl) (fun _ hw => hw.sub (by repeat (first | exact List.Sublist.slnil | exact List.Sublist.refl _ | apply List.Sublist.cons_cons | apply List.Sublist.cons))) rfl (by kernel_rfl) (by kernel_rfl) (v_move rfl) rfl ?_
      refine a_skip 8 pan_cx (by kernel_rfl) (fun _ hw => hw.sub (by repeat (first | exact List.Sublist.slnil | exact List.Sublist.refl _ | apply List.Sublist.cons_cons | apply List.Sublist.cons))) rfl (by kernel_rfl) (by kernel_rfl) rfl rfl rfl rfl ?_
      refine a_skip 9 pan_cx (by kernel_rfl) (fun _ hw => hw.sub (by repeat (first | exact List.Sublist.slnil | exact List.Sublist.refl _ | apply List.Sublist.cons_cons | apply List.Sublist.cons))) rfl (by kernel_rfl) (by kernel_rfl) rfl rfl rfl rfl ?_
      refine a_skip 10 pan_cx (by kernel_rfl) (fun _ hw => hw.sub (by repeat (first | exact List.Sublist.slnil | exact List.Sublist.refl _ | apply List.Sublist.cons_cons | apply List.Sublist.cons))) rfl (by kernel_rfl) (by kernel_rfl) rfl rfl rfl rfl ?_
      refine a_skip 11 pan_cx (by kernel_rfl) (fun _ hw => hw.sub (by repeat (first | exact List.Sublist.slnil | exact List.Sublist.refl _ | apply List.Sublist.cons_cons | apply List.Sublist.cons))) rfl (by kernel_rfl) (by kernel_rfl) rfl rfl rfl rfl ?_
      refine a_skip 12 pan_cx (by kernel_rfl) (fun _ hw => hw.sub (by repeat (first | exact List.Sublist.slnil | exact List.Sublist.refl _ | apply List.Sublist.cons_cons | apply List.Sublist.cons))) rfl (by kernel_rfl) (by kernel_rfl) rfl rfl rfl rfl ?_
      refine a_skip 13 pan_cx (by kernel_rfl) (fun _ hw => hw.sub (by repeat (first | exact List.Sublist.slnil | exact List.Sublist.refl _ | apply List.Sublist.cons_cons | apply List.Sublist.cons))) rfl (by kernel_rfl) (by kernel_rfl) rfl rfl rfl rfl ?_
      refine a_skip 14 pan_cx (by kernel_rfl) (fun _ hw => hw.sub (by repeat (first | exact List.Sublist.slnil | exact List.Sublist.refl _ | apply List.Sublist.cons_cons | apply List.Sublist.cons))) rfl (by kernel_rfl) (by kernel_rfl) rfl rfl rfl rfl ?_
      refine a_skip 15 pan_cx (by kernel_rfl) (fun _ hw => hw.sub (by repeat (first | exact List.Sublist.slnil | exact List.Sublist.refl _ | apply List.Sublist.cons_cons | apply List.Sublist.cons))) rfl (by kernel_rfl) (by kernel_rfl) rfl rfl rfl rfl ?_
      refine a_skip 16 pan_cx (by kernel_rfl) (fun _ hw => hw.sub (by repeat (first | exact List.Sublist.slnil | exact List.Sublist.refl _ | apply List.Sublist.cons_cons | apply List.Sublist.cons))) rfl (by kernel_rfl) (by kernel_rfl) rfl rfl rfl rfl ?_
      refine a_skip 17 pan_cx (by kernel_rfl) (fun _ hw => hw.sub (by repeat (first | exact List.Sublist.slnil | exact List.Sublist.refl _ | apply List.Sublist.cons_cons | apply List.Sublist.cons))) rfl (by kernel_rfl) (by kernel_rfl) rfl rfl rfl rfl ?_
      refine a_skip 18 pan_cx (by kernel_rfl) (fun _ hw => hw.sub (by repeat (first | exact List.Sublist.slnil | exact List.Sublist.refl _ | apply List.Sublist.cons_cons | apply List.Sublist.cons))) rfl (by kernel_rfl) (by kernel_rfl) rfl rfl rfl rfl ?_
      refine a_skip 19 pan_cx (by kernel_rfl) (fun _ hw => hw.sub (by repeat (first | exact List.Sublist.slnil | exact List.Sublist.refl _ | apply List.Sublist.cons_cons | apply List.Sublist.cons))) rfl (by kernel_rfl) (by kernel_rfl) rfl rfl rfl rfl ?_
      refine a_skip 20 pan_cx (by kernel_rfl) (fun _ hw => hw.sub (by repeat (first | exact List.Sublist.slnil | exact List.Sublist.refl _ | apply List.Sublist.cons_cons | apply List.Sublist.cons))) rfl (by kernel_rfl) (by kernel_rfl) rfl rfl rfl rfl ?_
      refine a_skip 21 pan_cx (by kernel_rfl) (fun _ hw => hw.sub (by repeat (first | exact List.Sublist.slnil | exact List.Sublist.refl _ | apply List.Sublist.cons_cons | apply List.Sublist.cons))) rfl (by kernel_rfl) (by kernel_rfl) rfl rfl rfl rfl ?_
      refine a_skip 22 pan_cx (by kernel_rfl) (fun _ hw => hw.sub (by repeat (first | exact List.Sublist.slnil | exact List.Sublist.refl _ | apply List.Sublist.cons_cons | apply List.Sublist.cons))) rfl (by kernel_rfl) (by kernel_rfl) rfl rfl rfl rfl ?_
      refine a_take 23 pan_cx (by kernel_rfl) (fun _ hw => hw.sub (by repeat (first | exact List.Sublist.slnil | exact List.Sublist.refl _ | apply List.Sublist.cons_cons | apply List.Sublist.cons))) rfl (by kernel_rfl) (by kernel_rfl) (v_pickF rfl rfl) rfl ?_
      refine a_done (by kernel_rfl) ?_
      refine e_condF rfl ?_
      have hcr := crashL_is (keep := keep) hkm hmL hB hm (fun h => absurd h hlt)
      rw [hcr]
      refine e_exit rfl ?_
      refine e_seq ?_
      refine e_region ?_
      refine w_val (v_move rfl) rfl ?_
      refine w_val (v_move rfl) rfl ?_
      refine w_val (v_nilCheck rfl) rfl ?_
      refine w_val (v_fieldAddrB (o := 0) Try.underlying95 rfl rfl Try.nz93 rfl) rfl ?_
      refine w_val (v_loadB 0 rfl Try.underlying93 rfl rfl rfl) rfl ?_
      refine w_val (v_move rfl) rfl ?_
      refine w_val (v_move rfl) rfl ?_
      refine w_val (v_is (v' := .slice Al m m) (v_sliceHM Try.underlying93 Try.hi38 Try.cz38 rfl rfl rfl (by omega)) (by rw [Int.toNat_natCast, slV_0'])) rfl ?_
      refine w_val (v_nilCheck rfl) rfl ?_
      refine w_val (v_fieldAddrB (o := 0) Try.underlying95 rfl rfl Try.nz93 rfl) rfl ?_
      refine w_op rfl ?_
      refine x_store1 0 rfl rfl rfl Try.hi93 Try.cz93 rfl (by first | (simp; done) | (simp [intCells_len]; omega) | exact Nat.zero_lt_succ _) rfl ?_
      refine w_nil ?_
      refine e_region ?_
      refine w_val (v_move rfl) rfl ?_
      refine w_val (v_move rfl) rfl ?_
      refine w_val (v_nilCheck rfl) rfl ?_
      refine w_val (v_fieldAddrB (o := 1) Try.underlying95 rfl rfl Try.nz3 rfl) rfl ?_
      refine w_op rfl ?_
      refine x_store1 0 rfl rfl rfl Try.hi3 Try.cz3 rfl (by first | (simp; done) | (simp [intCells_len]; omega) | exact Nat.zero_lt_succ _) rfl ?_
      refine w_nil ?_
      refine g_cutR (j := m) 1 rfl hmL ?_
      refine g_keep (q := Rounds (vs.take m) (L.take m)) 2 rfl (fun c hc => hc.take m) ?_
      refine e_endQ (q_ret0 rfl ?_)
      refine fun w' hw' => ⟨.slice Al m m, trivial, rfl, ?_⟩
      have e4 : (L.take m).length = m := by simp; omega
      have hr := hw'.res
      simp only [scHX, e4]
      simpa using hr
end Go.SL

