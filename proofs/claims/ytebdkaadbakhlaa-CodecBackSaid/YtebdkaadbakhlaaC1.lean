/- Ytebdkaadbakhlaa: part C1 of this seat's own texts. -/
import Derived.Test.YtebdkaadbakhlaaTab
import Derived.Test.YtebdkaadbakhlaaDat
import Derived.Test.YtebdkaadbakhlaaT2
set_option linter.unusedVariables false
set_option linter.unusedSimpArgs false
open Go Go.Proofs Go.SL
set_option maxRecDepth 100000
namespace Go.SL
def badL (x most : Int) : Int := if most = 0 then (if x ≠ 0 then 3 else 0) else if x < 0 ∨ most ≤ x then 1 else 0
def opFaultL (o : OpL) : Int :=
  if o.kind < 1 ∨ 9 < o.kind then 2
  else if badL o.a ((limL o.kind).getD 0 0) ≠ 0 then badL o.a ((limL o.kind).getD 0 0)
  else if badL o.b ((limL o.kind).getD 1 0) ≠ 0 then badL o.b ((limL o.kind).getD 1 0)
  else if badL o.c ((limL o.kind).getD 2 0) ≠ 0 then badL o.c ((limL o.kind).getD 2 0)
  else if o.kind ≠ 1 ∧ o.n ≠ 0 then 3 else 0
theorem opFault_at (o : OpL) (hk : ¬ (o.kind < 1 ∨ 9 < o.kind)) (k : Nat) (h3 : k < 3) (hall : ∀ j, j < k → badL ([o.a, o.b, o.c].getD j 0) ((limL o.kind).getD j 0) = 0) (e : Int) (he : e ≠ 0)
    (hb : badL ([o.a, o.b, o.c].getD k 0) ((limL o.kind).getD k 0) = e) : opFaultL o = e := by
  unfold opFaultL
  rw [if_neg hk]
  have : k = 0 ∨ k = 1 ∨ k = 2 := by omega
  rcases this with rfl | rfl | rfl
  · simp at hb; simp [hb, he]
  · have h0 := hall 0 (by omega); simp at hb h0; simp [hb, h0, he]
  · have h0 := hall 0 (by omega); have h1 := hall 1 (by omega); simp at hb h0 h1; simp [hb, h0, h1, he]
theorem opFault_end (o : OpL) (hk : ¬ (o.kind < 1 ∨ 9 < o.kind)) (hall : ∀ j, j < 3 → badL ([o.a, o.b, o.c].getD j 0) ((limL o.kind).getD j 0) = 0) : opFaultL o = if o.kind ≠ 1 ∧ o.n ≠ 0 then 3 else 0 := by
  unfold opFaultL
  rw [if_neg hk]
  have h0 := hall 0 (by omega); have h1 := hall 1 (by omega); have h2 := hall 2 (by omega)
  simp at h0 h1 h2
  simp [h0, h1, h2]
theorem lim_cell (k : Int) (j : Nat) (h : j < 3) : ((limL k).map (Value.int .i64))[0 + ((j : Int)).toNat * 1]? = some (.int .i64 ((limL k).getD j 0)) := by
  have hl := limL_len k
  have : (0 + ((j : Int)).toNat * 1) = j := by simp
  rw [this]
  simp [List.getD, hl, h]
theorem idx3 (a b c : Int) (j : Nat) (h : j < 3) : (#[Value.int .i64 a, Value.int .i64 b, Value.int .i64 c] : Array Value)[((j : Int)).toNat]? = some (.int .i64 ([a, b, c].getD j 0)) := by
  have : j = 0 ∨ j = 1 ∨ j = 2 := by omega
  rcases this with rfl | rfl | rfl <;> rfl
theorem lim_nonneg (k : Int) (j : Nat) (h : j < 3) : 0 ≤ (limL k).getD j 0 := by
  have : j = 0 ∨ j = 1 ∨ j = 2 := by omega
  unfold limL
  rcases this with rfl | rfl | rfl <;> (repeat' split) <;> simp
theorem bad_spec (x most : Int) (w : World) : Calls Try.prog 63 #[.int .i64 x, .int .i64 most] w fun e w' => e = .returned (.int .i64 (badL x most)) ∧ Res w [] [] w' := by
  refine enter0 (N := 16) Try.func63 rfl rfl rfl ?_
  refine e_seq ?_
  refine e_region ?_
  refine w_val (v_assign rfl) rfl ?_
  refine w_nil ?_
  refine e_seq ?_
  refine e_seq ?_
  refine e_region ?_
  refine w_val (v_move rfl) rfl ?_
  refine w_val (v_eql rfl rfl) rfl ?_
  refine w_nil ?_
  refine e_condD rfl (fun h1 => ?_) (fun h1 => ?_)
  · refine e_seq ?_
    refine e_seq ?_
    refine e_region ?_
    refine w_val (v_move rfl) rfl ?_
    refine w_val (v_neq rfl rfl) rfl ?_
    refine w_nil ?_
    refine e_condD rfl (fun h2 => ?_) (fun h2 => ?_)
    · refine e_seq ?_
      refine e_region ?_
      refine w_val (v_assign rfl) rfl ?_
      refine w_nil ?_
      refine e_retQ (q_ret1 rfl (.tmp rfl) ?_)
      exact fun w' hw' => ⟨by simp [badL, h1, h2], hw'.res⟩
    · refine e_skip ?_
      refine e_seq ?_
      refine e_region ?_
      refine w_val (v_assign rfl) rfl ?_
      refine w_nil ?_
      refine e_retQ (q_ret1 rfl (.tmp rfl) ?_)
      exact fun w' hw' => ⟨by simp [badL, h1, h2], hw'.res⟩
  · refine e_skip ?_
    refine e_seq ?_
    refine e_seq ?_
    refine e_test 15 (decide (x < 0 ∨ most ≤ x)) ?_ ?_
    · refine e_region ?_
      refine w_val (v_move rfl) rfl ?_
      refine w_valD (v_lss rfl rfl) rfl (fun hg1 => ?_) (fun hg1 => ?_)
      · refine w_val (v_move rfl) rfl ?_
        refine w_skip rfl rfl rfl rfl ?_
        refine w_skip rfl rfl rfl rfl ?_
        refine w_skip rfl rfl rfl rfl ?_
        refine w_val (v_pickT rfl rfl) rfl ?_
        refine w_nil ?_
        exact e_testEnd rfl (by simp_all) (by repeat (first | exact Sub.refl _ | exact Sub.nil _ | exact Sub.del _ _ | refine Sub.skip rfl ?_)) (fun _ hw => hw)
      · refine w_val (v_move rfl) rfl ?_
        refine w_want rfl rfl ?_
        refine w_val (v_move rfl) rfl ?_
        refine w_want rfl rfl ?_
        refine w_val (v_move rfl) rfl ?_
        refine w_want rfl rfl ?_
        refine w_valD (v_geq rfl rfl) rfl (fun hg5 => ?_) (fun hg5 => ?_)
        · refine w_val (v_pickF rfl rfl) rfl ?_
          refine w_nil ?_
          exact e_testEnd rfl (by simp_all) (by repeat (first | exact Sub.refl _ | exact Sub.nil _ | exact Sub.del _ _ | refine Sub.skip rfl ?_)) (fun _ hw => hw)
        · refine w_val (v_pickF rfl rfl) rfl ?_
          refine w_nil ?_
          exact e_testEnd rfl (by simp_all) (by repeat (first | exact Sub.refl _ | exact Sub.nil _ | exact Sub.del _ _ | refine Sub.skip rfl ?_)) (fun _ hw => hw)
    refine e_condD rfl (fun h2 => ?_) (fun h2 => ?_)
    · refine e_seq ?_
      refine e_region ?_
      refine w_val (v_assign rfl) rfl ?_
      refine w_nil ?_
      refine e_retQ (q_ret1 rfl (.tmp rfl) ?_)
      exact fun w' hw' => ⟨by simp [badL, h1, h2], hw'.res⟩
    · refine e_skip ?_
      refine e_seq ?_
      refine e_region ?_
      refine w_val (v_assign rfl) rfl ?_
      refine w_nil ?_
      refine e_retQ (q_ret1 rfl (.tmp rfl) ?_)
      exact fun w' hw' => ⟨by simp [badL, h1, h2], hw'.res⟩
theorem op_spec (o : OpL) (w : World) : Calls Try.prog 62 #[opV o] w fun e w' => e = .returned (.int .i64 (opFaultL o)) ∧ Res w [] [] w' := by
  refine enter0 (N := 62) Try.func62 rfl rfl rfl ?_
  refine e_seq ?_
  refine e_region ?_
  refine w_op rfl ?_
  refine x_box rfl rfl (fun b1 => ?_)
  refine w_val (v_assign rfl) rfl ?_
  refine w_nil ?_
  refine e_seq ?_
  refine e_seq ?_
  refine e_test 13 (decide (o.kind < 1 ∨ 9 < o.kind)) ?_ ?_
  · refine e_region ?_
    first | refine w_val (v_fieldAddrB (o := 0) Try.underlying36 rfl rfl Try.nz3 rfl) rfl ?_ | refine w_val (v_fieldAddr (o := 0) Try.underlying36 rfl rfl Try.nz3 rfl) rfl ?_
    first | refine w_val (v_loadB 0 rfl Try.underlying3 rfl rfl rfl) rfl ?_ | refine w_val (v_loadB 1 rfl Try.underlying3 rfl rfl rfl) rfl ?_ | refine w_val (v_loadB 2 rfl Try.underlying3 rfl rfl rfl) rfl ?_ | refine w_val (v_loadB 3 rfl Try.underlying3 rfl rfl rfl) rfl ?_ | refine w_val (v_loadB 4 rfl Try.underlying3 rfl rfl rfl) rfl ?_ | refine w_val (v_loadB 5 rfl Try.underlying3 rfl rfl rfl) rfl ?_ | refine w_val (v_loadB 6 rfl Try.underlying3 rfl rfl rfl) rfl ?_ | refine w_val (v_loadB 7 rfl Try.underlying3 rfl rfl rfl) rfl ?_
    refine w_valD (v_lss rfl rfl) rfl (fun hg2 => ?_) (fun hg2 => ?_)
    · refine w_val (v_move rfl) rfl ?_
      refine w_skip rfl rfl rfl rfl ?_
      refine w_skip rfl rfl rfl rfl ?_
      refine w_skip rfl rfl rfl rfl ?_
      refine w_val (v_pickT rfl rfl) rfl ?_
      refine w_nil ?_
      exact e_testEnd rfl (by first | (simp_all; done) | (simp_all; omega)) (by repeat (first | exact Sub.refl _ | exact Sub.nil _ | exact Sub.del _ _ | refine Sub.skip rfl ?_)) (fun _ hw => hw)
    · refine w_val (v_move rfl) rfl ?_
      refine w_want rfl rfl ?_
      first | refine w_val (v_fieldAddrB (o := 0) Try.underlying36 rfl rfl Try.nz3 rfl) rfl ?_ | refine w_val (v_fieldAddr (o := 0) Try.underlying36 rfl rfl Try.nz3 rfl) rfl ?_
      refine w_want rfl rfl ?_
      first | refine w_val (v_loadB 0 rfl Try.underlying3 rfl rfl rfl) rfl ?_ | refine w_val (v_loadB 1 rfl Try.underlying3 rfl rfl rfl) rfl ?_ | refine w_val (v_loadB 2 rfl Try.underlying3 rfl rfl rfl) rfl ?_ | refine w_val (v_loadB 3 rfl Try.underlying3 rfl rfl rfl) rfl ?_ | refine w_val (v_loadB 4 rfl Try.underlying3 rfl rfl rfl) rfl ?_ | refine w_val (v_loadB 5 rfl Try.underlying3 rfl rfl rfl) rfl ?_ | refine w_val (v_loadB 6 rfl Try.underlying3 rfl rfl rfl) rfl ?_ | refine w_val (v_loadB 7 rfl Try.underlying3 rfl rfl rfl) rfl ?_
      refine w_want rfl rfl ?_
      refine w_valD (v_gtr rfl rfl) rfl (fun hg6 => ?_) (fun hg6 => ?_)
      · refine w_val (v_pickF rfl rfl) rfl ?_
        refine w_nil ?_
        exact e_testEnd rfl (by first | (simp_all; done) | (simp_all; omega)) (by repeat (first | exact Sub.refl _ | exact Sub.nil _ | exact Sub.del _ _ | refine Sub.skip rfl ?_)) (fun _ hw => hw)
      · refine w_val (v_pickF rfl rfl) rfl ?_
        refine w_nil ?_
        exact e_testEnd rfl (by first | (simp_all; done) | (simp_all; omega)) (by repeat (first | exact Sub.refl _ | exact Sub.nil _ | exact Sub.del _ _ | refine Sub.skip rfl ?_)) (fun _ hw => hw)
  refine e_condD rfl (fun hk => ?_) (fun hk => ?_)
  · refine e_seq ?_
    refine e_region ?_
    refine w_val (v_assign rfl) rfl ?_
    refine w_nil ?_
    refine e_retQ (q_ret1 rfl (.tmp rfl) ?_)
    exact fun w' hw' => ⟨by simp [opFaultL, hk], hw'.res.nil⟩
  · refine e_skip ?_
    refine e_seq ?_
    refine e_region ?_
    first | refine w_val (v_fieldAddrB (o := 0) Try.underlying36 rfl rfl Try.nz3 rfl) rfl ?_ | refine w_val (v_fieldAddr (o := 0) Try.underlying36 rfl rfl Try.nz3 rfl) rfl ?_
    first | refine w_val (v_loadB 0 rfl Try.underlying3 rfl rfl rfl) rfl ?_ | refine w_val (v_loadB 1 rfl Try.underlying3 rfl rfl rfl) rfl ?_ | refine w_val (v_loadB 2 rfl Try.underlying3 rfl rfl rfl) rfl ?_ | refine w_val (v_loadB 3 rfl Try.underlying3 rfl rfl rfl) rfl ?_ | refine w_val (v_loadB 4 rfl Try.underlying3 rfl rfl rfl) rfl ?_ | refine w_val (v_loadB 5 rfl Try.underlying3 rfl rfl rfl) rfl ?_ | refine w_val (v_loadB 6 rfl Try.underlying3 rfl rfl rfl) rfl ?_ | refine w_val (v_loadB 7 rfl Try.underlying3 rfl rfl rfl) rfl ?_
    refine w_op rfl ?_
    refine x_call0 (v := .agg ((limL o.kind).map (Value.int .i64)).toArray) rfl rfl rfl Try.call67 rfl (fun w hw => limits_spec o.kind (by omega) (by omega) w) ?_
    refine w_op rfl ?_
    refine x_alloc (z := .agg #[.int .i64 0, .int .i64 0, .int .i64 0]) (by intro w; exact Try.zeroValue115 w) rfl (fun b3 => ?_)
    refine w_op rfl ?_
    refine x_storeA 0 rfl rfl rfl Try.hi115 (by simp only [Try.cz115]; simp [limL_len]) (by simp [limL_len]; rfl) (one_ints _) ?_
    refine w_nil ?_
    refine e_seq ?_
    refine e_seq ?_
    refine e_region ?_
    first | refine w_val (v_fieldAddrB (o := 1) Try.underlying36 rfl rfl Try.nz3 rfl) rfl ?_ | refine w_val (v_fieldAddr (o := 1) Try.underlying36 rfl rfl Try.nz3 rfl) rfl ?_
    first | refine w_val (v_loadB 0 rfl Try.underlying3 rfl rfl rfl) rfl ?_ | refine w_val (v_loadB 1 rfl Try.underlying3 rfl rfl rfl) rfl ?_ | refine w_val (v_loadB 2 rfl Try.underlying3 rfl rfl rfl) rfl ?_ | refine w_val (v_loadB 3 rfl Try.underlying3 rfl rfl rfl) rfl ?_ | refine w_val (v_loadB 4 rfl Try.underlying3 rfl rfl rfl) rfl ?_ | refine w_val (v_loadB 5 rfl Try.underlying3 rfl rfl rfl) rfl ?_ | refine w_val (v_loadB 6 rfl Try.underlying3 rfl rfl rfl) rfl ?_ | refine w_val (v_loadB 7 rfl Try.underlying3 rfl rfl rfl) rfl ?_
    first | refine w_val (v_fieldAddrB (o := 2) Try.underlying36 rfl rfl Try.nz3 rfl) rfl ?_ | refine w_val (v_fieldAddr (o := 2) Try.underlying36 rfl rfl Try.nz3 rfl) rfl ?_
    first | refine w_val (v_loadB 0 rfl Try.underlying3 rfl rfl rfl) rfl ?_ | refine w_val (v_loadB 1 rfl Try.underlying3 rfl rfl rfl) rfl ?_ | refine w_val (v_loadB 2 rfl Try.underlying3 rfl rfl rfl) rfl ?_ | refine w_val (v_loadB 3 rfl Try.underlying3 rfl rfl rfl) rfl ?_ | refine w_val (v_loadB 4 rfl Try.underlying3 rfl rfl rfl) rfl ?_ | refine w_val (v_loadB 5 rfl Try.underlying3 rfl rfl rfl) rfl ?_ | refine w_val (v_loadB 6 rfl Try.underlying3 rfl rfl rfl) rfl ?_ | refine w_val (v_loadB 7 rfl Try.underlying3 rfl rfl rfl) rfl ?_
    first | refine w_val (v_fieldAddrB (o := 3) Try.underlying36 rfl rfl Try.nz3 rfl) rfl ?_ | refine w_val (v_fieldAddr (o := 3) Try.underlying36 rfl rfl Try.nz3 rfl) rfl ?_
    first | refine w_val (v_loadB 0 rfl Try.underlying3 rfl rfl rfl) rfl ?_ | refine w_val (v_loadB 1 rfl Try.underlying3 rfl rfl rfl) rfl ?_ | refine w_val (v_loadB 2 rfl Try.underlying3 rfl rfl rfl) rfl ?_ | refine w_val (v_loadB 3 rfl Try.underlying3 rfl rfl rfl) rfl ?_ | refine w_val (v_loadB 4 rfl Try.underlying3 rfl rfl rfl) rfl ?_ | refine w_val (v_loadB 5 rfl Try.underlying3 rfl rfl rfl) rfl ?_ | refine w_val (v_loadB 6 rfl Try.underlying3 rfl rfl rfl) rfl ?_ | refine w_val (v_loadB 7 rfl Try.underlying3 rfl rfl rfl) rfl ?_
    refine w_val (v_build _ rfl (by intro _; simp [Instr.build, Instr.fill, Try.zeroValue115, go_sem]; rfl)) rfl ?_
    refine w_val (v_move rfl) rfl ?_
    refine w_nil ?_
    refine e_block ?_
    refine e_loopK (σ := Nat) [1, 2, 3, 23] (.cons rfl (.cons rfl (.cons rfl (.cons rfl .nil)))) (fun k => [(24, .int .i64 k)]) (fun k => k ≤ 3 ∧ ∀ j, j < k → badL ([o.a, o.b, o.c].getD j 0) ((limL o.kind).getD j 0) = 0) (fun k => 3 - k) 0 ⟨by omega, by omega⟩ (by repeat (first | exact Sub.nil _ | refine Sub.cons rfl ?_)) ?_
    rintro k ⟨hk3, hall⟩
    refine e_seq ?_
    refine e_region ?_
    refine w_val (v_lss rfl rfl) rfl ?_
    refine w_nil ?_
    refine e_seq ?_
    refine e_condD rfl (fun hlt => ?_) (fun hlt => ?_)
    · have hnn := lim_nonneg o.kind k (by omega)
      generalize hm : (limL o.kind).getD k 0 = mk at *
      generalize hx : [o.a, o.b, o.c].getD k 0 = xk at *
      refine e_skip ?_
      refine e_seq ?_
      refine e_block ?_
      refine e_seq ?_
      refine e_region ?_
      refine w_val (v_move rfl) rfl ?_
      refine w_val (v_indexV Try.underlying115 Try.underlying3 rfl Try.hi3 Try.cz3 rfl rfl (by omega) (idx3 o.a o.b o.c k (by omega))) rfl ?_
      refine w_val (v_assign rfl) rfl ?_
      refine w_val (v_assign rfl) rfl ?_
      refine w_nil ?_
      refine e_block ?_
      refine e_seq ?_
      refine e_test 28 (decide (mk = 0 ∧ xk ≠ 0)) ?_ ?_
      · refine e_region ?_
        refine w_val (v_move rfl) rfl ?_
        first | refine w_val (v_indexAB Try.underlying115 Try.hi3 Try.cz3 rfl rfl (by omega)) rfl ?_ | refine w_val (v_indexA Try.underlying115 Try.hi3 Try.cz3 rfl rfl (by omega)) rfl ?_
        refine w_val (v_loadB 0 rfl Try.underlying3 rfl rfl (lim_cell o.kind k (by omega))) rfl ?_
        refine w_valD (v_eql rfl rfl) rfl (fun hg3 => ?_) (fun hg3 => ?_)
        · refine w_val (v_move rfl) rfl ?_
          refine w_want rfl rfl ?_
          refine w_val (v_move rfl) rfl ?_
          refine w_want rfl rfl ?_
          refine w_valD (v_neq rfl rfl) rfl (fun hg6 => ?_) (fun hg6 => ?_)
          · refine w_val (v_pickT rfl rfl) rfl ?_
            refine w_val (v_assign rfl) rfl ?_
            refine w_nil ?_
            exact e_testEnd rfl (by first | (simp_all; done) | (simp_all; omega)) (by repeat (first | exact Sub.refl _ | exact Sub.nil _ | exact Sub.del _ _ | refine Sub.skip rfl ?_)) (fun _ hw => hw)
          · refine w_val (v_pickT rfl rfl) rfl ?_
            refine w_val (v_assign rfl) rfl ?_
            refine w_nil ?_
            exact e_testEnd rfl (by first | (simp_all; done) | (simp_all; omega)) (by repeat (first | exact Sub.refl _ | exact Sub.nil _ | exact Sub.del _ _ | refine Sub.skip rfl ?_)) (fun _ hw => hw)
        · refine w_val (v_move rfl) rfl ?_
          refine w_skip rfl rfl rfl rfl ?_
          refine w_skip rfl rfl rfl rfl ?_
          refine w_val (v_pickF rfl rfl) rfl ?_
          refine w_val (v_assign rfl) rfl ?_
          refine w_nil ?_
          exact e_testEnd rfl (by first | (simp_all; done) | (simp_all; omega)) (by repeat (first | exact Sub.refl _ | exact Sub.nil _ | exact Sub.del _ _ | refine Sub.skip rfl ?_)) (fun _ hw => hw)
      refine e_condD rfl (fun h1 => ?_) (fun h1 => ?_)
      · refine e_seq ?_
        refine e_region ?_
        refine w_val (v_assign rfl) rfl ?_
        refine w_nil ?_
        refine e_retQ (q_ret1 rfl (.tmp rfl) ?_)
        exact fun w' hw' => ⟨by rw [opFault_at o hk k (by omega) hall 3 (by omega) (by rw [hm, hx]; simp [badL, h1])], hw'.res.nil⟩
      · refine e_seq ?_
        refine e_test 37 (decide (0 < mk ∧ (xk < 0 ∨ mk ≤ xk))) ?_ ?_
        · refine e_region ?_
          refine w_val (v_move rfl) rfl ?_
          first | refine w_val (v_indexAB Try.underlying115 Try.hi3 Try.cz3 rfl rfl (by omega)) rfl ?_ | refine w_val (v_indexA Try.underlying115 Try.hi3 Try.cz3 rfl rfl (by omega)) rfl ?_
          refine w_val (v_loadB 0 rfl Try.underlying3 rfl rfl (lim_cell o.kind k (by omega))) rfl ?_
          refine w_valD (v_gtr rfl rfl) rfl (fun hg3 => ?_) (fun hg3 => ?_)
          · refine w_val (v_move rfl) rfl ?_
            refine w_want rfl rfl ?_
            refine w_val (v_move rfl) rfl ?_
            refine w_want rfl rfl ?_
            refine w_valD (v_lss rfl rfl) rfl (fun hg6 => ?_) (fun hg6 => ?_)
            · refine w_want rfl rfl ?_
              refine w_val (v_move rfl) rfl ?_
              refine w_skip rfl rfl rfl rfl ?_
              refine w_skip rfl rfl rfl rfl ?_
              refine w_skip rfl rfl rfl rfl ?_
              refine w_skip rfl rfl rfl rfl ?_
              refine w_skip rfl rfl rfl rfl ?_
              refine w_want rfl rfl ?_
              refine w_val (v_pickT rfl rfl) rfl ?_
              refine w_val (v_pickT rfl rfl) rfl ?_
              refine w_val (v_assign rfl) rfl ?_
              refine w_nil ?_
              exact e_testEnd rfl (by first | (simp_all; done) | (simp_all; omega)) (by repeat (first | exact Sub.refl _ | exact Sub.nil _ | exact Sub.del _ _ | refine Sub.skip rfl ?_)) (fun _ hw => hw)
            · refine w_want rfl rfl ?_
              refine w_val (v_move rfl) rfl ?_
              refine w_want rfl rfl ?_
              refine w_val (v_move rfl) rfl ?_
              refine w_want rfl rfl ?_
              refine w_val (v_move rfl) rfl ?_
              refine w_want rfl rfl ?_
              first | refine w_val (v_indexAB Try.underlying115 Try.hi3 Try.cz3 rfl rfl (by omega)) rfl ?_ | refine w_val (v_indexA Try.underlying115 Try.hi3 Try.cz3 rfl rfl (by omega)) rfl ?_
              refine w_want rfl rfl ?_
              refine w_val (v_loadB 0 rfl Try.underlying3 rfl rfl (lim_cell o.kind k (by omega))) rfl ?_
              refine w_want rfl rfl ?_
              refine w_valD (v_geq rfl rfl) rfl (fun hg12 => ?_) (fun hg12 => ?_)
              · refine w_want rfl rfl ?_
                refine w_val (v_pickF rfl rfl) rfl ?_
                refine w_val (v_pickT rfl rfl) rfl ?_
                refine w_val (v_assign rfl) rfl ?_
                refine w_nil ?_
                exact e_testEnd rfl (by first | (simp_all; done) | (simp_all; omega)) (by repeat (first | exact Sub.refl _ | exact Sub.nil _ | exact Sub.del _ _ | refine Sub.skip rfl ?_)) (fun _ hw => hw)
              · refine w_want rfl rfl ?_
                refine w_val (v_pickF rfl rfl) rfl ?_
                refine w_val (v_pickT rfl rfl) rfl ?_
                refine w_val (v_assign rfl) rfl ?_
                refine w_nil ?_
                exact e_testEnd rfl (by first | (simp_all; done) | (simp_all; omega)) (by repeat (first | exact Sub.refl _ | exact Sub.nil _ | exact Sub.del _ _ | refine Sub.skip rfl ?_)) (fun _ hw => hw)
          · refine w_val (v_move rfl) rfl ?_
            refine w_skip rfl rfl rfl rfl ?_
            refine w_skip rfl rfl rfl rfl ?_
            refine w_skip rfl rfl rfl rfl ?_
            refine w_skip rfl rfl rfl rfl ?_
            refine w_skip rfl rfl rfl rfl ?_
            refine w_skip rfl rfl rfl rfl ?_
            refine w_skip rfl rfl rfl rfl ?_
            refine w_skip rfl rfl rfl rfl ?_
            refine w_skip rfl rfl rfl rfl ?_
            refine w_val (v_pickF rfl rfl) rfl ?_
            refine w_val (v_assign rfl) rfl ?_
            refine w_nil ?_
            exact e_testEnd rfl (by first | (simp_all; done) | (simp_all; omega)) (by repeat (first | exact Sub.refl _ | exact Sub.nil _ | exact Sub.del _ _ | refine Sub.skip rfl ?_)) (fun _ hw => hw)
        refine e_condD rfl (fun h2 => ?_) (fun h2 => ?_)
        · refine e_seq ?_
          refine e_region ?_
          refine w_val (v_assign rfl) rfl ?_
          refine w_nil ?_
          refine e_retQ (q_ret1 rfl (.tmp rfl) ?_)
          exact fun w' hw' => ⟨by rw [opFault_at o hk k (by omega) hall 1 (by omega) (by rw [hm, hx]; simp only [badL]; rw [if_neg (by omega), if_pos h2.2])], hw'.res.nil⟩
        · refine e_skip ?_
          refine e_blk ?_
          refine e_blk ?_
          refine e_region ?_
          first | refine w_val (v_add rfl rfl (by omega)) rfl ?_ | refine w_val (v_addw rfl rfl) rfl ?_
          refine w_val (v_move rfl) rfl ?_
          refine w_nil ?_
          exact e_round (k + 1) (⟨by omega, fun j hj => by rcases (by omega : j < k ∨ j = k) with h | rfl; exact hall j h; rw [hm, hx]; simp only [badL]; split <;> simp_all <;> omega⟩) (by omega) (by repeat (first | exact Sub.nil _ | refine Sub.cons rfl ?_)) (fun _ hw => hw)
    · refine e_exit rfl ?_
      refine e_seq ?_
      refine e_seq ?_
      obtain rfl : k = 3 := by omega
      refine e_test 61 (decide (o.kind ≠ 1 ∧ o.n ≠ 0)) ?_ ?_
      · refine e_region ?_
        first | refine w_val (v_fieldAddrB (o := 0) Try.underlying36 rfl rfl Try.nz3 rfl) rfl ?_ | refine w_val (v_fieldAddr (o := 0) Try.underlying36 rfl rfl Try.nz3 rfl) rfl ?_
        first | refine w_val (v_loadB 0 rfl Try.underlying3 rfl rfl rfl) rfl ?_ | refine w_val (v_loadB 1 rfl Try.underlying3 rfl rfl rfl) rfl ?_ | refine w_val (v_loadB 2 rfl Try.underlying3 rfl rfl rfl) rfl ?_ | refine w_val (v_loadB 3 rfl Try.underlying3 rfl rfl rfl) rfl ?_ | refine w_val (v_loadB 4 rfl Try.underlying3 rfl rfl rfl) rfl ?_ | refine w_val (v_loadB 5 rfl Try.underlying3 rfl rfl rfl) rfl ?_ | refine w_val (v_loadB 6 rfl Try.underlying3 rfl rfl rfl) rfl ?_ | refine w_val (v_loadB 7 rfl Try.underlying3 rfl rfl rfl) rfl ?_
        refine w_valD (v_neq rfl rfl) rfl (fun hg2 => ?_) (fun hg2 => ?_)
        · refine w_val (v_move rfl) rfl ?_
          refine w_want rfl rfl ?_
          first | refine w_val (v_fieldAddrB (o := 4) Try.underlying36 rfl rfl Try.nz2 rfl) rfl ?_ | refine w_val (v_fieldAddr (o := 4) Try.underlying36 rfl rfl Try.nz2 rfl) rfl ?_
          refine w_want rfl rfl ?_
          first | refine w_val (v_loadB 0 rfl Try.underlying2 rfl rfl rfl) rfl ?_ | refine w_val (v_loadB 1 rfl Try.underlying2 rfl rfl rfl) rfl ?_ | refine w_val (v_loadB 2 rfl Try.underlying2 rfl rfl rfl) rfl ?_ | refine w_val (v_loadB 3 rfl Try.underlying2 rfl rfl rfl) rfl ?_ | refine w_val (v_loadB 4 rfl Try.underlying2 rfl rfl rfl) rfl ?_ | refine w_val (v_loadB 5 rfl Try.underlying2 rfl rfl rfl) rfl ?_ | refine w_val (v_loadB 6 rfl Try.underlying2 rfl rfl rfl) rfl ?_ | refine w_val (v_loadB 7 rfl Try.underlying2 rfl rfl rfl) rfl ?_
          refine w_want rfl rfl ?_
          refine w_valD (v_neq rfl rfl) rfl (fun hg6 => ?_) (fun hg6 => ?_)
          · refine w_val (v_pickT rfl rfl) rfl ?_
            refine w_nil ?_
            exact e_testEnd rfl (by first | (simp_all; done) | (simp_all; omega)) (by repeat (first | exact Sub.refl _ | exact Sub.nil _ | exact Sub.del _ _ | refine Sub.skip rfl ?_)) (fun _ hw => hw)
          · refine w_val (v_pickT rfl rfl) rfl ?_
            refine w_nil ?_
            exact e_testEnd rfl (by first | (simp_all; done) | (simp_all; omega)) (by repeat (first | exact Sub.refl _ | exact Sub.nil _ | exact Sub.del _ _ | refine Sub.skip rfl ?_)) (fun _ hw => hw)
        · refine w_val (v_move rfl) rfl ?_
          refine w_skip rfl rfl rfl rfl ?_
          refine w_skip rfl rfl rfl rfl ?_
          refine w_skip rfl rfl rfl rfl ?_
          refine w_val (v_pickF rfl rfl) rfl ?_
          refine w_nil ?_
          exact e_testEnd rfl (by first | (simp_all; done) | (simp_all; omega)) (by repeat (first | exact Sub.refl _ | exact Sub.nil _ | exact Sub.del _ _ | refine Sub.skip rfl ?_)) (fun _ hw => hw)
      refine e_condD rfl (fun h1 => ?_) (fun h1 => ?_)
      · refine e_seq ?_
        refine e_region ?_
        refine w_val (v_assign rfl) rfl ?_
        refine w_nil ?_
        refine e_retQ (q_ret1 rfl (.tmp rfl) ?_)
        exact fun w' hw' => ⟨by rw [opFault_end o hk hall, if_pos h1], hw'.res.nil⟩
      · refine e_skip ?_
        refine e_seq ?_
        refine e_region ?_
        refine w_val (v_assign rfl) rfl ?_
        refine w_nil ?_
        refine e_retQ (q_ret1 rfl (.tmp rfl) ?_)
        exact fun w' hw' => ⟨by rw [opFault_end o hk hall, if_neg h1], hw'.res.nil⟩
end Go.SL
