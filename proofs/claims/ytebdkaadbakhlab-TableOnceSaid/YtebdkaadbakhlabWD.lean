/- Ytebdkaadbakhlab: part WD of this seat's own texts. -/
import Derived.Test.YtebdkaadbakhlabWC
import Derived.Test.YtebdkaadbakhlabP5
set_option linter.unusedVariables false
set_option linter.unusedSimpArgs false
section
open Go Go.Proofs Go.SL
set_option maxRecDepth 100000
namespace Go.SL
theorem keysOf_spec (v : Value) (d : DeedL) (w : World) (h : IsDeed w.cell? v d) (hmax : d.length ≤ 1000000) :
    Calls Try.prog 38 #[v] w fun e w' => ∃ sl, True ∧ e = .returned sl ∧ Res w [] [Own sl 3 1 (keysL d).length (intsC (keysL d))] w' := by
  rw [← off_none w] at h
  obtain ⟨A, kp, rfl, hle, hc⟩ := h.form
  refine enter0 (N := 71) Try.func38 rfl rfl rfl ?_
  refine e_seq ?_
  refine e_region ?_
  refine w_val (v_assign rfl) rfl ?_
  refine w_nil ?_
  refine e_seq ?_
  refine e_region ?_
  refine w_val (v_assign rfl) rfl ?_
  refine w_nil ?_
  refine e_seq ?_
  refine e_seq ?_
  refine e_region ?_
  refine w_val (v_assign rfl) rfl ?_
  refine w_nil ?_
  refine g_heap (fun _ hw => hw.ownNil 3 1) ?_
  refine e_block ?_
  refine e_loopH (σ := Nat × Value × List Int) [0] (.cons rfl .nil) (fun x => [(3, x.2.1), (4, .int .i64 (x.1 : Int))]) (fun x => [Own x.2.1 3 1 x.2.2.length (intsC x.2.2)]) (fun x => x.1 ≤ d.length ∧ x.2.2.Pairwise (· < ·) ∧ (∀ y, y ∈ x.2.2 ↔ y ∈ storesOf (d.take x.1)) ∧ x.2.2.length ≤ x.1) (fun x => d.length - x.1) (0, .slice none 0 0, []) ⟨by dsimp only; omega, List.Pairwise.nil, by simp [storesOf], by simp⟩ (by repeat (first | exact Sub.nil _ | refine Sub.cons rfl ?_)) (fun _ hw => hw) ?_
  rintro ⟨i, vo, acc⟩ ⟨hi, hris, hmem, hal⟩
  dsimp only at hi hris hmem hal ⊢
  refine g_shape2 0 rfl fun A1 k1 hv1 hk1 hA1 => ?_
  subst hv1
  refine e_seq ?_
  refine e_seq ?_
  refine e_region ?_
  refine w_val (v_move rfl) rfl ?_
  refine w_val (v_move rfl) rfl ?_
  refine w_val (v_lenS Try.underlying52 rfl) rfl ?_
  refine w_val (v_lss rfl rfl) rfl ?_
  refine w_nil ?_
  refine e_condD rfl (fun hlt => ?_) (fun hlt => ?_)
  · have hlt' : i < d.length := by omega
    obtain ⟨ad, rfl, hop⟩ := IsDeed.cells hc hlt'
    have hnext := storesOf_succ hlt'
    generalize hpost : d.take (i + 1) = post at *
    generalize d.take i = pre at *
    generalize d[i] = o at *
    refine e_skip ?_
    refine e_seq ?_
    refine e_block ?_
    refine e_seq ?_
    refine e_seq ?_
    refine e_region ?_
    refine w_val (v_move rfl) rfl ?_
    refine w_val (v_move rfl) rfl ?_
    refine w_val (v_indexS Try.underlying52 Try.hi61 Try.cz61 rfl rfl (by first | omega | decide)) rfl ?_
    refine w_val (v_fieldAddr (o := 0) Try.underlying61 rfl rfl Try.nz3 rfl) rfl ?_
    refine w_val (v_loadO Try.underlying3 rfl rfl ((hop) _ _ rfl)) rfl ?_
    refine w_val (v_neq rfl rfl) rfl ?_
    refine w_nil ?_
    refine e_condD rfl (fun h7 => ?_) (fun h7 => ?_)
    · rw [if_neg h7] at hnext
      refine e_exit rfl ?_
      refine e_region ?_
      refine w_val (v_move rfl) rfl ?_
      refine w_val (v_add rfl rfl (by omega)) rfl ?_
      refine w_val (v_assign rfl) rfl ?_
      refine w_nil ?_
      exact e_round ((i + 1, .slice A1 acc.length k1, acc)) (⟨by dsimp only; omega, hris, by dsimp only; rw [hpost, hnext]; exact hmem, by dsimp only; omega⟩) (by dsimp only; omega) (by repeat (first | exact Sub.nil _ | refine Sub.cons rfl ?_)) (fun _ hw => hw)
    · have h7' : o.kind = 7 := by omega
      rw [if_pos h7'] at hnext
      refine e_skip ?_
      refine e_seq ?_
      refine e_region ?_
      refine w_val (v_assign rfl) rfl ?_
      refine w_nil ?_
      refine e_seq ?_
      refine e_cutK (σ := Nat) [0, 3, 4] (.cons rfl (.cons rfl (.cons rfl .nil))) (fun j => [(5, .int .i64 (j : Int))]) (fun j => j ≤ acc.length ∧ (∀ y ∈ acc.take j, y < o.a) ∧ ∀ h : j < acc.length, o.a ≤ acc[j]) ?_ ?_
      · refine e_block ?_
        refine e_loopK (σ := Nat) [0, 3, 4] (.cons rfl (.cons rfl (.cons rfl .nil))) (fun j => [(5, .int .i64 (j : Int))]) (fun j => j ≤ acc.length ∧ ∀ y ∈ acc.take j, y < o.a) (fun j => acc.length - j) 0 ⟨by omega, by simp⟩ (by repeat (first | exact Sub.nil _ | refine Sub.cons rfl ?_)) ?_
        rintro j ⟨hj, hbelow⟩
        by_cases hjl : j < acc.length
        · have hget := ints_get hjl
          have htk : acc.take (j + 1) = acc.take j ++ [acc[j]] := List.take_succ_eq_append_getElem hjl
          obtain ⟨ad1, rfl⟩ := hA1 (by omega)
          by_cases hx : acc[j] < o.a
          · refine e_seq ?_
            refine e_seq ?_
            refine e_draw ([Own (.slice (some ad1) acc.length k1) 3 1 acc.length (intsC acc)]) Try.mixed ?_
            refine a_take 0 pan_cx (by kernel_rfl) (fun _ hw => hw.sub (by repeat (first | exact List.Sublist.slnil | exact List.Sublist.refl _ | apply List.Sublist.cons_cons | apply List.Sublist.cons))) rfl (by kernel_rfl) (by kernel_rfl) (v_move rfl) rfl ?_
            refine a_take 1 pan_cx (by kernel_rfl) (fun _ hw => hw.sub (by repeat (first | exact List.Sublist.slnil | exact List.Sublist.refl _ | apply List.Sublist.cons_cons | apply List.Sublist.cons))) rfl (by kernel_rfl) (by kernel_rfl) (v_move rfl) rfl ?_
            refine a_take 2 pan_cx (by kernel_rfl) (fun _ hw => hw.sub (by repeat (first | exact List.Sublist.slnil | exact List.Sublist.refl _ | apply List.Sublist.cons_cons | apply List.Sublist.cons))) rfl (by kernel_rfl) (by kernel_rfl) (v_lenS Try.underlying53 rfl) rfl ?_
            refine a_take 3 pan_cx (by kernel_rfl) (fun _ hw => hw.sub (by repeat (first | exact List.Sublist.slnil | exact List.Sublist.refl _ | apply List.Sublist.cons_cons | apply List.Sublist.cons))) rfl (by kernel_rfl) (by kernel_rfl) (v_is (v' := .bool true) (v_lss rfl rfl) (by rw [decide_eq_true (by omega)])) rfl ?_
            refine a_take 4 pan_cx (by kernel_rfl) (fun _ hw => hw.sub (by repeat (first | exact List.Sublist.slnil | exact List.Sublist.refl _ | apply List.Sublist.cons_cons | apply List.Sublist.cons))) rfl (by kernel_rfl) (by kernel_rfl) (v_move rfl) rfl ?_
            refine a_want 5 pan_cx (by kernel_rfl) (fun _ hw => hw.sub (by repeat (first | exact List.Sublist.slnil | exact List.Sublist.refl _ | apply List.Sublist.cons_cons | apply List.Sublist.cons))) rfl (by kernel_rfl) (by kernel_rfl) rfl rfl (v_move rfl) rfl ?_
            refine a_want 6 pan_cx (by kernel_rfl) (fun _ hw => hw.sub (by repeat (first | exact List.Sublist.slnil | exact List.Sublist.refl _ | apply List.Sublist.cons_cons | apply List.Sublist.cons))) rfl (by kernel_rfl) (by kernel_rfl) rfl rfl (v_move rfl) rfl ?_
            refine a_want 7 pan_cx (by kernel_rfl) (fun _ hw => hw.sub (by repeat (first | exact List.Sublist.slnil | exact List.Sublist.refl _ | apply List.Sublist.cons_cons | apply List.Sublist.cons))) rfl (by kernel_rfl) (by kernel_rfl) rfl rfl (v_indexS Try.underlying53 Try.hi3 Try.cz3 rfl rfl (by first | omega | decide)) rfl ?_
            refine a_want 8 pan_cx (by kernel_rfl) (fun _ hw => hw.sub (by repeat (first | exact List.Sublist.slnil | exact List.Sublist.refl _ | apply List.Sublist.cons_cons | apply List.Sublist.cons))) rfl (by kernel_rfl) (by kernel_rfl) rfl rfl (v_loadW 0 rfl (by omega) hget Try.underlying3 rfl rfl) rfl ?_
            refine a_want 9 pan_cx (by kernel_rfl) (fun _ hw => hw.sub (by repeat (first | exact List.Sublist.slnil | exact List.Sublist.refl _ | apply List.Sublist.cons_cons | apply List.Sublist.cons))) rfl (by kernel_rfl) (by kernel_rfl) rfl rfl (v_move rfl) rfl ?_
            refine a_want 10 pan_cx (by kernel_rfl) (fun _ hw => hw.sub (by repeat (first | exact List.Sublist.slnil | exact List.Sublist.refl _ | apply List.Sublist.cons_cons | apply List.Sublist.cons))) rfl (by kernel_rfl) (by kernel_rfl) rfl rfl (v_move rfl) rfl ?_
            refine a_want 11 pan_cx (by kernel_rfl) (fun _ hw => hw.sub (by repeat (first | exact List.Sublist.slnil | exact List.Sublist.refl _ | apply List.Sublist.cons_cons | apply List.Sublist.cons))) rfl (by kernel_rfl) (by kernel_rfl) rfl rfl (v_indexS Try.underlying52 Try.hi61 Try.cz61 rfl rfl (by first | omega | decide)) rfl ?_
            refine a_want 12 pan_cx (by kernel_rfl) (fun _ hw => hw.sub (by repeat (first | exact List.Sublist.slnil | exact List.Sublist.refl _ | apply List.Sublist.cons_cons | apply List.Sublist.cons))) rfl (by kernel_rfl) (by kernel_rfl) rfl rfl (v_fieldAddr (o := 1) Try.underlying61 rfl rfl Try.nz3 rfl) rfl ?_
            refine a_want 13 pan_cx (by kernel_rfl) (fun _ hw => hw.sub (by repeat (first | exact List.Sublist.slnil | exact List.Sublist.refl _ | apply List.Sublist.cons_cons | apply List.Sublist.cons))) rfl (by kernel_rfl) (by kernel_rfl) rfl rfl (v_loadO Try.underlying3 rfl rfl ((hop) _ _ rfl)) rfl ?_
            refine a_want 14 pan_cx (by kernel_rfl) (fun _ hw => hw.sub (by repeat (first | exact List.Sublist.slnil | exact List.Sublist.refl _ | apply List.Sublist.cons_cons | apply List.Sublist.cons))) rfl (by kernel_rfl) (by kernel_rfl) rfl rfl (v_is (v' := .bool true) (v_lss rfl rfl) (by rw [decide_eq_true hx])) rfl ?_
            refine a_take 15 pan_cx (by kernel_rfl) (fun _ hw => hw.sub (by repeat (first | exact List.Sublist.slnil | exact List.Sublist.refl _ | apply List.Sublist.cons_cons | apply List.Sublist.cons))) rfl (by kernel_rfl) (by kernel_rfl) (v_pickT rfl rfl) rfl ?_
            refine a_done (by kernel_rfl) ?_
            refine e_condT rfl ?_
            refine e_skip ?_
            refine e_block ?_
            refine e_region ?_
            refine w_val (v_move rfl) rfl ?_
            refine w_val (v_add rfl rfl (by omega)) rfl ?_
            refine w_val (v_assign rfl) rfl ?_
            refine w_nil ?_
            refine e_blk ?_
            exact e_round (j + 1) (⟨by omega, by rw [htk]; intro y hy; rcases List.mem_append.1 hy with hy | hy; exact hbelow y hy; rw [List.mem_singleton.1 hy]; exact hx⟩) (by omega) (by repeat (first | exact Sub.nil _ | refine Sub.cons rfl ?_)) (fun _ hw => hw)
          · refine e_seq ?_
            refine e_seq ?_
            refine e_draw ([Own (.slice (some ad1) acc.length k1) 3 1 acc.length (intsC acc)]) Try.mixed ?_
            refine a_take 0 pan_cx (by kernel_rfl) (fun _ hw => hw.sub (by repeat (first | exact List.Sublist.slnil | exact List.Sublist.refl _ | apply List.Sublist.cons_cons | apply List.Sublist.cons))) rfl (by kernel_rfl) (by kernel_rfl) (v_move rfl) rfl ?_
            refine a_take 1 pan_cx (by kernel_rfl) (fun _ hw => hw.sub (by repeat (first | exact List.Sublist.slnil | exact List.Sublist.refl _ | apply List.Sublist.cons_cons | apply List.Sublist.cons))) rfl (by kernel_rfl) (by kernel_rfl) (v_move rfl) rfl ?_
            refine a_take 2 pan_cx (by kernel_rfl) (fun _ hw => hw.sub (by repeat (first | exact List.Sublist.slnil | exact List.Sublist.refl _ | apply List.Sublist.cons_cons | apply List.Sublist.cons))) rfl (by kernel_rfl) (by kernel_rfl) (v_lenS Try.underlying53 rfl) rfl ?_
            refine a_take 3 pan_cx (by kernel_rfl) (fun _ hw => hw.sub (by repeat (first | exact List.Sublist.slnil | exact List.Sublist.refl _ | apply List.Sublist.cons_cons | apply List.Sublist.cons))) rfl (by kernel_rfl) (by kernel_rfl) (v_is (v' := .bool true) (v_lss rfl rfl) (by rw [decide_eq_true (by omega)])) rfl ?_
            refine a_take 4 pan_cx (by kernel_rfl) (fun _ hw => hw.sub (by repeat (first | exact List.Sublist.slnil | exact List.Sublist.refl _ | apply List.Sublist.cons_cons | apply List.Sublist.cons))) rfl (by kernel_rfl) (by kernel_rfl) (v_move rfl) rfl ?_
            refine a_want 5 pan_cx (by kernel_rfl) (fun _ hw => hw.sub (by repeat (first | exact List.Sublist.slnil | exact List.Sublist.refl _ | apply List.Sublist.cons_cons | apply List.Sublist.cons))) rfl (by kernel_rfl) (by kernel_rfl) rfl rfl (v_move rfl) rfl ?_
            refine a_want 6 pan_cx (by kernel_rfl) (fun _ hw => hw.sub (by repeat (first | exact List.Sublist.slnil | exact List.Sublist.refl _ | apply List.Sublist.cons_cons | apply List.Sublist.cons))) rfl (by kernel_rfl) (by kernel_rfl) rfl rfl (v_move rfl) rfl ?_
            refine a_want 7 pan_cx (by kernel_rfl) (fun _ hw => hw.sub (by repeat (first | exact List.Sublist.slnil | exact List.Sublist.refl _ | apply List.Sublist.cons_cons | apply List.Sublist.cons))) rfl (by kernel_rfl) (by kernel_rfl) rfl rfl (v_indexS Try.underlying53 Try.hi3 Try.cz3 rfl rfl (by first | omega | decide)) rfl ?_
            refine a_want 8 pan_cx (by kernel_rfl) (fun _ hw => hw.sub (by repeat (first | exact List.Sublist.slnil | exact List.Sublist.refl _ | apply List.Sublist.cons_cons | apply List.Sublist.cons))) rfl (by kernel_rfl) (by kernel_rfl) rfl rfl (v_loadW 0 rfl (by omega) hget Try.underlying3 rfl rfl) rfl ?_
            refine a_want 9 pan_cx (by kernel_rfl) (fun _ hw => hw.sub (by repeat (first | exact List.Sublist.slnil | exact List.Sublist.refl _ | apply List.Sublist.cons_cons | apply List.Sublist.cons))) rfl (by kernel_rfl) (by kernel_rfl) rfl rfl (v_move rfl) rfl ?_
            refine a_want 10 pan_cx (by kernel_rfl) (fun _ hw => hw.sub (by repeat (first | exact List.Sublist.slnil | exact List.Sublist.refl _ | apply List.Sublist.cons_cons | apply List.Sublist.cons))) rfl (by kernel_rfl) (by kernel_rfl) rfl rfl (v_move rfl) rfl ?_
            refine a_want 11 pan_cx (by kernel_rfl) (fun _ hw => hw.sub (by repeat (first | exact List.Sublist.slnil | exact List.Sublist.refl _ | apply List.Sublist.cons_cons | apply List.Sublist.cons))) rfl (by kernel_rfl) (by kernel_rfl) rfl rfl (v_indexS Try.underlying52 Try.hi61 Try.cz61 rfl rfl (by first | omega | decide)) rfl ?_
            refine a_want 12 pan_cx (by kernel_rfl) (fun _ hw => hw.sub (by repeat (first | exact List.Sublist.slnil | exact List.Sublist.refl _ | apply List.Sublist.cons_cons | apply List.Sublist.cons))) rfl (by kernel_rfl) (by kernel_rfl) rfl rfl (v_fieldAddr (o := 1) Try.underlying61 rfl rfl Try.nz3 rfl) rfl ?_
            refine a_want 13 pan_cx (by kernel_rfl) (fun _ hw => hw.sub (by repeat (first | exact List.Sublist.slnil | exact List.Sublist.refl _ | apply List.Sublist.cons_cons | apply List.Sublist.cons))) rfl (by kernel_rfl) (by kernel_rfl) rfl rfl (v_loadO Try.underlying3 rfl rfl ((hop) _ _ rfl)) rfl ?_
            refine a_want 14 pan_cx (by kernel_rfl) (fun _ hw => hw.sub (by repeat (first | exact List.Sublist.slnil | exact List.Sublist.refl _ | apply List.Sublist.cons_cons | apply List.Sublist.cons))) rfl (by kernel_rfl) (by kernel_rfl) rfl rfl (v_is (v' := .bool false) (v_lss rfl rfl) (by rw [decide_eq_false hx])) rfl ?_
            refine a_take 15 pan_cx (by kernel_rfl) (fun _ hw => hw.sub (by repeat (first | exact List.Sublist.slnil | exact List.Sublist.refl _ | apply List.Sublist.cons_cons | apply List.Sublist.cons))) rfl (by kernel_rfl) (by kernel_rfl) (v_pickT rfl rfl) rfl ?_
            refine a_done (by kernel_rfl) ?_
            refine e_condF rfl ?_
            refine e_exit rfl ?_
            exact e_cutEnd (j) (⟨hj, hbelow, fun _ => by omega⟩) (by repeat (first | exact Sub.nil _ | refine Sub.cons rfl ?_)) (fun _ hw => hw)
        · refine e_seq ?_
          refine e_seq ?_
          refine e_draw ([Own (.slice A1 acc.length k1) 3 1 acc.length (intsC acc)]) Try.mixed ?_
          refine a_take 0 pan_cx (by kernel_rfl) (fun _ hw => hw.sub (by repeat (first | exact List.Sublist.slnil | exact List.Sublist.refl _ | apply List.Sublist.cons_cons | apply List.Sublist.cons))) rfl (by kernel_rfl) (by kernel_rfl) (v_move rfl) rfl ?_
          refine a_take 1 pan_cx (by kernel_rfl) (fun _ hw => hw.sub (by repeat (first | exact List.Sublist.slnil | exact List.Sublist.refl _ | apply List.Sublist.cons_cons | apply List.Sublist.cons))) rfl (by kernel_rfl) (by kernel_rfl) (v_move rfl) rfl ?_
          refine a_take 2 pan_cx (by kernel_rfl) (fun _ hw => hw.sub (by repeat (first | exact List.Sublist.slnil | exact List.Sublist.refl _ | apply List.Sublist.cons_cons | apply List.Sublist.cons))) rfl (by kernel_rfl) (by kernel_rfl) (v_lenS Try.underlying53 rfl) rfl ?_
          refine a_take 3 pan_cx (by kernel_rfl) (fun _ hw => hw.sub (by repeat (first | exact List.Sublist.slnil | exact List.Sublist.refl _ | apply List.Sublist.cons_cons | apply List.Sublist.cons))) rfl (by kernel_rfl) (by kernel_rfl) (v_is (v' := .bool false) (v_lss rfl rfl) (by rw [decide_eq_false (by omega)])) rfl ?_
          refine a_take 4 pan_cx (by kernel_rfl) (fun _ hw => hw.sub (by repeat (first | exact List.Sublist.slnil | exact List.Sublist.refl _ | apply List.Sublist.cons_cons | apply List.Sublist.cons))) rfl (by kernel_rfl) (by kernel_rfl) (v_move rfl) rfl ?_
          refine a_skip 5 pan_cx (by kernel_rfl) (fun _ hw => hw.sub (by repeat (first | exact List.Sublist.slnil | exact List.Sublist.refl _ | apply List.Sublist.cons_cons | apply List.Sublist.cons))) rfl (by kernel_rfl) (by kernel_rfl) rfl rfl rfl rfl ?_
          refine a_skip 6 pan_cx (by kernel_rfl) (fun _ hw => hw.sub (by repeat (first | exact List.Sublist.slnil | exact List.Sublist.refl _ | apply List.Sublist.cons_cons | apply List.Sublist.cons))) rfl (by kernel_rfl) (by kernel_rfl) rfl rfl rfl rfl ?_
          refine a_skip 7 pan_cx (by kernel_rfl) (fun _ hw => hw.sub (by repeat (first | exact List.Sublist.slnil | exact List.Sublist.refl _ | apply List.Sublist.cons_cons | apply List.Sublist.cons))) rfl (by kernel_rfl) (by kernel_rfl) rfl rfl rfl rfl ?_
          refine a_skip 8 pan_cx (by kernel_rfl) (fun _ hw => hw.sub (by repeat (first | exact List.Sublist.slnil | exact List.Sublist.refl _ | apply List.Sublist.cons_cons | apply List.Sublist.cons))) rfl (by kernel_rfl) (by kernel_rfl) rfl rfl rfl rfl ?_
          refine a_skip 9 pan_cx (by kernel_rfl) (fun _ hw => hw.sub (by repeat (first | exact List.Sublist.slnil | exact List.Sublist.refl _ | apply List.Sublist.cons_cons | apply List.Sublist.cons))) rfl (by kernel_rfl) (by kernel_rfl) rfl rfl rfl rfl ?_
          refine a_skip 10 pan_cx (by kernel_rfl) (fun _ hw => hw.sub (by repeat (first | exact List.Sublist.slnil | exact List.Sublist.refl _ | apply List.Sublist.cons_cons | apply List.Sublist.cons))) rfl (by kernel_rfl) (by kernel_rfl) rfl rfl rfl rfl ?_
          refine a_skip 11 pan_cx (by kernel_rfl) (fun _ hw => hw.sub (by repeat (first | exact List.Sublist.slnil | exact List.Sublist.refl _ | apply List.Sublist.cons_cons | apply List.Sublist.cons))) rfl (by kernel_rfl) (by kernel_rfl) rfl rfl rfl rfl ?_
          refine a_skip 12 pan_cx (by kernel_rfl) (fun _ hw => hw.sub (by repeat (first | exact List.Sublist.slnil | exact List.Sublist.refl _ | apply List.Sublist.cons_cons | apply List.Sublist.cons))) rfl (by kernel_rfl) (by kernel_rfl) rfl rfl rfl rfl ?_
          refine a_skip 13 pan_cx (by kernel_rfl) (fun _ hw => hw.sub (by repeat (first | exact List.Sublist.slnil | exact List.Sublist.refl _ | apply List.Sublist.cons_cons | apply List.Sublist.cons))) rfl (by kernel_rfl) (by kernel_rfl) rfl rfl rfl rfl ?_
          refine a_skip 14 pan_cx (by kernel_rfl) (fun _ hw => hw.sub (by repeat (first | exact List.Sublist.slnil | exact List.Sublist.refl _ | apply List.Sublist.cons_cons | apply List.Sublist.cons))) rfl (by kernel_rfl) (by kernel_rfl) rfl rfl rfl rfl ?_
          refine a_take 15 pan_cx (by kernel_rfl) (fun _ hw => hw.sub (by repeat (first | exact List.Sublist.slnil | exact List.Sublist.refl _ | apply List.Sublist.cons_cons | apply List.Sublist.cons))) rfl (by kernel_rfl) (by kernel_rfl) (v_pickF rfl rfl) rfl ?_
          refine a_done (by kernel_rfl) ?_
          refine e_condF rfl ?_
          refine e_exit rfl ?_
          exact e_cutEnd (j) (⟨hj, hbelow, fun h => absurd h hjl⟩) (by repeat (first | exact Sub.nil _ | refine Sub.cons rfl ?_)) (fun _ hw => hw)
      · rintro j ⟨hj, hbelow, hat⟩
        by_cases hx : o.a ∈ acc
        · obtain ⟨hjl, heq⟩ := ris_find hris hbelow hat hx
          have hget := ints_get hjl
          obtain ⟨ad1, rfl⟩ := hA1 (by omega)
          have hm : ∀ y, y ∈ acc ↔ y ∈ storesOf post := fun y => by
            rw [hnext, List.mem_append, List.mem_singleton, ← hmem y]
            exact ⟨.inl, fun h => h.elim id (fun h => h ▸ hx)⟩
          refine e_seq ?_
          refine e_seq ?_
          refine e_draw ([Own (.slice (some ad1) acc.length k1) 3 1 acc.length (intsC acc)]) Try.mixed ?_
          refine a_take 0 pan_cx (by kernel_rfl) (fun _ hw => hw.sub (by repeat (first | exact List.Sublist.slnil | exact List.Sublist.refl _ | apply List.Sublist.cons_cons | apply List.Sublist.cons))) rfl (by kernel_rfl) (by kernel_rfl) (v_move rfl) rfl ?_
          refine a_take 1 pan_cx (by kernel_rfl) (fun _ hw => hw.sub (by repeat (first | exact List.Sublist.slnil | exact List.Sublist.refl _ | apply List.Sublist.cons_cons | apply List.Sublist.cons))) rfl (by kernel_rfl) (by kernel_rfl) (v_move rfl) rfl ?_
          refine a_take 2 pan_cx (by kernel_rfl) (fun _ hw => hw.sub (by repeat (first | exact List.Sublist.slnil | exact List.Sublist.refl _ | apply List.Sublist.cons_cons | apply List.Sublist.cons))) rfl (by kernel_rfl) (by kernel_rfl) (v_lenS Try.underlying53 rfl) rfl ?_
          refine a_take 3 pan_cx (by kernel_rfl) (fun _ hw => hw.sub (by repeat (first | exact List.Sublist.slnil | exact List.Sublist.refl _ | apply List.Sublist.cons_cons | apply List.Sublist.cons))) rfl (by kernel_rfl) (by kernel_rfl) (v_is (v' := .bool true) (v_lss rfl rfl) (by rw [decide_eq_true (by omega)])) rfl ?_
          refine a_take 4 pan_cx (by kernel_rfl) (fun _ hw => hw.sub (by repeat (first | exact List.Sublist.slnil | exact List.Sublist.refl _ | apply List.Sublist.cons_cons | apply List.Sublist.cons))) rfl (by kernel_rfl) (by kernel_rfl) (v_move rfl) rfl ?_
          refine a_want 5 pan_cx (by kernel_rfl) (fun _ hw => hw.sub (by repeat (first | exact List.Sublist.slnil | exact List.Sublist.refl _ | apply List.Sublist.cons_cons | apply List.Sublist.cons))) rfl (by kernel_rfl) (by kernel_rfl) rfl rfl (v_move rfl) rfl ?_
          refine a_want 6 pan_cx (by kernel_rfl) (fun _ hw => hw.sub (by repeat (first | exact List.Sublist.slnil | exact List.Sublist.refl _ | apply List.Sublist.cons_cons | apply List.Sublist.cons))) rfl (by kernel_rfl) (by kernel_rfl) rfl rfl (v_move rfl) rfl ?_
          refine a_want 7 pan_cx (by kernel_rfl) (fun _ hw => hw.sub (by repeat (first | exact List.Sublist.slnil | exact List.Sublist.refl _ | apply List.Sublist.cons_cons | apply List.Sublist.cons))) rfl (by kernel_rfl) (by kernel_rfl) rfl rfl (v_indexS Try.underlying53 Try.hi3 Try.cz3 rfl rfl (by first | omega | decide)) rfl ?_
          refine a_want 8 pan_cx (by kernel_rfl) (fun _ hw => hw.sub (by repeat (first | exact List.Sublist.slnil | exact List.Sublist.refl _ | apply List.Sublist.cons_cons | apply List.Sublist.cons))) rfl (by kernel_rfl) (by kernel_rfl) rfl rfl (v_loadW 0 rfl (by omega) hget Try.underlying3 rfl rfl) rfl ?_
          refine a_want 9 pan_cx (by kernel_rfl) (fun _ hw => hw.sub (by repeat (first | exact List.Sublist.slnil | exact List.Sublist.refl _ | apply List.Sublist.cons_cons | apply List.Sublist.cons))) rfl (by kernel_rfl) (by kernel_rfl) rfl rfl (v_move rfl) rfl ?_
          refine a_want 10 pan_cx (by kernel_rfl) (fun _ hw => hw.sub (by repeat (first | exact List.Sublist.slnil | exact List.Sublist.refl _ | apply List.Sublist.cons_cons | apply List.Sublist.cons))) rfl (by kernel_rfl) (by kernel_rfl) rfl rfl (v_move rfl) rfl ?_
          refine a_want 11 pan_cx (by kernel_rfl) (fun _ hw => hw.sub (by repeat (first | exact List.Sublist.slnil | exact List.Sublist.refl _ | apply List.Sublist.cons_cons | apply List.Sublist.cons))) rfl (by kernel_rfl) (by kernel_rfl) rfl rfl (v_indexS Try.underlying52 Try.hi61 Try.cz61 rfl rfl (by first | omega | decide)) rfl ?_
          refine a_want 12 pan_cx (by kernel_rfl) (fun _ hw => hw.sub (by repeat (first | exact List.Sublist.slnil | exact List.Sublist.refl _ | apply List.Sublist.cons_cons | apply List.Sublist.cons))) rfl (by kernel_rfl) (by kernel_rfl) rfl rfl (v_fieldAddr (o := 1) Try.underlying61 rfl rfl Try.nz3 rfl) rfl ?_
          refine a_want 13 pan_cx (by kernel_rfl) (fun _ hw => hw.sub (by repeat (first | exact List.Sublist.slnil | exact List.Sublist.refl _ | apply List.Sublist.cons_cons | apply List.Sublist.cons))) rfl (by kernel_rfl) (by kernel_rfl) rfl rfl (v_loadO Try.underlying3 rfl rfl ((hop) _ _ rfl)) rfl ?_
          refine a_want 14 pan_cx (by kernel_rfl) (fun _ hw => hw.sub (by repeat (first | exact List.Sublist.slnil | exact List.Sublist.refl _ | apply List.Sublist.cons_cons | apply List.Sublist.cons))) rfl (by kernel_rfl) (by kernel_rfl) rfl rfl (v_is (v' := .bool true) (v_eql rfl rfl) (by rw [decide_eq_true heq])) rfl ?_
          refine a_take 15 pan_cx (by kernel_rfl) (fun _ hw => hw.sub (by repeat (first | exact List.Sublist.slnil | exact List.Sublist.refl _ | apply List.Sublist.cons_cons | apply List.Sublist.cons))) rfl (by kernel_rfl) (by kernel_rfl) (v_pickT rfl rfl) rfl ?_
          refine a_done (by kernel_rfl) ?_
          refine e_condT rfl ?_
          refine e_exit rfl ?_
          refine e_region ?_
          refine w_val (v_move rfl) rfl ?_
          refine w_val (v_add rfl rfl (by omega)) rfl ?_
          refine w_val (v_assign rfl) rfl ?_
          refine w_nil ?_
          exact e_round ((i + 1, .slice (some ad1) acc.length k1, acc)) (⟨by dsimp only; omega, hris, by dsimp only; rw [hpost]; exact hm, by dsimp only; omega⟩) (by dsimp only; omega) (by repeat (first | exact Sub.nil _ | refine Sub.cons rfl ?_)) (fun _ hw => hw)
        · have hat2 : ∀ h : j < acc.length, o.a < acc[j] := fun h => by
            have h1 := hat h
            have h2 : acc[j] ≠ o.a := fun e => hx (e ▸ List.getElem_mem h)
            omega
          have habove := ris_at hris hj hat2
          have hris2 := ris_ins hris hbelow habove
          have hlen : (acc.take j ++ o.a :: acc.drop j).length = j + 1 + (acc.length - j) := by simp; omega
          have hm : ∀ y, y ∈ acc.take j ++ o.a :: acc.drop j ↔ y ∈ storesOf post := fun y => by
            rw [ins_mem, hnext, List.mem_append, List.mem_singleton, ← hmem y]
          refine e_seq ?_
          refine e_seq ?_
          refine e_cutK (σ := Unit) [0, 3, 4, 5] (.cons rfl (.cons rfl (.cons rfl (.cons rfl .nil)))) (fun _ => [(52, .bool false)]) (fun _ => True) ?_ ?_
          · by_cases hjl : j < acc.length
            · have hget := ints_get hjl
              have hne : ¬ acc[j] = o.a := fun e => hx (e ▸ List.getElem_mem hjl)
              obtain ⟨ad1, rfl⟩ := hA1 (by omega)
              refine e_draw ([Own (.slice (some ad1) acc.length k1) 3 1 acc.length (intsC acc)]) Try.mixed ?_
              refine a_take 0 pan_cx (by kernel_rfl) (fun _ hw => hw.sub (by repeat (first | exact List.Sublist.slnil | exact List.Sublist.refl _ | apply List.Sublist.cons_cons | apply List.Sublist.cons))) rfl (by kernel_rfl) (by kernel_rfl) (v_move rfl) rfl ?_
              refine a_take 1 pan_cx (by kernel_rfl) (fun _ hw => hw.sub (by repeat (first | exact List.Sublist.slnil | exact List.Sublist.refl _ | apply List.Sublist.cons_cons | apply List.Sublist.cons))) rfl (by kernel_rfl) (by kernel_rfl) (v_move rfl) rfl ?_
              refine a_take 2 pan_cx (by kernel_rfl) (fun _ hw => hw.sub (by repeat (first | exact List.Sublist.slnil | exact List.Sublist.refl _ | apply List.Sublist.cons_cons | apply List.Sublist.cons))) rfl (by kernel_rfl) (by kernel_rfl) (v_lenS Try.underlying53 rfl) rfl ?_
              refine a_take 3 pan_cx (by kernel_rfl) (fun _ hw => hw.sub (by repeat (first | exact List.Sublist.slnil | exact List.Sublist.refl _ | apply List.Sublist.cons_cons | apply List.Sublist.cons))) rfl (by kernel_rfl) (by kernel_rfl) (v_is (v' := .bool true) (v_lss rfl rfl) (by rw [decide_eq_true (by omega)])) rfl ?_
              refine a_take 4 pan_cx (by kernel_rfl) (fun _ hw => hw.sub (by repeat (first | exact List.Sublist.slnil | exact List.Sublist.refl _ | apply List.Sublist.cons_cons | apply List.Sublist.cons))) rfl (by kernel_rfl) (by kernel_rfl) (v_move rfl) rfl ?_
              refine a_want 5 pan_cx (by kernel_rfl) (fun _ hw => hw.sub (by repeat (first | exact List.Sublist.slnil | exact List.Sublist.refl _ | apply List.Sublist.cons_cons | apply List.Sublist.cons))) rfl (by kernel_rfl) (by kernel_rfl) rfl rfl (v_move rfl) rfl ?_
              refine a_want 6 pan_cx (by kernel_rfl) (fun _ hw => hw.sub (by repeat (first | exact List.Sublist.slnil | exact List.Sublist.refl _ | apply List.Sublist.cons_cons | apply List.Sublist.cons))) rfl (by kernel_rfl) (by kernel_rfl) rfl rfl (v_move rfl) rfl ?_
              refine a_want 7 pan_cx (by kernel_rfl) (fun _ hw => hw.sub (by repeat (first | exact List.Sublist.slnil | exact List.Sublist.refl _ | apply List.Sublist.cons_cons | apply List.Sublist.cons))) rfl (by kernel_rfl) (by kernel_rfl) rfl rfl (v_indexS Try.underlying53 Try.hi3 Try.cz3 rfl rfl (by first | omega | decide)) rfl ?_
              refine a_want 8 pan_cx (by kernel_rfl) (fun _ hw => hw.sub (by repeat (first | exact List.Sublist.slnil | exact List.Sublist.refl _ | apply List.Sublist.cons_cons | apply List.Sublist.cons))) rfl (by kernel_rfl) (by kernel_rfl) rfl rfl (v_loadW 0 rfl (by omega) hget Try.underlying3 rfl rfl) rfl ?_
              refine a_want 9 pan_cx (by kernel_rfl) (fun _ hw => hw.sub (by repeat (first | exact List.Sublist.slnil | exact List.Sublist.refl _ | apply List.Sublist.cons_cons | apply List.Sublist.cons))) rfl (by kernel_rfl) (by kernel_rfl) rfl rfl (v_move rfl) rfl ?_
              refine a_want 10 pan_cx (by kernel_rfl) (fun _ hw => hw.sub (by repeat (first | exact List.Sublist.slnil | exact List.Sublist.refl _ | apply List.Sublist.cons_cons | apply List.Sublist.cons))) rfl (by kernel_rfl) (by kernel_rfl) rfl rfl (v_move rfl) rfl ?_
              refine a_want 11 pan_cx (by kernel_rfl) (fun _ hw => hw.sub (by repeat (first | exact List.Sublist.slnil | exact List.Sublist.refl _ | apply List.Sublist.cons_cons | apply List.Sublist.cons))) rfl (by kernel_rfl) (by kernel_rfl) rfl rfl (v_indexS Try.underlying52 Try.hi61 Try.cz61 rfl rfl (by first | omega | decide)) rfl ?_
              refine a_want 12 pan_cx (by kernel_rfl) (fun _ hw => hw.sub (by repeat (first | exact List.Sublist.slnil | exact List.Sublist.refl _ | apply List.Sublist.cons_cons | apply List.Sublist.cons))) rfl (by kernel_rfl) (by kernel_rfl) rfl rfl (v_fieldAddr (o := 1) Try.underlying61 rfl rfl Try.nz3 rfl) rfl ?_
              refine a_want 13 pan_cx (by kernel_rfl) (fun _ hw => hw.sub (by repeat (first | exact List.Sublist.slnil | exact List.Sublist.refl _ | apply List.Sublist.cons_cons | apply List.Sublist.cons))) rfl (by kernel_rfl) (by kernel_rfl) rfl rfl (v_loadO Try.underlying3 rfl rfl ((hop) _ _ rfl)) rfl ?_
              refine a_want 14 pan_cx (by kernel_rfl) (fun _ hw => hw.sub (by repeat (first | exact List.Sublist.slnil | exact List.Sublist.refl _ | apply List.Sublist.cons_cons | apply List.Sublist.cons))) rfl (by kernel_rfl) (by kernel_rfl) rfl rfl (v_is (v' := .bool false) (v_eql rfl rfl) (by rw [decide_eq_false hne])) rfl ?_
              refine a_take 15 pan_cx (by kernel_rfl) (fun _ hw => hw.sub (by repeat (first | exact List.Sublist.slnil | exact List.Sublist.refl _ | apply List.Sublist.cons_cons | apply List.Sublist.cons))) rfl (by kernel_rfl) (by kernel_rfl) (v_pickT rfl rfl) rfl ?_
              refine a_done (by kernel_rfl) ?_
              exact e_cutEnd (()) (trivial) (by repeat (first | exact Sub.nil _ | refine Sub.cons rfl ?_)) (fun _ hw => hw)
            · refine e_draw ([Own (.slice A1 acc.length k1) 3 1 acc.length (intsC acc)]) Try.mixed ?_
              refine a_take 0 pan_cx (by kernel_rfl) (fun _ hw => hw.sub (by repeat (first | exact List.Sublist.slnil | exact List.Sublist.refl _ | apply List.Sublist.cons_cons | apply List.Sublist.cons))) rfl (by kernel_rfl) (by kernel_rfl) (v_move rfl) rfl ?_
              refine a_take 1 pan_cx (by kernel_rfl) (fun _ hw => hw.sub (by repeat (first | exact List.Sublist.slnil | exact List.Sublist.refl _ | apply List.Sublist.cons_cons | apply List.Sublist.cons))) rfl (by kernel_rfl) (by kernel_rfl) (v_move rfl) rfl ?_
              refine a_take 2 pan_cx (by kernel_rfl) (fun _ hw => hw.sub (by repeat (first | exact List.Sublist.slnil | exact List.Sublist.refl _ | apply List.Sublist.cons_cons | apply List.Sublist.cons))) rfl (by kernel_rfl) (by kernel_rfl) (v_lenS Try.underlying53 rfl) rfl ?_
              refine a_take 3 pan_cx (by kernel_rfl) (fun _ hw => hw.sub (by repeat (first | exact List.Sublist.slnil | exact List.Sublist.refl _ | apply List.Sublist.cons_cons | apply List.Sublist.cons))) rfl (by kernel_rfl) (by kernel_rfl) (v_is (v' := .bool false) (v_lss rfl rfl) (by rw [decide_eq_false (by omega)])) rfl ?_
              refine a_take 4 pan_cx (by kernel_rfl) (fun _ hw => hw.sub (by repeat (first | exact List.Sublist.slnil | exact List.Sublist.refl _ | apply List.Sublist.cons_cons | apply List.Sublist.cons))) rfl (by kernel_rfl) (by kernel_rfl) (v_move rfl) rfl ?_
              refine a_skip 5 pan_cx (by kernel_rfl) (fun _ hw => hw.sub (by repeat (first | exact List.Sublist.slnil | exact List.Sublist.refl _ | apply List.Sublist.cons_cons | apply List.Sublist.cons))) rfl (by kernel_rfl) (by kernel_rfl) rfl rfl rfl rfl ?_
              refine a_skip 6 pan_cx (by kernel_rfl) (fun _ hw => hw.sub (by repeat (first | exact List.Sublist.slnil | exact List.Sublist.refl _ | apply List.Sublist.cons_cons | apply List.Sublist.cons))) rfl (by kernel_rfl) (by kernel_rfl) rfl rfl rfl rfl ?_
              refine a_skip 7 pan_cx (by kernel_rfl) (fun _ hw => hw.sub (by repeat (first | exact List.Sublist.slnil | exact List.Sublist.refl _ | apply List.Sublist.cons_cons | apply List.Sublist.cons))) rfl (by kernel_rfl) (by kernel_rfl) rfl rfl rfl rfl ?_
              refine a_skip 8 pan_cx (by kernel_rfl) (fun _ hw => hw.sub (by repeat (first | exact List.Sublist.slnil | exact List.Sublist.refl _ | apply List.Sublist.cons_cons | apply List.Sublist.cons))) rfl (by kernel_rfl) (by kernel_rfl) rfl rfl rfl rfl ?_
              refine a_skip 9 pan_cx (by kernel_rfl) (fun _ hw => hw.sub (by repeat (first | exact List.Sublist.slnil | exact List.Sublist.refl _ | apply List.Sublist.cons_cons | apply List.Sublist.cons))) rfl (by kernel_rfl) (by kernel_rfl) rfl rfl rfl rfl ?_
              refine a_skip 10 pan_cx (by kernel_rfl) (fun _ hw => hw.sub (by repeat (first | exact List.Sublist.slnil | exact List.Sublist.refl _ | apply List.Sublist.cons_cons | apply List.Sublist.cons))) rfl (by kernel_rfl) (by kernel_rfl) rfl rfl rfl rfl ?_
              refine a_skip 11 pan_cx (by kernel_rfl) (fun _ hw => hw.sub (by repeat (first | exact List.Sublist.slnil | exact List.Sublist.refl _ | apply List.Sublist.cons_cons | apply List.Sublist.cons))) rfl (by kernel_rfl) (by kernel_rfl) rfl rfl rfl rfl ?_
              refine a_skip 12 pan_cx (by kernel_rfl) (fun _ hw => hw.sub (by repeat (first | exact List.Sublist.slnil | exact List.Sublist.refl _ | apply List.Sublist.cons_cons | apply List.Sublist.cons))) rfl (by kernel_rfl) (by kernel_rfl) rfl rfl rfl rfl ?_
              refine a_skip 13 pan_cx (by kernel_rfl) (fun _ hw => hw.sub (by repeat (first | exact List.Sublist.slnil | exact List.Sublist.refl _ | apply List.Sublist.cons_cons | apply List.Sublist.cons))) rfl (by kernel_rfl) (by kernel_rfl) rfl rfl rfl rfl ?_
              refine a_skip 14 pan_cx (by kernel_rfl) (fun _ hw => hw.sub (by repeat (first | exact List.Sublist.slnil | exact List.Sublist.refl _ | apply List.Sublist.cons_cons | apply List.Sublist.cons))) rfl (by kernel_rfl) (by kernel_rfl) rfl rfl rfl rfl ?_
              refine a_take 15 pan_cx (by kernel_rfl) (fun _ hw => hw.sub (by repeat (first | exact List.Sublist.slnil | exact List.Sublist.refl _ | apply List.Sublist.cons_cons | apply List.Sublist.cons))) rfl (by kernel_rfl) (by kernel_rfl) (v_pickF rfl rfl) rfl ?_
              refine a_done (by kernel_rfl) ?_
              exact e_cutEnd (()) (trivial) (by repeat (first | exact Sub.nil _ | refine Sub.cons rfl ?_)) (fun _ hw => hw)
          · rintro - -
            refine e_condF rfl ?_
            refine e_skip ?_
            refine e_seq ?_
            refine e_region ?_
            refine w_val (v_assign rfl) rfl ?_
            refine w_nil ?_
            refine e_seq ?_
            refine g_heap (fun _ hw => hw.ownNil 3 1) ?_
            have hsl : slV A1 0 j k1 1 = .slice A1 j k1 := slV_0' ..
            have hcells : intsC (acc.take j ++ o.a :: acc.drop j) = intsC (acc.take j ++ [o.a]) ++ intsC (acc.drop j) := by rw [← intsC_app]; simp
            refine e_cutH (σ := Value) [0, 3, 4, 5] (.cons rfl (.cons rfl (.cons rfl (.cons rfl .nil)))) (fun s => [(6, s)]) (fun s => [Own s 3 1 (j + 1) (intsC (acc.take j ++ [o.a])), Own (.slice A1 acc.length k1) 3 1 acc.length (intsC acc)]) (fun _ => True) ?_ ?_
            · refine e_draw ([]) Try.mixed ?_
              refine a_take 0 pan_cx (by kernel_rfl) (fun _ hw => hw.sub (by repeat (first | exact List.Sublist.slnil | exact List.Sublist.refl _ | apply List.Sublist.cons_cons | apply List.Sublist.cons))) rfl (by kernel_rfl) (by kernel_rfl) (v_move rfl) rfl ?_
              refine a_take 1 pan_cx (by kernel_rfl) (fun _ hw => hw.sub (by repeat (first | exact List.Sublist.slnil | exact List.Sublist.refl _ | apply List.Sublist.cons_cons | apply List.Sublist.cons))) rfl (by kernel_rfl) (by kernel_rfl) (v_move rfl) rfl ?_
              refine a_take 2 pan_cx (by kernel_rfl) (fun _ hw => hw.sub (by repeat (first | exact List.Sublist.slnil | exact List.Sublist.refl _ | apply List.Sublist.cons_cons | apply List.Sublist.cons))) rfl (by kernel_rfl) (by kernel_rfl) (v_move rfl) rfl ?_
              refine a_take 3 pan_cx (by kernel_rfl) (fun _ hw => hw.sub (by repeat (first | exact List.Sublist.slnil | exact List.Sublist.refl _ | apply List.Sublist.cons_cons | apply List.Sublist.cons))) rfl (by kernel_rfl) (by kernel_rfl) (v_is (v' := .slice A1 j k1) (v_sliceH Try.underlying53 Try.hi3 Try.cz3 rfl rfl (by omega)) (by rw [Int.toNat_natCast, slV_0'])) rfl ?_
              refine a_take 5 pan_cx (by kernel_rfl) (fun _ hw => hw.sub (by repeat (first | exact List.Sublist.slnil | exact List.Sublist.refl _ | apply List.Sublist.cons_cons | apply List.Sublist.cons))) rfl (by kernel_rfl) (by kernel_rfl) (v_move rfl) rfl ?_
              refine a_take 6 pan_cx (by kernel_rfl) (fun _ hw => hw.sub (by repeat (first | exact List.Sublist.slnil | exact List.Sublist.refl _ | apply List.Sublist.cons_cons | apply List.Sublist.cons))) rfl (by kernel_rfl) (by kernel_rfl) (v_move rfl) rfl ?_
              refine a_take 7 pan_cx (by kernel_rfl) (fun _ hw => hw.sub (by repeat (first | exact List.Sublist.slnil | exact List.Sublist.refl _ | apply List.Sublist.cons_cons | apply List.Sublist.cons))) rfl (by kernel_rfl) (by kernel_rfl) (v_indexS Try.underlying52 Try.hi61 Try.cz61 rfl rfl (by first | omega | decide)) rfl ?_
              refine a_take 8 pan_cx (by kernel_rfl) (fun _ hw => hw.sub (by repeat (first | exact List.Sublist.slnil | exact List.Sublist.refl _ | apply List.Sublist.cons_cons | apply List.Sublist.cons))) rfl (by kernel_rfl) (by kernel_rfl) (v_fieldAddr (o := 1) Try.underlying61 rfl rfl Try.nz3 rfl) rfl ?_
              refine a_take 9 pan_cx (by kernel_rfl) (fun _ hw => hw.sub (by repeat (first | exact List.Sublist.slnil | exact List.Sublist.refl _ | apply List.Sublist.cons_cons | apply List.Sublist.cons))) rfl (by kernel_rfl) (by kernel_rfl) (v_loadO Try.underlying3 rfl rfl ((hop) _ _ rfl)) rfl ?_
              refine a_all [4, 10] (by kernel_rfl) rfl ?_
              intro i hi
              simp only [List.mem_cons, List.not_mem_nil, or_false] at hi
              rcases hi with rfl | rfl
              · refine a_op rfl rfl ?_
                refine x_appendI (z := .int .i64 0) (n := 0) (xs := []) (size := 1) (bytes := 8) (k := j) (news := intsC (acc.take j)) 0 rfl rfl rfl Try.underlying53 (by kernel_rfl) rfl (by decide) (fun w hw => IsInts.take (own_rds (hw.mem (i := 1) rfl)) hj) (one_intsC _) (by omega) (by simp only [maxLen]; omega) rfl (fun v57 => ?_)
                refine a_and (fun _ hw => hw.sub (by repeat (first | exact List.Sublist.slnil | exact List.Sublist.refl _ | apply List.Sublist.cons_cons | apply List.Sublist.cons))) ?_
                refine a_one 10 (by kernel_rfl) rfl rfl ?_
                refine x_buildSlice _ ([Value.int .i64 o.a]) rfl (run_buildSlice Try.underlying53 Try.hi3 Try.cz3 Try.zeroValue3 rfl (by kernel_rfl)) rfl (fun b63 => ?_)
                refine a_and (fun _ hw => hw.sub (by repeat (first | exact List.Sublist.slnil | exact List.Sublist.refl _ | apply List.Sublist.cons_cons | apply List.Sublist.cons))) ?_
                refine a_one 11 (by kernel_rfl) rfl rfl ?_
                refine x_appendI (z := .int .i64 0) (n := 0 + j) (xs := [] ++ intsC (acc.take j)) (size := 1) (bytes := 8) (k := 1) (news := intsC [o.a]) 1 rfl rfl rfl Try.underlying53 (by kernel_rfl) rfl (by decide) (fun w hw => blk_rds (hw.hold _ (List.mem_cons_self ..)) rfl) (one_intsC _) (by omega) (by simp only [maxLen]; omega) rfl (fun v64 => ?_)
                refine a_and (fun _ hw => hw.sub (by repeat (first | exact List.Sublist.slnil | exact List.Sublist.refl _ | apply List.Sublist.cons_cons | apply List.Sublist.cons))) ?_
                refine a_take 12 pan_cx (by kernel_rfl) (fun _ hw => hw.sub (by repeat (first | exact List.Sublist.slnil | exact List.Sublist.refl _ | apply List.Sublist.cons_cons | apply List.Sublist.cons))) rfl (by kernel_rfl) (by kernel_rfl) (v_assign rfl) rfl ?_
                refine a_done (by kernel_rfl) ?_
                exact e_cutEnd v64 trivial (by repeat (first | exact Sub.nil _ | refine Sub.cons rfl ?_)) (fun _ hw => by simp only [List.set_cons_zero, List.set_cons_succ, List.append_eq, List.nil_append, Nat.zero_add] at hw; rw [intsC_app]; exact hw.sub (.cons _ (List.Sublist.refl _)))
              · refine a_op rfl rfl ?_
                refine x_buildSlice _ ([Value.int .i64 o.a]) rfl (run_buildSlice Try.underlying53 Try.hi3 Try.cz3 Try.zeroValue3 rfl (by kernel_rfl)) rfl (fun b63 => ?_)
                refine a_and (fun _ hw => hw.sub (by repeat (first | exact List.Sublist.slnil | exact List.Sublist.refl _ | apply List.Sublist.cons_cons | apply List.Sublist.cons))) ?_
                refine a_one 4 (by kernel_rfl) rfl rfl ?_
                refine x_appendI (z := .int .i64 0) (n := 0) (xs := []) (size := 1) (bytes := 8) (k := j) (news := intsC (acc.take j)) 1 rfl rfl rfl Try.underlying53 (by kernel_rfl) rfl (by decide) (fun w hw => IsInts.take (own_rds (hw.mem (i := 2) rfl)) hj) (one_intsC _) (by omega) (by simp only [maxLen]; omega) rfl (fun v57 => ?_)
                refine a_and (fun _ hw => hw.sub (by repeat (first | exact List.Sublist.slnil | exact List.Sublist.refl _ | apply List.Sublist.cons_cons | apply List.Sublist.cons))) ?_
                refine a_one 11 (by kernel_rfl) rfl rfl ?_
                refine x_appendI (z := .int .i64 0) (n := 0 + j) (xs := [] ++ intsC (acc.take j)) (size := 1) (bytes := 8) (k := 1) (news := intsC [o.a]) 1 rfl rfl rfl Try.underlying53 (by kernel_rfl) rfl (by decide) (fun w hw => blk_rds (hw.hold _ (List.mem_cons_self ..)) rfl) (one_intsC _) (by omega) (by simp only [maxLen]; omega) rfl (fun v64 => ?_)
                refine a_and (fun _ hw => hw.sub (by repeat (first | exact List.Sublist.slnil | exact List.Sublist.refl _ | apply List.Sublist.cons_cons | apply List.Sublist.cons))) ?_
                refine a_take 12 pan_cx (by kernel_rfl) (fun _ hw => hw.sub (by repeat (first | exact List.Sublist.slnil | exact List.Sublist.refl _ | apply List.Sublist.cons_cons | apply List.Sublist.cons))) rfl (by kernel_rfl) (by kernel_rfl) (v_assign rfl) rfl ?_
                refine a_done (by kernel_rfl) ?_
                exact e_cutEnd v64 trivial (by repeat (first | exact Sub.nil _ | refine Sub.cons rfl ?_)) (fun _ hw => by simp only [List.set_cons_zero, List.set_cons_succ, List.append_eq, List.nil_append, Nat.zero_add] at hw; rw [intsC_app]; exact hw.sub (.cons _ (List.Sublist.refl _)))
            · rintro s -
              refine e_region ?_
              refine w_val (v_move rfl) rfl ?_
              refine w_val (v_move rfl) rfl ?_
              refine w_val (v_move rfl) rfl ?_
              refine w_val (v_sliceL Try.underlying53 Try.hi3 Try.cz3 rfl rfl (by omega)) rfl ?_
              refine w_op rfl ?_
              refine x_appendI (z := .int .i64 0) (n := j + 1) (xs := intsC (acc.take j ++ [o.a])) (size := 1) (bytes := 8) (k := acc.length - j) (news := intsC (acc.drop j)) 0 rfl rfl rfl Try.underlying53 (by kernel_rfl) rfl (by decide) (fun w hw => IsInts.drop (own_rds (hw.mem (i := 1) rfl)) hj) (one_intsC _) (by omega) (by simp only [maxLen]; omega) rfl (fun vo' => ?_)
              refine w_val (v_assign rfl) rfl ?_
              refine w_nil ?_
              refine e_blk ?_
              refine e_region ?_
              refine w_val (v_move rfl) rfl ?_
              refine w_val (v_add rfl rfl (by omega)) rfl ?_
              refine w_val (v_assign rfl) rfl ?_
              refine w_nil ?_
              refine e_round ((i + 1, vo', acc.take j ++ o.a :: acc.drop j)) (⟨by dsimp only; omega, hris2, by dsimp only; rw [hpost]; exact hm, by dsimp only; rw [hlen]; omega⟩) (by dsimp only; omega) (by repeat (first | exact Sub.nil _ | refine Sub.cons rfl ?_)) (fun _ hw => ?_)
              dsimp only
              rw [hlen, hcells]
              simp only [List.set_cons_zero, List.set_cons_succ, List.append_eq, List.nil_append] at hw
              exact hw.sub (.cons_cons _ (.cons _ (List.Sublist.refl _)))
  · obtain rfl : i = d.length := by omega
    rw [List.take_length] at hmem
    have hk := keysL_is hris hmem
    refine e_exit rfl ?_
    refine e_seq ?_
    refine e_region ?_
    refine w_val (v_move rfl) rfl ?_
    refine w_val (v_assign rfl) rfl ?_
    refine w_nil ?_
    refine e_retQ (q_ret1 rfl (.tmp rfl) ?_)
    refine fun w' hw' => ⟨.slice A1 acc.length k1, trivial, rfl, ?_⟩
    rw [← hk]
    exact hw'.res
end Go.SL
end
section
open Go Go.Proofs Go.SL
set_option maxRecDepth 100000
namespace Go.SL
theorem isRound_one {c : View} {v u : Value} {d : DeedL} (h : Rds c v 1 1 [u]) (hd : IsDeed c u d) : IsRound c v [d] := ⟨[u], h, fun i hi => by
  have : i = 0 := by simpa using hi
  subst this
  exact ⟨u, rfl, hd⟩⟩
theorem refOwn1_spec (v : Value) (d : DeedL) (w : World) (h : IsRound w.cell? v [d]) (hb : d.length ≤ 500) : Calls Try.prog 35 #[v] w
    fun e w' => ∃ s : Value × Option Addr × Nat, True ∧ e = .returned s.1 ∧ Res w [] [Own s.1 52 1 1 [.slice s.2.1 d.length s.2.2], Own (.slice s.2.1 d.length s.2.2) 61 5 d.length (deedCells d)] w' := by
  rw [← off_none w] at h
  obtain ⟨A, kp, rfl, hle, hc⟩ := h.form
  refine enter0 (N := 22) Try.func35 rfl rfl rfl ?_
  refine e_seq ?_
  refine e_region ?_
  refine w_val (v_assign rfl) rfl ?_
  refine w_nil ?_
  refine e_seq ?_
  refine e_region ?_
  refine w_val (v_assign rfl) rfl ?_
  refine w_nil ?_
  refine e_seq ?_
  refine e_seq ?_
  refine e_region ?_
  refine w_val (v_assign rfl) rfl ?_
  refine w_nil ?_
  refine g_heap (m' := [Own (.slice none 0 0) 52 1 0 []]) (fun _ hw => hw.ownNil 52 1) ?_
  refine e_block ?_
  refine e_loopH (σ := Nat × Value × List Value × Hp) [0] (.cons rfl .nil) (fun x => [(3, x.2.1), (4, .int .i64 x.1)]) (fun x => Own x.2.1 52 1 x.1 x.2.2.1 :: x.2.2.2) (fun x => (x.1 = 0 ∧ x.2.2.1 = [] ∧ x.2.2.2 = []) ∨ (x.1 = 1 ∧ ∃ A k, x.2.2.1 = [Value.slice A d.length k] ∧ x.2.2.2 = [Own (.slice A d.length k) 61 5 d.length (deedCells d)])) (fun x => 1 - x.1) (0, .slice none 0 0, [], []) (.inl ⟨rfl, rfl, rfl⟩) (by repeat (first | exact Sub.nil _ | refine Sub.cons rfl ?_)) (fun _ hw => hw) ?_
  rintro ⟨k, vo, vs, hp⟩ hst
  dsimp only at hst ⊢
  have hl1 : ([d] : RoundL).length = 1 := rfl
  rcases hst with ⟨rfl, rfl, rfl⟩ | ⟨rfl, A1, k1, rfl, rfl⟩
  · obtain ⟨ad, u, rfl, hcell, hd⟩ := hc 0 Nat.zero_lt_one
    have hd : IsDeed (off w (feet [])) u d := hd
    refine e_seq ?_
    refine e_seq ?_
    refine e_region ?_
    refine w_val (v_move rfl) rfl ?_
    refine w_val (v_move rfl) rfl ?_
    refine w_val (v_lenS Try.underlying34 rfl) rfl ?_
    refine w_val (v_is (v' := .bool true) (v_lss rfl rfl) (by rfl)) rfl ?_
    refine w_nil ?_
    refine e_condT rfl ?_
    refine e_skip ?_
    refine e_seq ?_
    refine e_block ?_
    refine e_seq ?_
    refine e_region ?_
    refine w_val (v_assign rfl) rfl ?_
    refine w_nil ?_
    refine e_region ?_
    refine w_val (v_move rfl) rfl ?_
    refine w_val (v_move rfl) rfl ?_
    refine w_val (v_move rfl) rfl ?_
    refine w_val (v_move rfl) rfl ?_
    refine w_val (v_indexS Try.underlying34 Try.hi52 Try.cz52 rfl rfl (by first | omega | decide)) rfl ?_
    refine w_val (v_loadO Try.underlying52 rfl rfl (hcell)) rfl ?_
    refine w_heap (fun _ hw => hw.ownNil 61 5) ?_
    refine w_op rfl ?_
    refine x_appendI (z := .agg #[.int .i64 0, .int .i64 0, .int .i64 0, .int .i64 0, .int .i64 0]) (n := 0) (xs := []) (size := 5) (bytes := 40) (k := d.length) (news := deedCells d) 0 rfl rfl rfl Try.underlying52 (by kernel_rfl) rfl (by decide) (fun w hw => hd.mono hw.off) (one_deedCells d) (by omega) (by simp only [maxLen]; omega) rfl (fun vd => ?_)
    refine g_shape 0 rfl fun A1 k1 hv1 hk1 => ?_
    subst hv1
    refine w_op rfl ?_
    refine x_buildSlice _ ([Value.slice A1 (0 + d.length) k1]) rfl (run_buildSlice Try.underlying34 Try.hi52 Try.cz52 Try.zeroValue52 rfl (by kernel_rfl)) rfl (fun b19 => ?_)
    refine w_op rfl ?_
    refine x_appendI (z := .slice none 0 0) (n := 0) (xs := []) (size := 1) (bytes := 24) (k := 1) (news := [Value.slice A1 (0 + d.length) k1]) 2 rfl rfl rfl Try.underlying34 (by kernel_rfl) rfl (by decide) (fun w hw => blk_rds (hw.hold _ (List.mem_cons_self ..)) rfl) (by intro u hu; simp only [List.mem_singleton] at hu; subst hu; rfl) (by omega) (by simp only [maxLen]; omega) rfl (fun vo' => ?_)
    refine w_val (v_assign rfl) rfl ?_
    refine w_nil ?_
    refine e_blk ?_
    refine e_region ?_
    refine w_val (v_move rfl) rfl ?_
    refine w_val (v_add rfl rfl (by omega)) rfl ?_
    refine w_val (v_assign rfl) rfl ?_
    refine w_nil ?_
    refine e_round ((1, vo', [Value.slice A1 d.length k1], [Own (.slice A1 d.length k1) 61 5 d.length (deedCells d)])) (.inr ⟨rfl, A1, k1, rfl, rfl⟩) (Nat.zero_lt_one) (by repeat (first | exact Sub.nil _ | refine Sub.cons rfl ?_)) (fun _ hw => ?_)
    dsimp only
    simp only [List.set_cons_zero, List.set_cons_succ, List.append_eq, List.nil_append, Nat.zero_add] at hw
    exact (hw.sub (.cons _ (List.Sublist.refl _))).perm (.swap _ _ _)
  · refine e_seq ?_
    refine e_seq ?_
    refine e_region ?_
    refine w_val (v_move rfl) rfl ?_
    refine w_val (v_move rfl) rfl ?_
    refine w_val (v_lenS Try.underlying34 rfl) rfl ?_
    refine w_val (v_is (v' := .bool false) (v_lss rfl rfl) (by rfl)) rfl ?_
    refine w_nil ?_
    refine e_condF rfl ?_
    refine e_exit rfl ?_
    refine e_seq ?_
    refine e_region ?_
    refine w_val (v_move rfl) rfl ?_
    refine w_val (v_assign rfl) rfl ?_
    refine w_nil ?_
    refine e_retQ (q_ret1 rfl (.tmp rfl) ?_)
    refine fun w' hw' => ⟨(vo, A1, k1), trivial, rfl, ?_⟩
    exact hw'.res
abbrev bg0 : DeedL := [⟨1, 0, 0, 0, 5⟩, ⟨7, 3, 0, 0, 0⟩, ⟨7, 1, 0, 0, 0⟩]
abbrev bg8 : OpL := ⟨8, 0, 0, 0, 0⟩
theorem bg_keys : keysL bg0 = [1, 3] := (keysL_is (by decide) (by intro x; simp [storesOf]; omega)).symm
theorem bg_check : checkL bg0 = (0, 0) := by decide +kernel
theorem bg_check8 : checkL (bg0 ++ [bg8]) = (5, 3) := by decide +kernel
theorem bg_round8 : roundFaultL [bg0 ++ [bg8]] = 5 := by decide +kernel
theorem codeBegun_spec (w : World) : Calls Try.prog 27 #[] w fun e w' => e = .returned (.bool true) ∧ Res w [] [] w' := by
  have hK := fun (v : Value) (w : World) (h : IsDeed w.cell? v bg0) => codeKeys_spec v bg0 w h (by decide)
  have hO := fun (v : Value) (w : World) (h : IsRound w.cell? v [bg0]) => refOwn1_spec v bg0 w h (by decide)
  have hC := fun (v : Value) (w : World) (h : IsDeed w.cell? v bg0) => check_spec v bg0 w h
  have hC8 := fun (v : Value) (w : World) (h : IsDeed w.cell? v (bg0 ++ [bg8])) => check_spec v (bg0 ++ [bg8]) w h
  have hR8 := fun (v : Value) (w : World) (h : IsRound w.cell? v [bg0 ++ [bg8]]) => codeRound_spec v [bg0 ++ [bg8]] w h
  rw [bg_keys] at hK
  rw [bg_check] at hC
  rw [bg_check8] at hC8
  rw [bg_round8] at hR8
  refine enter0 (N := 56) Try.func27 rfl rfl rfl ?_
  refine e_seq ?_
  refine e_region ?_
  refine w_val (v_assign rfl) rfl ?_
  refine w_nil ?_
  refine e_seq ?_
  refine e_region ?_
  refine w_val (v_build (v := opV ⟨1, 0, 0, 0, 5⟩) _ rfl (by intro _; simp [Instr.build, Instr.fill, Try.zeroValue61, go_sem]; rfl)) rfl ?_
  refine w_val (v_build (v := opV ⟨7, 3, 0, 0, 0⟩) _ rfl (by intro _; simp [Instr.build, Instr.fill, Try.zeroValue61, go_sem]; rfl)) rfl ?_
  refine w_val (v_build (v := opV ⟨7, 1, 0, 0, 0⟩) _ rfl (by intro _; simp [Instr.build, Instr.fill, Try.zeroValue61, go_sem]; rfl)) rfl ?_
  refine w_op rfl ?_
  refine x_buildSlice _ (deedCells bg0) rfl (run_buildSlice Try.underlying52 Try.hi61 Try.cz61 Try.zeroValue61 rfl (by kernel_rfl)) rfl (fun b7 => ?_)
  refine w_val (v_assign rfl) rfl ?_
  refine w_nil ?_
  refine e_seq ?_
  refine e_region ?_
  refine w_val (v_move rfl) rfl ?_
  refine w_op rfl ?_
  refine x_call (dst := some 9) (mc := []) (σ := Value) (fun _ => True) (fun sl => sl) (fun sl => [Own sl 3 1 2 (intsC [1, 3])]) rfl rfl rfl Try.call28 (fun w hw => hK _ w (blk_rds (hw.mem (i := 0) rfl) rfl)) rfl (fun sl _ => ?_)
  refine g_shape2 0 rfl fun A1 k1 hv1 hk1 hA1 => ?_
  subst hv1
  obtain ⟨ad1, rfl⟩ := hA1 (by decide)
  refine w_val (v_assign rfl) rfl ?_
  refine w_nil ?_
  refine e_seq ?_
  refine e_region ?_
  refine w_val (v_move rfl) rfl ?_
  refine w_op rfl ?_
  refine x_buildSlice _ ([Value.slice (some ⟨b7, 0, none⟩) 3 3]) rfl (run_buildSlice Try.underlying34 Try.hi52 Try.cz52 Try.zeroValue52 rfl (by kernel_rfl)) rfl (fun b11 => ?_)
  refine w_op rfl ?_
  refine x_call (dst := some 12) (mc := []) (σ := Value × Option Addr × Nat) (fun _ => True) (fun s => s.1) (fun s => [Own s.1 52 1 1 [Value.slice s.2.1 3 s.2.2], Own (.slice s.2.1 3 s.2.2) 61 5 3 (deedCells bg0)]) rfl rfl rfl Try.call35 (fun w hw => hO _ w (isRound_one (blk_rds (hw.mem (i := 0) rfl) rfl) (blk_rds (hw.mem (i := 2) rfl) rfl))) rfl (fun s _ => ?_)
  obtain ⟨v2, A3, k3⟩ := s
  dsimp only
  refine g_shape2 0 rfl fun A2 k2 hv2 hk2 hA2 => ?_
  subst hv2
  obtain ⟨ad2, rfl⟩ := hA2 (by decide)
  refine w_val (v_indexS Try.underlying34 Try.hi52 Try.cz52 rfl rfl (by first | omega | decide)) rfl ?_
  refine w_val (v_loadW (j := 0) (v := .slice A3 3 k3) 0 rfl (by decide) rfl Try.underlying52 rfl rfl) rfl ?_
  refine w_val (v_build (v := opV bg8) _ rfl (by intro _; simp [Instr.build, Instr.fill, Try.zeroValue61, go_sem]; rfl)) rfl ?_
  refine w_op rfl ?_
  refine x_buildSlice _ (deedCells [bg8]) rfl (run_buildSlice Try.underlying52 Try.hi61 Try.cz61 Try.zeroValue61 rfl (by kernel_rfl)) rfl (fun b16 => ?_)
  refine w_op rfl ?_
  refine x_appendI (z := .agg #[.int .i64 0, .int .i64 0, .int .i64 0, .int .i64 0, .int .i64 0]) (n := 3) (xs := deedCells bg0) (size := 5) (bytes := 40) (k := 1) (news := deedCells [bg8]) 2 rfl rfl rfl Try.underlying52 (by kernel_rfl) rfl (by decide) (fun w hw => blk_rds (hw.hold _ (List.mem_cons_self ..)) rfl) (one_deedCells _) (by decide) (by decide) rfl (fun v17 => ?_)
  refine g_shape 2 rfl fun A5 k5 hv5 hk5 => ?_
  subst hv5
  have hd8 := fun (w : World) (h : (Own (.slice A5 (3 + 1) k5) 61 5 (3 + 1) (deedCells bg0 ++ deedCells [bg8])).holds w) => (show IsDeed w.cell? (.slice A5 (3 + 1) k5) (bg0 ++ [bg8]) from own_rds h)
  refine w_val (v_assign rfl) rfl ?_
  refine w_nil ?_
  refine e_seq ?_
  refine e_region ?_
  refine w_val (v_move rfl) rfl ?_
  refine w_op rfl ?_
  refine x_call0 (v := faultV (0, 0)) rfl rfl rfl Try.call30 rfl (fun w hw => hC _ w (blk_rds (hw.mem (i := 5) rfl) rfl)) ?_
  refine w_val (v_build (v := faultV (0, 0)) _ rfl (by intro _; simp [Instr.build, Instr.fill, Try.zeroValue57, go_sem]; rfl)) rfl ?_
  refine w_val (v_is (v' := .bool true) (v_eqlTwo (o := (0, 0)) (o' := (0, 0)) (ti := 3) Try.underlying57 (by kernel_rfl) (by kernel_rfl) (by kernel_rfl) rfl rfl Try.underlying3 rfl rfl) rfl) rfl ?_
  refine w_val (v_move rfl) rfl ?_
  refine w_want rfl rfl ?_
  refine w_val (v_move rfl) rfl ?_
  refine w_want rfl rfl ?_
  refine w_op rfl ?_
  refine x_call0 (v := faultV (5, 3)) rfl rfl rfl Try.call30 rfl (fun w hw => hC8 _ w (hd8 w (hw.mem (i := 2) rfl))) ?_
  refine w_want rfl rfl ?_
  refine w_op rfl ?_
  refine x_call0 (v := faultV (5, 3)) rfl rfl rfl Try.call34 rfl (fun w hw => F_spec _ _ w) ?_
  refine w_want rfl rfl ?_
  refine w_val (v_is (v' := .bool true) (v_eqlTwo (o := (5, 3)) (o' := (5, 3)) (ti := 3) Try.underlying57 (by kernel_rfl) (by kernel_rfl) (by kernel_rfl) rfl rfl Try.underlying3 rfl rfl) rfl) rfl ?_
  refine w_val (v_pickT rfl rfl) rfl ?_
  refine w_val (v_move rfl) rfl ?_
  refine w_want rfl rfl ?_
  refine w_val (v_move rfl) rfl ?_
  refine w_want rfl rfl ?_
  refine w_val (v_lenS Try.underlying53 rfl) rfl ?_
  refine w_want rfl rfl ?_
  refine w_val (v_is (v' := .bool true) (v_eql rfl rfl) (by rfl)) rfl ?_
  refine w_val (v_pickT rfl rfl) rfl ?_
  refine w_val (v_move rfl) rfl ?_
  refine w_want rfl rfl ?_
  refine w_val (v_move rfl) rfl ?_
  refine w_want rfl rfl ?_
  refine w_val (v_indexS Try.underlying53 Try.hi3 Try.cz3 rfl rfl (by first | omega | decide)) rfl ?_
  refine w_want rfl rfl ?_
  refine w_val (v_loadW (j := 0) (v := .int .i64 1) 4 rfl (by decide) rfl Try.underlying3 rfl rfl) rfl ?_
  refine w_want rfl rfl ?_
  refine w_val (v_is (v' := .bool true) (v_eql rfl rfl) (by rfl)) rfl ?_
  refine w_val (v_pickT rfl rfl) rfl ?_
  refine w_val (v_move rfl) rfl ?_
  refine w_want rfl rfl ?_
  refine w_val (v_move rfl) rfl ?_
  refine w_want rfl rfl ?_
  refine w_val (v_move rfl) rfl ?_
  refine w_want rfl rfl ?_
  refine w_op rfl ?_
  refine x_call0 (v := .bool true) rfl rfl rfl Try.call39 rfl (fun w hw => Calls.boolT rfl (codeSame_spec _ _ bg0 bg0 w (blk_rds (hw.mem (i := 5) rfl) rfl) (blk_rds (hw.mem (i := 5) rfl) rfl) (by decide))) ?_
  refine w_val (v_pickT rfl rfl) rfl ?_
  refine w_val (v_move rfl) rfl ?_
  refine w_want rfl rfl ?_
  refine w_val (v_move rfl) rfl ?_
  refine w_want rfl rfl ?_
  refine w_val (v_move rfl) rfl ?_
  refine w_want rfl rfl ?_
  refine w_op rfl ?_
  refine x_call0 (v := .bool false) rfl rfl rfl Try.call39 rfl (fun w hw => Calls.boolF (by decide) (codeSame_spec _ _ bg0 (bg0 ++ [bg8]) w (blk_rds (hw.mem (i := 5) rfl) rfl) (hd8 w (hw.mem (i := 2) rfl)) (by decide))) ?_
  refine w_want rfl rfl ?_
  refine w_val (v_is (v' := .bool true) (v_not rfl) (by rfl)) rfl ?_
  refine w_val (v_pickT rfl rfl) rfl ?_
  refine w_val (v_move rfl) rfl ?_
  refine w_want rfl rfl ?_
  refine w_val (v_move rfl) rfl ?_
  refine w_want rfl rfl ?_
  refine w_op rfl ?_
  refine x_buildSlice _ ([Value.slice A5 (3 + 1) k5]) rfl (run_buildSlice Try.underlying34 Try.hi52 Try.cz52 Try.zeroValue52 rfl (by kernel_rfl)) rfl (fun b52 => ?_)
  refine w_want rfl rfl ?_
  refine w_op rfl ?_
  refine x_call0 (v := .int .i64 5) rfl rfl rfl Try.call33 rfl (fun w hw => hR8 _ w (isRound_one (blk_rds (hw.mem (i := 0) rfl) rfl) (hd8 w (hw.mem (i := 3) rfl)))) ?_
  refine w_want rfl rfl ?_
  refine w_val (v_is (v' := .bool true) (v_eql rfl rfl) (by rfl)) rfl ?_
  refine w_val (v_pickT rfl rfl) rfl ?_
  refine w_val (v_assign rfl) rfl ?_
  refine w_nil ?_
  refine e_retQ (q_ret1 rfl (.tmp rfl) ?_)
  exact fun w' hw' => ⟨rfl, hw'.res.nil⟩
end Go.SL
end
