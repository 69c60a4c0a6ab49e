/- Ytebdkaadbakhlac: part U2 of this seat's own texts. -/
import Derived.Test.YtebdkaadbakhlacU1
import Derived.Test.YtebdkaadbakhlacW2
set_option linter.unusedVariables false
set_option linter.unusedSimpArgs false
section

open Go Go.Proofs Go.SL
set_option maxRecDepth 100000
namespace Go.SL
theorem zero10_len : zero10.length = 10 := rfl
abbrev ResL := List (Int × List Int)
def resL (rs : ResL) : List Value := rs.flatMap fun x => resCells x.1 x.2
theorem resL_app (a b : ResL) : resL (a ++ b) = resL a ++ resL b := by simp [resL]
theorem resL_one (c : Int) (g : List Int) : resL [(c, g)] = resCells c g := by simp [resL]
end Go.SL
end
section

open Go Go.Proofs Go.SL
set_option maxRecDepth 100000
namespace Go.SL
theorem resL_at : ∀ {a : ResL}, (∀ x ∈ a, x.2.length = 4) → ∀ {k : Nat} (hk : k < a.length) (j : Nat) (v : Value), (resCells a[k].1 a[k].2)[j]? = some v → (resL a)[k * 5 + j]? = some v
  | [], _, k, hk, _, _, _ => by simp at hk
  | x :: a, ha, 0, hk, j, v, hj => by
    have h4 := ha x (by simp)
    simp only [List.getElem_cons_zero] at hj
    simp only [resL, List.flatMap_cons, Nat.zero_mul, Nat.zero_add]
    rw [List.getElem?_append_left (List.getElem?_eq_some_iff.1 hj).1]
    exact hj
  | x :: a, ha, k + 1, hk, j, v, hj => by
    have h4 := ha x (by simp)
    have hl : (resCells x.1 x.2).length = 5 := by simp [resCells, intCells, h4]
    have := resL_at (a := a) (fun y hy => ha y (by simp [hy])) (k := k) (by simpa using hk) j v (by simpa using hj)
    simp only [resL, List.flatMap_cons]
    rw [List.getElem?_append_right (by rw [hl]; omega), hl, show (k + 1) * 5 + j - 5 = k * 5 + j from by omega]
    exact this
theorem resL_cells {c : View} {ad : Addr} {a : ResL} (ha : ∀ x ∈ a, x.2.length = 4) (h : Cells c ad (resL a)) {k : Nat} (hk : k < a.length) : Cells c (ad.add (k * 5)) (resCells a[k].1 a[k].2) := by
  intro j v hj
  rw [add_add]
  exact h _ _ (resL_at ha hk j v hj)
theorem sameResults_spec (v1 v2 : Value) (a b : ResL) (w : World) (h1 : Rds w.cell? v1 5 a.length (resL a)) (h2 : Rds w.cell? v2 5 b.length (resL b)) (ha : ∀ x ∈ a, x.2.length = 4) (hb : ∀ x ∈ b, x.2.length = 4) (hmax : a.length ≤ 4398046511104) :
    Calls Try.prog 30 #[v1, v2] w fun e w' => e = .returned (.bool (decide (a = b))) ∧ Res w [] [] w' := by
  rw [← off_none w] at h1 h2
  obtain ⟨A1, k1, rfl, hle1, _, hc1⟩ := h1
  obtain ⟨A2, k2, rfl, hle2, _, hc2⟩ := h2
  refine enter0 (N := 26) Try.func30 rfl rfl rfl ?_
  refine e_seq ?_
  refine e_region ?_
  refine w_val (v_assign rfl) rfl ?_
  refine w_nil ?_
  refine e_seq ?_
  refine e_seq ?_
  refine e_region ?_
  refine w_val (v_move rfl) rfl ?_
  refine w_val (v_lenS Try.underlying57 rfl) rfl ?_
  refine w_val (v_move rfl) rfl ?_
  refine w_val (v_lenS Try.underlying57 rfl) rfl ?_
  refine w_val (v_neq rfl rfl) rfl ?_
  refine w_nil ?_
  refine e_condD rfl (fun hl => ?_) (fun hl => ?_)
  · refine e_seq ?_
    refine e_region ?_
    refine w_val (v_assign rfl) rfl ?_
    refine w_nil ?_
    refine e_retQ (q_ret1 rfl (.tmp rfl) ?_)
    exact fun w' hw' => ⟨by rw [decide_eq_false (fun h => hl (by rw [h]))], hw'.res.nil⟩
  · have hl' : a.length = b.length := by omega
    refine e_skip ?_
    refine e_seq ?_
    refine e_seq ?_
    refine e_region ?_
    refine w_val (v_assign rfl) rfl ?_
    refine w_nil ?_
    refine e_block ?_
    refine e_loopK (σ := Nat) [0, 1] (.cons rfl (.cons rfl .nil)) (fun k => [(5, .int .i64 k)]) (fun k => k ≤ a.length ∧ a.take k = b.take k) (fun k => a.length - k) 0 ⟨by omega, rfl⟩ (by repeat (first | exact Sub.nil _ | refine Sub.cons rfl ?_)) ?_
    rintro k ⟨hk, hsame⟩
    refine e_seq ?_
    refine e_seq ?_
    refine e_region ?_
    refine w_val (v_move rfl) rfl ?_
    refine w_val (v_move rfl) rfl ?_
    refine w_val (v_lenS Try.underlying57 rfl) rfl ?_
    refine w_val (v_lss rfl rfl) rfl ?_
    refine w_nil ?_
    refine e_condD rfl (fun hlt => ?_) (fun hlt => ?_)
    · have hlt' : k < a.length := by omega
      obtain ⟨ad1, rfl, hcl1⟩ := hc1 (by omega)
      obtain ⟨ad2, rfl, hcl2⟩ := hc2 (by omega)
      have hop1 := resL_cells ha hcl1 hlt'
      have hop2 := resL_cells hb hcl2 (show k < b.length by omega)
      have hg1 := ha a[k] (List.getElem_mem _)
      have hg2 := hb (b[k]'(by omega)) (List.getElem_mem _)
      have ht1 : a.take (k + 1) = a.take k ++ [a[k]] := List.take_succ_eq_append_getElem hlt'
      have ht2 : b.take (k + 1) = b.take k ++ [b[k]'(by omega)] := List.take_succ_eq_append_getElem (by omega)
      have hne : a[k] ≠ b[k]'(by omega) → a ≠ b := fun h he => h (by subst he; rfl)
      generalize a[k] = x1 at *
      generalize (b[k]'(by omega)) = x2 at *
      obtain ⟨c1, g1⟩ := x1
      obtain ⟨c2, g2⟩ := x2
      dsimp only at hg1 hg2 hop1 hop2
      have hgg1 := hg1
      have hgg2 := hg2
      obtain ⟨p0, p1, p2, p3, rfl⟩ := list4 hg1
      obtain ⟨q0, q1, q2, q3, rfl⟩ := list4 hg2
      refine e_skip ?_
      refine e_seq ?_
      refine e_block ?_
      refine e_seq ?_
      refine e_draw ([]) Try.mixed ?_
      refine a_take 0 pan_cx (by kernel_rfl) (fun _ hw => hw.sub (by repeat (first | exact List.Sublist.slnil | exact List.Sublist.refl _ | apply List.Sublist.cons_cons | apply List.Sublist.cons))) rfl (by kernel_rfl) (by kernel_rfl) (v_move rfl) rfl ?_
      refine a_take 1 pan_cx (by kernel_rfl) (fun _ hw => hw.sub (by repeat (first | exact List.Sublist.slnil | exact List.Sublist.refl _ | apply List.Sublist.cons_cons | apply List.Sublist.cons))) rfl (by kernel_rfl) (by kernel_rfl) (v_move rfl) rfl ?_
      refine a_take 2 pan_cx (by kernel_rfl) (fun _ hw => hw.sub (by repeat (first | exact List.Sublist.slnil | exact List.Sublist.refl _ | apply List.Sublist.cons_cons | apply List.Sublist.cons))) rfl (by kernel_rfl) (by kernel_rfl) (v_indexS Try.underlying57 Try.hi30 Try.cz30 rfl rfl (by first | omega | decide)) rfl ?_
      refine a_take 3 pan_cx (by kernel_rfl) (fun _ hw => hw.sub (by repeat (first | exact List.Sublist.slnil | exact List.Sublist.refl _ | apply List.Sublist.cons_cons | apply List.Sublist.cons))) rfl (by kernel_rfl) (by kernel_rfl) (v_loadON Try.underlying30 rfl Try.hi30 rfl (hop1) Try.cz30) rfl ?_
      refine a_take 4 pan_cx (by kernel_rfl) (fun _ hw => hw.sub (by repeat (first | exact List.Sublist.slnil | exact List.Sublist.refl _ | apply List.Sublist.cons_cons | apply List.Sublist.cons))) rfl (by kernel_rfl) (by kernel_rfl) (v_move rfl) rfl ?_
      refine a_take 5 pan_cx (by kernel_rfl) (fun _ hw => hw.sub (by repeat (first | exact List.Sublist.slnil | exact List.Sublist.refl _ | apply List.Sublist.cons_cons | apply List.Sublist.cons))) rfl (by kernel_rfl) (by kernel_rfl) (v_move rfl) rfl ?_
      refine a_take 6 pan_cx (by kernel_rfl) (fun _ hw => hw.sub (by repeat (first | exact List.Sublist.slnil | exact List.Sublist.refl _ | apply List.Sublist.cons_cons | apply List.Sublist.cons))) rfl (by kernel_rfl) (by kernel_rfl) (v_indexS Try.underlying57 Try.hi30 Try.cz30 rfl rfl (by first | omega | decide)) rfl ?_
      refine a_take 7 pan_cx (by kernel_rfl) (fun _ hw => hw.sub (by repeat (first | exact List.Sublist.slnil | exact List.Sublist.refl _ | apply List.Sublist.cons_cons | apply List.Sublist.cons))) rfl (by kernel_rfl) (by kernel_rfl) (v_loadON Try.underlying30 rfl Try.hi30 rfl (hop2) Try.cz30) rfl ?_
      refine a_take 8 pan_cx (by kernel_rfl) (fun _ hw => hw.sub (by repeat (first | exact List.Sublist.slnil | exact List.Sublist.refl _ | apply List.Sublist.cons_cons | apply List.Sublist.cons))) rfl (by kernel_rfl) (by kernel_rfl) (v_neqRes Try.underlying30 (by kernel_rfl) (by kernel_rfl) (by kernel_rfl) rfl rfl Try.underlying3 Try.underlying28 Try.underlying2 Try.hi2 Try.cz2 Try.hi28 Try.cz28 (by first | rfl | assumption | (simp; omega)) (by first | rfl | assumption | (simp; omega)) rfl rfl) rfl ?_
      refine a_done (by kernel_rfl) ?_
      refine e_condD rfl (fun hd => ?_) (fun hd => ?_)
      · refine e_seq ?_
        refine e_region ?_
        refine w_val (v_assign rfl) rfl ?_
        refine w_nil ?_
        refine e_retQ (q_ret1 rfl (.tmp rfl) ?_)
        exact fun w' hw' => ⟨by rw [decide_eq_false (hne (fun h => hd (by simpa using h)))], hw'.res.nil⟩
      · refine e_skip ?_
        refine e_blk ?_
        refine e_region ?_
        refine w_val (v_move rfl) rfl ?_
        refine w_val (v_add rfl rfl (by omega)) rfl ?_
        refine w_val (v_assign rfl) rfl ?_
        refine w_nil ?_
        exact e_round (k + 1) (⟨by omega, by rw [ht1, ht2, hsame]; simp only [Decidable.not_not] at hd; rw [hd.1, hd.2]⟩) (by omega) (by repeat (first | exact Sub.nil _ | refine Sub.cons rfl ?_)) (fun _ hw => hw)
    · have hab : a = b := by
        have e : k = a.length := by omega
        rw [e, List.take_length, hl', List.take_length] at hsame
        exact hsame
      refine e_exit rfl ?_
      refine e_seq ?_
      refine e_region ?_
      refine w_val (v_assign rfl) rfl ?_
      refine w_nil ?_
      refine e_retQ (q_ret1 rfl (.tmp rfl) ?_)
      exact fun w' hw' => ⟨by rw [decide_eq_true hab], hw'.res.nil⟩
end Go.SL
end
