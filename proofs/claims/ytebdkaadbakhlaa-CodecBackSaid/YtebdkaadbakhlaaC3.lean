/- Ytebdkaadbakhlaa: part C3 of this seat's own texts. -/
import Derived.Test.YtebdkaadbakhlaaC2
set_option linter.unusedVariables false
set_option linter.unusedSimpArgs false
open Go Go.Proofs Go.SL
set_option maxRecDepth 100000
namespace Go.SL
def opCheckL (total i : Nat) (st : Bool) (o : OpL) : Int :=
  if opFaultL o ≠ 0 then opFaultL o else if o.kind = 8 ∧ st = true then 5 else if o.kind = 9 ∧ (o.b < 1 ∨ (total : Int) - i - 1 < o.b) then 1 else 0
def checkFrom (total : Nat) : Nat → Bool → DeedL → Int × Int
  | _, _, [] => (0, 0)
  | i, st, o :: rest => if opCheckL total i st o ≠ 0 then (opCheckL total i st o, i) else checkFrom total (i + 1) (st || decide (o.kind = 7)) rest
def checkL (d : DeedL) : Int × Int := if 14 < d.length then (4, -1) else checkFrom d.length 0 false d
theorem checkFrom_hit {total i : Nat} {st : Bool} {d : DeedL} (h : i < d.length) (hc : opCheckL total i st d[i] ≠ 0) : checkFrom total i st (d.drop i) = (opCheckL total i st d[i], (i : Int)) := by
  rw [List.drop_eq_getElem_cons h]
  simp only [checkFrom]
  rw [if_pos hc]
theorem checkFrom_next {total i : Nat} {st : Bool} {d : DeedL} (h : i < d.length) (hc : opCheckL total i st d[i] = 0) : checkFrom total i st (d.drop i) = checkFrom total (i + 1) (st || decide (d[i].kind = 7)) (d.drop (i + 1)) := by
  rw [List.drop_eq_getElem_cons h]
  simp only [checkFrom]
  rw [if_neg (by simp [hc])]
theorem checkFrom_end {total : Nat} {st : Bool} {d : DeedL} : checkFrom total d.length st (d.drop d.length) = (0, 0) := by simp [checkFrom]
theorem IsDeed.cells {c : View} {A : Option Addr} {d : DeedL} (hc : d ≠ [] → ∃ ad, A = some ad ∧ Cells c ad (deedCells d)) {k : Nat} (hk : k < d.length) : ∃ ad, A = some ad ∧ Cells c (ad.add (k * 5)) (opCells d[k]) := by
  obtain ⟨ad, h1, h2⟩ := hc (by intro e; subst e; simp at hk)
  exact ⟨ad, h1, deed_op h2 (by simp [hk])⟩
theorem check_spec (v : Value) (d : DeedL) (w : World) (h : IsDeed w.cell? v d) : Calls Try.prog 45 #[v] w fun e w' => e = .returned (faultV (checkL d)) ∧ Res w [] [] w' := by
  rw [← off_none w] at h
  obtain ⟨A, kp, rfl, hle, hc⟩ := h.form
  refine enter0 (N := 62) Try.func45 rfl rfl rfl ?_
  refine e_seq ?_
  refine e_region ?_
  refine w_op rfl ?_
  refine x_alloc (z := .agg #[.int .i64 0, .int .i64 0]) (by intro w; exact Try.zeroValue44 w) rfl (fun b2 => ?_)
  refine w_nil ?_
  refine e_seq ?_
  refine e_seq ?_
  refine e_region ?_
  refine w_val (v_move rfl) rfl ?_
  refine w_val (v_lenS Try.underlying25 rfl) rfl ?_
  refine w_val (v_gtr rfl rfl) rfl ?_
  refine w_nil ?_
  refine e_condD rfl (fun h14 => ?_) (fun h14 => ?_)
  · refine e_seq ?_
    refine e_region ?_
    refine w_val (v_build _ rfl (by intro _; simp [Instr.build, Instr.fill, Try.zeroValue44, go_sem]; rfl)) rfl ?_
    refine w_op rfl ?_
    first | refine x_storeA 0 rfl rfl rfl Try.hi44 Try.cz44 rfl (by first | (simp [Value.oneCell', opCells]; done) | assumption | exact one_ints _ | exact one_resCells _ _) ?_ | refine x_storeA 1 rfl rfl rfl Try.hi44 Try.cz44 rfl (by first | (simp [Value.oneCell', opCells]; done) | assumption | exact one_ints _ | exact one_resCells _ _) ?_ | refine x_storeA 2 rfl rfl rfl Try.hi44 Try.cz44 rfl (by first | (simp [Value.oneCell', opCells]; done) | assumption | exact one_ints _ | exact one_resCells _ _) ?_ | refine x_storeA 3 rfl rfl rfl Try.hi44 Try.cz44 rfl (by first | (simp [Value.oneCell', opCells]; done) | assumption | exact one_ints _ | exact one_resCells _ _) ?_ | refine x_storeA 4 rfl rfl rfl Try.hi44 Try.cz44 rfl (by first | (simp [Value.oneCell', opCells]; done) | assumption | exact one_ints _ | exact one_resCells _ _) ?_ | refine x_storeA 5 rfl rfl rfl Try.hi44 Try.cz44 rfl (by first | (simp [Value.oneCell', opCells]; done) | assumption | exact one_ints _ | exact one_resCells _ _) ?_ | refine x_storeA 6 rfl rfl rfl Try.hi44 Try.cz44 rfl (by first | (simp [Value.oneCell', opCells]; done) | assumption | exact one_ints _ | exact one_resCells _ _) ?_ | refine x_storeA 7 rfl rfl rfl Try.hi44 Try.cz44 rfl (by first | (simp [Value.oneCell', opCells]; done) | assumption | exact one_ints _ | exact one_resCells _ _) ?_
    refine w_nil ?_
    refine e_retQ (q_ret1 rfl (ResV.agg 0 rfl rfl (by rw [isAggD, Try.underlying44]; rfl) (Try.cz44) Try.hi44) ?_)
    exact fun w' hw' => ⟨by simp only [checkL]; rw [if_pos (by omega)]; rfl, hw'.res.nil⟩
  · refine e_skip ?_
    refine e_seq ?_
    refine e_region ?_
    refine w_val (v_assign rfl) rfl ?_
    refine w_nil ?_
    refine e_seq ?_
    refine e_seq ?_
    refine e_region ?_
    refine w_val (v_move rfl) rfl ?_
    refine w_val (v_lenS Try.underlying25 rfl) rfl ?_
    refine w_val (v_move rfl) rfl ?_
    refine w_nil ?_
    refine e_block ?_
    refine e_loopK (σ := Nat × Bool) [0, 2, 11, 12] (.cons rfl (.cons rfl (.cons rfl (.cons rfl .nil)))) (fun s => [(13, .int .i64 s.1), (3, .bool s.2)]) (fun s => s.1 ≤ d.length ∧ checkFrom d.length s.1 s.2 (d.drop s.1) = checkL d) (fun s => d.length - s.1) (0, false) ⟨by simp, by simp only [checkL]; rw [if_neg (by omega)]; rfl⟩ (by repeat (first | exact Sub.nil _ | refine Sub.cons rfl ?_)) ?_
    rintro ⟨k, st⟩ ⟨hk, hrel⟩
    dsimp only at hk hrel ⊢
    refine e_seq ?_
    refine e_region ?_
    refine w_val (v_lss rfl rfl) rfl ?_
    refine w_nil ?_
    refine e_seq ?_
    refine e_condD rfl (fun hlt => ?_) (fun hlt => ?_)
    · have hlt' : k < d.length := by omega
      obtain ⟨ad, rfl, hop⟩ := IsDeed.cells hc hlt'
      have hnx := fun hc => checkFrom_next (total := d.length) (i := k) (st := st) (d := d) hlt' hc
      have hhit := fun hc => checkFrom_hit (total := d.length) (i := k) (st := st) (d := d) hlt' hc
      rw [hrel] at hnx hhit
      generalize ho : d[k] = o at *
      refine e_skip ?_
      refine e_seq ?_
      refine e_block ?_
      refine e_seq ?_
      refine e_region ?_
      refine w_val (v_move rfl) rfl ?_
      first | refine w_val (v_indexSB Try.underlying25 Try.hi36 Try.cz36 rfl rfl (by omega)) rfl ?_ | refine w_val (v_indexS Try.underlying25 Try.hi36 Try.cz36 rfl rfl (by omega)) rfl ?_
      first | refine w_val (v_loadON Try.underlying36 rfl Try.hi36 rfl (hop) Try.cz36) rfl ?_ | refine w_val (v_loadBA 0 rfl Try.underlying36 rfl Try.hi36 Try.cz36 rfl) rfl ?_ | refine w_val (v_loadBA 1 rfl Try.underlying36 rfl Try.hi36 Try.cz36 rfl) rfl ?_ | refine w_val (v_loadBA 2 rfl Try.underlying36 rfl Try.hi36 Try.cz36 rfl) rfl ?_ | refine w_val (v_loadBA 3 rfl Try.underlying36 rfl Try.hi36 Try.cz36 rfl) rfl ?_ | refine w_val (v_loadBA 4 rfl Try.underlying36 rfl Try.hi36 Try.cz36 rfl) rfl ?_ | refine w_val (v_loadBA 5 rfl Try.underlying36 rfl Try.hi36 Try.cz36 rfl) rfl ?_ | refine w_val (v_loadBA 6 rfl Try.underlying36 rfl Try.hi36 Try.cz36 rfl) rfl ?_ | refine w_val (v_loadBA 7 rfl Try.underlying36 rfl Try.hi36 Try.cz36 rfl) rfl ?_ | refine w_val (v_loadBN 0 rfl Try.underlying36 rfl Try.hi36 Try.cz36 rfl rfl rfl) rfl ?_ | refine w_val (v_loadBN 1 rfl Try.underlying36 rfl Try.hi36 Try.cz36 rfl rfl rfl) rfl ?_ | refine w_val (v_loadBN 2 rfl Try.underlying36 rfl Try.hi36 Try.cz36 rfl rfl rfl) rfl ?_ | refine w_val (v_loadBN 3 rfl Try.underlying36 rfl Try.hi36 Try.cz36 rfl rfl rfl) rfl ?_ | refine w_val (v_loadBN 4 rfl Try.underlying36 rfl Try.hi36 Try.cz36 rfl rfl rfl) rfl ?_ | refine w_val (v_loadBN 5 rfl Try.underlying36 rfl Try.hi36 Try.cz36 rfl rfl rfl) rfl ?_ | refine w_val (v_loadBN 6 rfl Try.underlying36 rfl Try.hi36 Try.cz36 rfl rfl rfl) rfl ?_ | refine w_val (v_loadBN 7 rfl Try.underlying36 rfl Try.hi36 Try.cz36 rfl rfl rfl) rfl ?_
      refine w_op rfl ?_
      refine x_alloc (z := .agg #[.int .i64 0, .int .i64 0, .int .i64 0, .int .i64 0, .int .i64 0]) (by intro w; exact Try.zeroValue36 w) rfl (fun b5 => ?_)
      refine w_val (v_assign rfl) rfl ?_
      refine w_op rfl ?_
      first | refine x_storeA 0 rfl rfl rfl Try.hi36 Try.cz36 rfl (by first | (simp [Value.oneCell', opCells]; done) | assumption | exact one_ints _ | exact one_resCells _ _) ?_ | refine x_storeA 1 rfl rfl rfl Try.hi36 Try.cz36 rfl (by first | (simp [Value.oneCell', opCells]; done) | assumption | exact one_ints _ | exact one_resCells _ _) ?_ | refine x_storeA 2 rfl rfl rfl Try.hi36 Try.cz36 rfl (by first | (simp [Value.oneCell', opCells]; done) | assumption | exact one_ints _ | exact one_resCells _ _) ?_ | refine x_storeA 3 rfl rfl rfl Try.hi36 Try.cz36 rfl (by first | (simp [Value.oneCell', opCells]; done) | assumption | exact one_ints _ | exact one_resCells _ _) ?_ | refine x_storeA 4 rfl rfl rfl Try.hi36 Try.cz36 rfl (by first | (simp [Value.oneCell', opCells]; done) | assumption | exact one_ints _ | exact one_resCells _ _) ?_ | refine x_storeA 5 rfl rfl rfl Try.hi36 Try.cz36 rfl (by first | (simp [Value.oneCell', opCells]; done) | assumption | exact one_ints _ | exact one_resCells _ _) ?_ | refine x_storeA 6 rfl rfl rfl Try.hi36 Try.cz36 rfl (by first | (simp [Value.oneCell', opCells]; done) | assumption | exact one_ints _ | exact one_resCells _ _) ?_ | refine x_storeA 7 rfl rfl rfl Try.hi36 Try.cz36 rfl (by first | (simp [Value.oneCell', opCells]; done) | assumption | exact one_ints _ | exact one_resCells _ _) ?_
      refine w_nil ?_
      refine e_seq ?_
      refine e_region ?_
      first | refine w_val (v_loadON Try.underlying36 rfl Try.hi36 rfl (hop) Try.cz36) rfl ?_ | refine w_val (v_loadBA 0 rfl Try.underlying36 rfl Try.hi36 Try.cz36 rfl) rfl ?_ | refine w_val (v_loadBA 1 rfl Try.underlying36 rfl Try.hi36 Try.cz36 rfl) rfl ?_ | refine w_val (v_loadBA 2 rfl Try.underlying36 rfl Try.hi36 Try.cz36 rfl) rfl ?_ | refine w_val (v_loadBA 3 rfl Try.underlying36 rfl Try.hi36 Try.cz36 rfl) rfl ?_ | refine w_val (v_loadBA 4 rfl Try.underlying36 rfl Try.hi36 Try.cz36 rfl) rfl ?_ | refine w_val (v_loadBA 5 rfl Try.underlying36 rfl Try.hi36 Try.cz36 rfl) rfl ?_ | refine w_val (v_loadBA 6 rfl Try.underlying36 rfl Try.hi36 Try.cz36 rfl) rfl ?_ | refine w_val (v_loadBA 7 rfl Try.underlying36 rfl Try.hi36 Try.cz36 rfl) rfl ?_ | refine w_val (v_loadBN 0 rfl Try.underlying36 rfl Try.hi36 Try.cz36 rfl rfl rfl) rfl ?_ | refine w_val (v_loadBN 1 rfl Try.underlying36 rfl Try.hi36 Try.cz36 rfl rfl rfl) rfl ?_ | refine w_val (v_loadBN 2 rfl Try.underlying36 rfl Try.hi36 Try.cz36 rfl rfl rfl) rfl ?_ | refine w_val (v_loadBN 3 rfl Try.underlying36 rfl Try.hi36 Try.cz36 rfl rfl rfl) rfl ?_ | refine w_val (v_loadBN 4 rfl Try.underlying36 rfl Try.hi36 Try.cz36 rfl rfl rfl) rfl ?_ | refine w_val (v_loadBN 5 rfl Try.underlying36 rfl Try.hi36 Try.cz36 rfl rfl rfl) rfl ?_ | refine w_val (v_loadBN 6 rfl Try.underlying36 rfl Try.hi36 Try.cz36 rfl rfl rfl) rfl ?_ | refine w_val (v_loadBN 7 rfl Try.underlying36 rfl Try.hi36 Try.cz36 rfl rfl rfl) rfl ?_
      refine w_op rfl ?_
      refine x_call0 (v := .int .i64 (opFaultL o)) rfl rfl rfl Try.call62 rfl (fun w hw => op_spec o w) ?_
      refine w_val (v_assign rfl) rfl ?_
      refine w_nil ?_
      refine e_seq ?_
      refine e_cutK (σ := Unit) [0, 2, 3, 4, 5, 11, 12, 13] (.cons rfl (.cons rfl (.cons rfl (.cons rfl (.cons rfl (.cons rfl (.cons rfl (.cons rfl .nil)))))))) (fun _ => [(6, .int .i64 (opCheckL d.length k st o))]) (fun _ => True) ?_ ?_
      · refine e_block ?_
        refine e_seq ?_
        refine e_region ?_
        refine w_val (v_move rfl) rfl ?_
        refine w_val (v_neq rfl rfl) rfl ?_
        refine w_val (v_assign rfl) rfl ?_
        refine w_nil ?_
        refine e_condD rfl (fun h1 => ?_) (fun h1 => ?_)
        · refine e_skip ?_
          refine e_blk ?_
          have : opCheckL d.length k st o = opFaultL o := by simp only [opCheckL]; rw [if_pos h1]
          rw [this]
          exact e_cutEnd (()) (trivial) (by repeat (first | exact Sub.nil _ | refine Sub.cons rfl ?_)) (fun _ hw => hw)
        · refine e_seq ?_
          refine e_test 23 (decide (o.kind = 8 ∧ st = true)) ?_ ?_
          · refine e_region ?_
            first | refine w_val (v_fieldAddrB (o := 0) Try.underlying36 rfl rfl Try.nz3 rfl) rfl ?_ | refine w_val (v_fieldAddr (o := 0) Try.underlying36 rfl rfl Try.nz3 rfl) rfl ?_
            first | refine w_val (v_loadO Try.underlying3 rfl rfl ((hop) _ _ rfl)) rfl ?_ | refine w_val (v_loadB 0 rfl Try.underlying3 rfl rfl rfl) rfl ?_ | refine w_val (v_loadB 1 rfl Try.underlying3 rfl rfl rfl) rfl ?_ | refine w_val (v_loadB 2 rfl Try.underlying3 rfl rfl rfl) rfl ?_ | refine w_val (v_loadB 3 rfl Try.underlying3 rfl rfl rfl) rfl ?_ | refine w_val (v_loadB 4 rfl Try.underlying3 rfl rfl rfl) rfl ?_ | refine w_val (v_loadB 5 rfl Try.underlying3 rfl rfl rfl) rfl ?_ | refine w_val (v_loadB 6 rfl Try.underlying3 rfl rfl rfl) rfl ?_ | refine w_val (v_loadB 7 rfl Try.underlying3 rfl rfl rfl) rfl ?_
            refine w_valD (v_eql rfl rfl) rfl (fun hg2 => ?_) (fun hg2 => ?_)
            · refine w_val (v_move rfl) rfl ?_
              refine w_want rfl rfl ?_
              -- ✋ not served: split at move
              refine w_val (v_move rfl) rfl ?_
              refine w_val (v_pickT rfl rfl) rfl ?_
              refine w_val (v_assign rfl) rfl ?_
              refine w_nil ?_
              exact e_testEnd rfl (by first | (simp_all; done) | (simp_all; omega)) (by repeat (first | exact Sub.refl _ | exact Sub.nil _ | exact Sub.del _ _ | refine Sub.skip rfl ?_)) (fun _ hw => hw)
            · refine w_val (v_move rfl) rfl ?_
              refine w_skip rfl rfl rfl rfl ?_
              refine w_val (v_pickF rfl rfl) rfl ?_
              refine w_val (v_assign rfl) rfl ?_
              refine w_nil ?_
              exact e_testEnd rfl (by first | (simp_all; done) | (simp_all; omega)) (by repeat (first | exact Sub.refl _ | exact Sub.nil _ | exact Sub.del _ _ | refine Sub.skip rfl ?_)) (fun _ hw => hw)
          refine e_condD rfl (fun h2 => ?_) (fun h2 => ?_)
          · refine e_region ?_
            refine w_val (v_assign rfl) rfl ?_
            refine w_nil ?_
            refine e_blk ?_
            have : opCheckL d.length k st o = 5 := by simp only [opCheckL]; rw [if_neg h1, if_pos h2]
            rw [this]
            exact e_cutEnd (()) (trivial) (by repeat (first | exact Sub.nil _ | refine Sub.cons rfl ?_)) (fun _ hw => hw)
          · refine e_seq ?_
            refine e_test 30 (decide (o.kind = 9 ∧ (o.b < 1 ∨ (d.length : Int) - k - 1 < o.b))) ?_ ?_
            · refine e_region ?_
              first | refine w_val (v_fieldAddrB (o := 0) Try.underlying36 rfl rfl Try.nz3 rfl) rfl ?_ | refine w_val (v_fieldAddr (o := 0) Try.underlying36 rfl rfl Try.nz3 rfl) rfl ?_
              first | refine w_val (v_loadO Try.underlying3 rfl rfl ((hop) _ _ rfl)) rfl ?_ | refine w_val (v_loadB 0 rfl Try.underlying3 rfl rfl rfl) rfl ?_ | refine w_val (v_loadB 1 rfl Try.underlying3 rfl rfl rfl) rfl ?_ | refine w_val (v_loadB 2 rfl Try.underlying3 rfl rfl rfl) rfl ?_ | refine w_val (v_loadB 3 rfl Try.underlying3 rfl rfl rfl) rfl ?_ | refine w_val (v_loadB 4 rfl Try.underlying3 rfl rfl rfl) rfl ?_ | refine w_val (v_loadB 5 rfl Try.underlying3 rfl rfl rfl) rfl ?_ | refine w_val (v_loadB 6 rfl Try.underlying3 rfl rfl rfl) rfl ?_ | refine w_val (v_loadB 7 rfl Try.underlying3 rfl rfl rfl) rfl ?_
              refine w_valD (v_eql rfl rfl) rfl (fun hg2 => ?_) (fun hg2 => ?_)
              · refine w_val (v_move rfl) rfl ?_
                refine w_want rfl rfl ?_
                first | refine w_val (v_fieldAddrB (o := 2) Try.underlying36 rfl rfl Try.nz3 rfl) rfl ?_ | refine w_val (v_fieldAddr (o := 2) Try.underlying36 rfl rfl Try.nz3 rfl) rfl ?_
                refine w_want rfl rfl ?_
                first | refine w_val (v_loadO Try.underlying3 rfl rfl ((hop) _ _ rfl)) rfl ?_ | refine w_val (v_loadB 0 rfl Try.underlying3 rfl rfl rfl) rfl ?_ | refine w_val (v_loadB 1 rfl Try.underlying3 rfl rfl rfl) rfl ?_ | refine w_val (v_loadB 2 rfl Try.underlying3 rfl rfl rfl) rfl ?_ | refine w_val (v_loadB 3 rfl Try.underlying3 rfl rfl rfl) rfl ?_ | refine w_val (v_loadB 4 rfl Try.underlying3 rfl rfl rfl) rfl ?_ | refine w_val (v_loadB 5 rfl Try.underlying3 rfl rfl rfl) rfl ?_ | refine w_val (v_loadB 6 rfl Try.underlying3 rfl rfl rfl) rfl ?_ | refine w_val (v_loadB 7 rfl Try.underlying3 rfl rfl rfl) rfl ?_
                refine w_want rfl rfl ?_
                refine w_valD (v_lss rfl rfl) rfl (fun hg6 => ?_) (fun hg6 => ?_)
                · refine w_want rfl rfl ?_
                  refine w_val (v_move rfl) rfl ?_
                  refine w_skip rfl rfl rfl rfl ?_
                  refine w_skip rfl rfl rfl rfl ?_
                  refine w_skip rfl rfl rfl rfl ?_
                  refine w_skip rfl rfl rfl rfl ?_
                  refine w_skip rfl rfl rfl rfl ?_
                  refine w_skip rfl rfl rfl rfl ?_
                  refine w_skip rfl rfl rfl rfl ?_
                  refine w_skip rfl rfl rfl rfl ?_
                  refine w_want rfl rfl ?_
                  refine w_val (v_pickT rfl rfl) rfl ?_
                  refine w_val (v_pickT rfl rfl) rfl ?_
                  refine w_val (v_assign rfl) rfl ?_
                  refine w_nil ?_
                  exact e_testEnd rfl (by first | (simp_all; done) | (simp_all; omega)) (by repeat (first | exact Sub.refl _ | exact Sub.nil _ | exact Sub.del _ _ | refine Sub.skip rfl ?_)) (fun _ hw => hw)
                · refine w_want rfl rfl ?_
                  refine w_val (v_move rfl) rfl ?_
                  refine w_want rfl rfl ?_
                  first | refine w_val (v_fieldAddrB (o := 2) Try.underlying36 rfl rfl Try.nz3 rfl) rfl ?_ | refine w_val (v_fieldAddr (o := 2) Try.underlying36 rfl rfl Try.nz3 rfl) rfl ?_
                  refine w_want rfl rfl ?_
                  first | refine w_val (v_loadO Try.underlying3 rfl rfl ((hop) _ _ rfl)) rfl ?_ | refine w_val (v_loadB 0 rfl Try.underlying3 rfl rfl rfl) rfl ?_ | refine w_val (v_loadB 1 rfl Try.underlying3 rfl rfl rfl) rfl ?_ | refine w_val (v_loadB 2 rfl Try.underlying3 rfl rfl rfl) rfl ?_ | refine w_val (v_loadB 3 rfl Try.underlying3 rfl rfl rfl) rfl ?_ | refine w_val (v_loadB 4 rfl Try.underlying3 rfl rfl rfl) rfl ?_ | refine w_val (v_loadB 5 rfl Try.underlying3 rfl rfl rfl) rfl ?_ | refine w_val (v_loadB 6 rfl Try.underlying3 rfl rfl rfl) rfl ?_ | refine w_val (v_loadB 7 rfl Try.underlying3 rfl rfl rfl) rfl ?_
                  refine w_want rfl rfl ?_
                  refine w_val (v_move rfl) rfl ?_
                  refine w_want rfl rfl ?_
                  refine w_val (v_lenS Try.underlying25 rfl) rfl ?_
                  refine w_want rfl rfl ?_
                  refine w_val (v_move rfl) rfl ?_
                  refine w_want rfl rfl ?_
                  first | refine w_val (v_sub rfl rfl (by omega)) rfl ?_ | refine w_val (v_subw rfl rfl) rfl ?_
                  refine w_want rfl rfl ?_
                  first | refine w_val (v_sub rfl rfl (by omega)) rfl ?_ | refine w_val (v_subw rfl rfl) rfl ?_
                  refine w_want rfl rfl ?_
                  refine w_valD (v_gtr rfl rfl) rfl (fun hg15 => ?_) (fun hg15 => ?_)
                  · refine w_want rfl rfl ?_
                    refine w_val (v_pickF rfl rfl) rfl ?_
                    refine w_val (v_pickT rfl rfl) rfl ?_
                    refine w_val (v_assign rfl) rfl ?_
                    refine w_nil ?_
                    exact e_testEnd rfl (by first | (simp_all; done) | (simp_all; omega)) (by repeat (first | exact Sub.refl _ | exact Sub.nil _ | exact Sub.del _ _ | refine Sub.skip rfl ?_)) (fun _ hw => hw)
                  · refine w_want rfl rfl ?_
                    refine w_val (v_pickF rfl rfl) rfl ?_
                    refine w_val (v_pickT rfl rfl) rfl ?_
                    refine w_val (v_assign rfl) rfl ?_
                    refine w_nil ?_
                    exact e_testEnd rfl (by first | (simp_all; done) | (simp_all; omega)) (by repeat (first | exact Sub.refl _ | exact Sub.nil _ | exact Sub.del _ _ | refine Sub.skip rfl ?_)) (fun _ hw => hw)
              · refine w_val (v_move rfl) rfl ?_
                refine w_skip rfl rfl rfl rfl ?_
                refine w_skip rfl rfl rfl rfl ?_
                refine w_skip rfl rfl rfl rfl ?_
                refine w_skip rfl rfl rfl rfl ?_
                refine w_skip rfl rfl rfl rfl ?_
                refine w_skip rfl rfl rfl rfl ?_
                refine w_skip rfl rfl rfl rfl ?_
                refine w_skip rfl rfl rfl rfl ?_
                refine w_skip rfl rfl rfl rfl ?_
                refine w_skip rfl rfl rfl rfl ?_
                refine w_skip rfl rfl rfl rfl ?_
                refine w_skip rfl rfl rfl rfl ?_
                refine w_skip rfl rfl rfl rfl ?_
                refine w_val (v_pickF rfl rfl) rfl ?_
                refine w_val (v_assign rfl) rfl ?_
                refine w_nil ?_
                exact e_testEnd rfl (by first | (simp_all; done) | (simp_all; omega)) (by repeat (first | exact Sub.refl _ | exact Sub.nil _ | exact Sub.del _ _ | refine Sub.skip rfl ?_)) (fun _ hw => hw)
            refine e_condD rfl (fun h3 => ?_) (fun h3 => ?_)
            · refine e_region ?_
              refine w_val (v_assign rfl) rfl ?_
              refine w_nil ?_
              refine e_blk ?_
              have : opCheckL d.length k st o = 1 := by simp only [opCheckL]; rw [if_neg h1, if_neg h2, if_pos h3]
              rw [this]
              exact e_cutEnd (()) (trivial) (by repeat (first | exact Sub.nil _ | refine Sub.cons rfl ?_)) (fun _ hw => hw)
            · refine e_skip ?_
              refine e_blk ?_
              have : opCheckL d.length k st o = opFaultL o := by simp only [opCheckL]; rw [if_neg h1, if_neg h2, if_neg h3]; omega
              rw [this]
              exact e_cutEnd (()) (trivial) (by repeat (first | exact Sub.nil _ | refine Sub.cons rfl ?_)) (fun _ hw => hw)
      · rintro - -
        refine e_seq ?_
        refine e_seq ?_
        refine e_region ?_
        refine w_val (v_move rfl) rfl ?_
        refine w_val (v_neq rfl rfl) rfl ?_
        refine w_nil ?_
        refine e_condD rfl (fun h1 => ?_) (fun h1 => ?_)
        · refine e_seq ?_
          refine e_region ?_
          refine w_val (v_move rfl) rfl ?_
          refine w_val (v_move rfl) rfl ?_
          refine w_val (v_build _ rfl (by intro _; simp [Instr.build, Instr.fill, Try.zeroValue44, go_sem]; rfl)) rfl ?_
          refine w_op rfl ?_
          first | refine x_storeA 0 rfl rfl rfl Try.hi44 Try.cz44 rfl (by first | (simp [Value.oneCell', opCells]; done) | assumption | exact one_ints _ | exact one_resCells _ _) ?_ | refine x_storeA 1 rfl rfl rfl Try.hi44 Try.cz44 rfl (by first | (simp [Value.oneCell', opCells]; done) | assumption | exact one_ints _ | exact one_resCells _ _) ?_ | refine x_storeA 2 rfl rfl rfl Try.hi44 Try.cz44 rfl (by first | (simp [Value.oneCell', opCells]; done) | assumption | exact one_ints _ | exact one_resCells _ _) ?_ | refine x_storeA 3 rfl rfl rfl Try.hi44 Try.cz44 rfl (by first | (simp [Value.oneCell', opCells]; done) | assumption | exact one_ints _ | exact one_resCells _ _) ?_ | refine x_storeA 4 rfl rfl rfl Try.hi44 Try.cz44 rfl (by first | (simp [Value.oneCell', opCells]; done) | assumption | exact one_ints _ | exact one_resCells _ _) ?_ | refine x_storeA 5 rfl rfl rfl Try.hi44 Try.cz44 rfl (by first | (simp [Value.oneCell', opCells]; done) | assumption | exact one_ints _ | exact one_resCells _ _) ?_ | refine x_storeA 6 rfl rfl rfl Try.hi44 Try.cz44 rfl (by first | (simp [Value.oneCell', opCells]; done) | assumption | exact one_ints _ | exact one_resCells _ _) ?_ | refine x_storeA 7 rfl rfl rfl Try.hi44 Try.cz44 rfl (by first | (simp [Value.oneCell', opCells]; done) | assumption | exact one_ints _ | exact one_resCells _ _) ?_
          refine w_nil ?_
          refine e_retQ (q_ret1 rfl (ResV.agg 1 rfl rfl (by rw [isAggD, Try.underlying44]; rfl) (Try.cz44) Try.hi44) ?_)
          exact fun w' hw' => ⟨by rw [hhit h1]; rfl, hw'.res.nil⟩
        · have h0 : opCheckL d.length k st o = 0 := by omega
          refine e_skip ?_
          have hrel' := hnx h0
          cases st
          · refine e_test 3 (false || decide (o.kind = 7)) ?_ ?_
            · refine e_region ?_
              -- ✋ not served: split at move
              refine w_val (v_move rfl) rfl ?_
              refine w_val (v_move rfl) rfl ?_
              refine w_want rfl rfl ?_
              first | refine w_val (v_fieldAddrB (o := 0) Try.underlying36 rfl rfl Try.nz3 rfl) rfl ?_ | refine w_val (v_fieldAddr (o := 0) Try.underlying36 rfl rfl Try.nz3 rfl) rfl ?_
              refine w_want rfl rfl ?_
              first | refine w_val (v_loadO Try.underlying3 rfl rfl ((hop) _ _ rfl)) rfl ?_ | refine w_val (v_loadB 0 rfl Try.underlying3 rfl rfl rfl) rfl ?_ | refine w_val (v_loadB 1 rfl Try.underlying3 rfl rfl rfl) rfl ?_ | refine w_val (v_loadB 2 rfl Try.underlying3 rfl rfl rfl) rfl ?_ | refine w_val (v_loadB 3 rfl Try.underlying3 rfl rfl rfl) rfl ?_ | refine w_val (v_loadB 4 rfl Try.underlying3 rfl rfl rfl) rfl ?_ | refine w_val (v_loadB 5 rfl Try.underlying3 rfl rfl rfl) rfl ?_ | refine w_val (v_loadB 6 rfl Try.underlying3 rfl rfl rfl) rfl ?_ | refine w_val (v_loadB 7 rfl Try.underlying3 rfl rfl rfl) rfl ?_
              refine w_want rfl rfl ?_
              refine w_valD (v_eql rfl rfl) rfl (fun hg4 => ?_) (fun hg4 => ?_)
              · refine w_val (v_pickF rfl rfl) rfl ?_
                refine w_val (v_assign rfl) rfl ?_
                refine w_nil ?_
                exact e_testEnd rfl (by simp_all) (by repeat (first | exact Sub.refl _ | exact Sub.nil _ | exact Sub.del _ _ | refine Sub.skip rfl ?_)) (fun _ hw => hw)
              · refine w_val (v_pickF rfl rfl) rfl ?_
                refine w_val (v_assign rfl) rfl ?_
                refine w_nil ?_
                exact e_testEnd rfl (by simp_all) (by repeat (first | exact Sub.refl _ | exact Sub.nil _ | exact Sub.del _ _ | refine Sub.skip rfl ?_)) (fun _ hw => hw)
            refine e_blk ?_
            refine e_region ?_
            first | refine w_val (v_add rfl rfl (by omega)) rfl ?_ | refine w_val (v_addw rfl rfl) rfl ?_
            refine w_val (v_move rfl) rfl ?_
            refine w_nil ?_
            exact e_round ((k + 1, false || decide (o.kind = 7))) (⟨by simp only; omega, hrel'.symm⟩) (by simp only; omega) (by repeat (first | exact Sub.nil _ | refine Sub.cons rfl ?_)) (fun _ hw => hw.sub (List.sublist_cons_self _ _))
          · refine e_test 3 (true || decide (o.kind = 7)) ?_ ?_
            · refine e_region ?_
              -- ✋ not served: split at move
              refine w_val (v_move rfl) rfl ?_
              refine w_val (v_move rfl) rfl ?_
              refine w_skip rfl rfl rfl rfl ?_
              refine w_skip rfl rfl rfl rfl ?_
              refine w_skip rfl rfl rfl rfl ?_
              refine w_val (v_pickT rfl rfl) rfl ?_
              refine w_val (v_assign rfl) rfl ?_
              refine w_nil ?_
              exact e_testEnd rfl (by simp_all) (by repeat (first | exact Sub.refl _ | exact Sub.nil _ | exact Sub.del _ _ | refine Sub.skip rfl ?_)) (fun _ hw => hw)
            refine e_blk ?_
            refine e_region ?_
            first | refine w_val (v_add rfl rfl (by omega)) rfl ?_ | refine w_val (v_addw rfl rfl) rfl ?_
            refine w_val (v_move rfl) rfl ?_
            refine w_nil ?_
            exact e_round ((k + 1, true || decide (o.kind = 7))) (⟨by simp only; omega, hrel'.symm⟩) (by simp only; omega) (by repeat (first | exact Sub.nil _ | refine Sub.cons rfl ?_)) (fun _ hw => hw.sub (List.sublist_cons_self _ _))
    · obtain rfl : k = d.length := by omega
      refine e_exit rfl ?_
      refine e_seq ?_
      refine e_region ?_
      refine w_val (v_build _ rfl (by intro _; simp [Instr.build, Instr.fill, Try.zeroValue44, go_sem]; rfl)) rfl ?_
      refine w_op rfl ?_
      first | refine x_storeA 0 rfl rfl rfl Try.hi44 Try.cz44 rfl (by first | (simp [Value.oneCell', opCells]; done) | assumption | exact one_ints _ | exact one_resCells _ _) ?_ | refine x_storeA 1 rfl rfl rfl Try.hi44 Try.cz44 rfl (by first | (simp [Value.oneCell', opCells]; done) | assumption | exact one_ints _ | exact one_resCells _ _) ?_ | refine x_storeA 2 rfl rfl rfl Try.hi44 Try.cz44 rfl (by first | (simp [Value.oneCell', opCells]; done) | assumption | exact one_ints _ | exact one_resCells _ _) ?_ | refine x_storeA 3 rfl rfl rfl Try.hi44 Try.cz44 rfl (by first | (simp [Value.oneCell', opCells]; done) | assumption | exact one_ints _ | exact one_resCells _ _) ?_ | refine x_storeA 4 rfl rfl rfl Try.hi44 Try.cz44 rfl (by first | (simp [Value.oneCell', opCells]; done) | assumption | exact one_ints _ | exact one_resCells _ _) ?_ | refine x_storeA 5 rfl rfl rfl Try.hi44 Try.cz44 rfl (by first | (simp [Value.oneCell', opCells]; done) | assumption | exact one_ints _ | exact one_resCells _ _) ?_ | refine x_storeA 6 rfl rfl rfl Try.hi44 Try.cz44 rfl (by first | (simp [Value.oneCell', opCells]; done) | assumption | exact one_ints _ | exact one_resCells _ _) ?_ | refine x_storeA 7 rfl rfl rfl Try.hi44 Try.cz44 rfl (by first | (simp [Value.oneCell', opCells]; done) | assumption | exact one_ints _ | exact one_resCells _ _) ?_
      refine w_nil ?_
      refine e_retQ (q_ret1 rfl (ResV.agg 0 rfl rfl (by rw [isAggD, Try.underlying44]; rfl) (Try.cz44) Try.hi44) ?_)
      exact fun w' hw' => ⟨by rw [← hrel, checkFrom_end]; rfl, hw'.res.nil⟩
end Go.SL
