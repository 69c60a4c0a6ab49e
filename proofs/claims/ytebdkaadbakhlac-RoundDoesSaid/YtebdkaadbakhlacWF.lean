/- Ytebdkaadbakhlac: part WF of this seat's own texts. -/
import Derived.Test.YtebdkaadbakhlacWE
import Derived.Test.YtebdkaadbakhlacP5
set_option linter.unusedVariables false
set_option linter.unusedSimpArgs false
section

open Go Go.Proofs Go.SL
set_option maxRecDepth 100000
namespace Go.SL
theorem tabBefore_spec (p : Nat) (hs : Nat → Value) (T : TabL) (k by_ : Int) (w : World) (h : TbV w.cell? p hs T) (hn : ∀ k, k < 10 → (T k).length ≤ 1000) :
    Calls Try.prog 99 #[.pointer (some ⟨p, 0, none⟩), .int .i64 k, .int .i64 by_] w fun e w' => e = .returned (.tuple #[.int .i64 (befT T k by_).1, .int .i64 (befT T k by_).2]) ∧ Res w [] [] w' := by
  rw [← off_none w] at h
  refine enter0 (N := 50) Try.func99 rfl rfl rfl ?_
  by_cases hk : 0 ≤ k ∧ k < 10
  · have hbt : befT T k by_ = befL (T k.toNat) by_ := by unfold befT; rw [if_pos hk]
    obtain ⟨k, rfl⟩ : ∃ n : Nat, k = n := ⟨k.toNat, by omega⟩
    have hk' : k < 10 := by omega
    have hl := hn k hk'
    obtain ⟨A, cap, _, hle, hhdr, hrow⟩ := h.at hk'
    rw [Int.toNat_natCast] at hbt
    rw [hbt]
    generalize T k = l at *
    refine e_seq ?_
    refine e_region ?_
    refine w_val (v_assign rfl) rfl ?_
    refine w_val (v_assign rfl) rfl ?_
    refine w_nil ?_
    refine e_seq ?_
    refine e_seq ?_
    refine e_region ?_
    refine w_val (v_move rfl) rfl ?_
    refine w_op rfl ?_
    refine x_call0 (v := .bool true) rfl rfl rfl Try.call75 rfl (fun w hw => by have := tabKey_spec (k : Int) w; rwa [decide_eq_true hk] at this) ?_
    refine w_val (v_is (v' := .bool false) (v_not rfl) (by rfl)) rfl ?_
    refine w_nil ?_
    refine e_condF rfl ?_
    refine e_skip ?_
    refine e_seq ?_
    refine e_seq ?_
    refine e_region ?_
    refine w_val (v_move rfl) rfl ?_
    refine w_val (v_move rfl) rfl ?_
    refine w_val (v_nilCheck rfl) rfl ?_
    refine w_val (v_fieldAddrB (o := 0) Try.underlying137 rfl rfl Try.nz135 rfl) rfl ?_
    refine w_val (v_indexAB Try.underlying135 Try.hi74 Try.cz74 rfl rfl (by first | omega | decide)) rfl ?_
    refine w_val (v_loadO Try.underlying74 rfl rfl (hhdr)) rfl ?_
    refine w_val (v_lenS Try.underlying74 rfl) rfl ?_
    refine w_val (v_sub rfl rfl (by omega)) rfl ?_
    refine w_val (v_assign rfl) rfl ?_
    refine w_nil ?_
    refine e_block ?_
    refine e_loopK (σ := Nat) [0, 1, 2] (.cons rfl (.cons rfl (.cons rfl .nil))) (fun j => [(8, .int .i64 ((j : Int) - 1))]) (fun j => j ≤ l.length ∧ befL l by_ = befL (l.take j) by_) (fun j => j) l.length ⟨Nat.le_refl _, by rw [List.take_length]⟩ (by repeat (first | exact Sub.nil _ | refine Sub.cons rfl ?_)) ?_
    rintro j ⟨hj, hbef⟩
    refine e_seq ?_
    refine e_seq ?_
    refine e_region ?_
    refine w_val (v_move rfl) rfl ?_
    refine w_val (v_geq rfl rfl) rfl ?_
    refine w_nil ?_
    refine e_condD rfl (fun hge => ?_) (fun hge => ?_)
    · obtain ⟨m, rfl⟩ : ∃ m, j = m + 1 := ⟨j - 1, by omega⟩
      have hm : m < l.length := by omega
      have hnext : l.take (m + 1) = l.take m ++ [l[m]] := List.take_succ_eq_append_getElem hm
      obtain ⟨ad, rfl, hcell⟩ := hrow m hm
      rw [hnext, befL_snoc] at hbef
      generalize l[m] = s at *
      unfold befStep at hbef
      refine e_skip ?_
      refine e_seq ?_
      refine e_block ?_
      refine e_seq ?_
      refine e_region ?_
      refine w_val (v_move rfl) rfl ?_
      refine w_val (v_move rfl) rfl ?_
      refine w_val (v_nilCheck rfl) rfl ?_
      refine w_val (v_fieldAddrB (o := 0) Try.underlying137 rfl rfl Try.nz135 rfl) rfl ?_
      refine w_val (v_indexAB Try.underlying135 Try.hi74 Try.cz74 rfl rfl (by first | omega | decide)) rfl ?_
      refine w_val (v_loadO Try.underlying74 rfl rfl (hhdr)) rfl ?_
      refine w_val (v_is (v' := .int .i64 (m : Int)) (v_move rfl) (by congr 1; omega)) rfl ?_
      refine w_val (v_indexS Try.underlying74 Try.hi77 Try.cz77 rfl rfl (by first | omega | decide)) rfl ?_
      refine w_val (v_loadON Try.underlying77 rfl Try.hi77 rfl (hcell) Try.cz77) rfl ?_
      refine w_op rfl ?_
      refine x_alloc (z := .agg #[.int .i64 0, .bool false, .bool false, .int .i64 0]) (by intro w; exact Try.zeroValue77 w) rfl (fun b9 => ?_)
      refine w_op rfl ?_
      refine x_storeA 0 rfl rfl rfl Try.hi77 Try.cz77 rfl (by first | (simp [Value.oneCell', opCells]; done) | assumption | exact one_ints _ | exact one_resCells _ _ | exact one_slotC _) ?_
      refine w_nil ?_
      by_cases hb : s.by_ < by_
      · cases hv : s.vd with
        | true =>
          rw [if_neg (by rw [hv]; simp)] at hbef
          refine e_block ?_
          refine e_seq ?_
          refine e_region ?_
          refine w_val (v_fieldAddrB (o := 0) Try.underlying77 rfl rfl Try.nz3 rfl) rfl ?_
          refine w_val (v_loadB 0 rfl Try.underlying3 rfl rfl rfl) rfl ?_
          refine w_val (v_move rfl) rfl ?_
          refine w_val (v_is (v' := .bool false) (v_geq rfl rfl) (by rw [decide_eq_false (by omega)])) rfl ?_
          refine w_val (v_move rfl) rfl ?_
          refine w_want rfl rfl ?_
          refine w_val (v_fieldAddrB (o := 2) Try.underlying77 rfl rfl Try.nz4 rfl) rfl ?_
          refine w_want rfl rfl ?_
          refine w_val (v_is (v' := .bool true) (v_loadB 0 rfl Try.underlying4 rfl rfl rfl) (by rw [hv])) rfl ?_
          refine w_val (v_pickF rfl rfl) rfl ?_
          refine w_val (v_assign rfl) rfl ?_
          refine w_nil ?_
          refine e_condT rfl ?_
          refine e_skip ?_
          refine e_blk ?_
          refine e_blk ?_
          refine e_region ?_
          refine w_val (v_move rfl) rfl ?_
          refine w_val (v_is (v' := .int .i64 ((m : Int) - 1)) (v_sub rfl rfl (by omega)) (by congr 1; omega)) rfl ?_
          refine w_val (v_assign rfl) rfl ?_
          refine w_nil ?_
          exact e_round (m) (⟨by omega, hbef⟩) (by omega) (by repeat (first | exact Sub.nil _ | refine Sub.cons rfl ?_)) (fun _ hw => hw.sub (List.sublist_cons_self _ _))
        | false =>
          rw [if_pos ⟨hb, hv⟩] at hbef
          cases ho : s.opn with
          | true =>
            rw [if_pos ho] at hbef
            refine e_block ?_
            refine e_seq ?_
            refine e_region ?_
            refine w_val (v_fieldAddrB (o := 0) Try.underlying77 rfl rfl Try.nz3 rfl) rfl ?_
            refine w_val (v_loadB 0 rfl Try.underlying3 rfl rfl rfl) rfl ?_
            refine w_val (v_move rfl) rfl ?_
            refine w_val (v_is (v' := .bool false) (v_geq rfl rfl) (by rw [decide_eq_false (by omega)])) rfl ?_
            refine w_val (v_move rfl) rfl ?_
            refine w_want rfl rfl ?_
            refine w_val (v_fieldAddrB (o := 2) Try.underlying77 rfl rfl Try.nz4 rfl) rfl ?_
            refine w_want rfl rfl ?_
            refine w_val (v_is (v' := .bool false) (v_loadB 0 rfl Try.underlying4 rfl rfl rfl) (by rw [hv])) rfl ?_
            refine w_val (v_pickF rfl rfl) rfl ?_
            refine w_val (v_assign rfl) rfl ?_
            refine w_nil ?_
            refine e_condF rfl ?_
            refine e_seq ?_
            refine e_region ?_
            refine w_val (v_fieldAddrB (o := 1) Try.underlying77 rfl rfl Try.nz4 rfl) rfl ?_
            refine w_val (v_is (v' := .bool true) (v_loadB 0 rfl Try.underlying4 rfl rfl rfl) (by rw [ho])) rfl ?_
            refine w_val (v_assign rfl) rfl ?_
            refine w_nil ?_
            refine e_condT rfl ?_
            refine e_seq ?_
            refine e_draw ([.blk b9 77 (slotC s)]) Try.mixed ?_
            refine a_take 0 pan_cx (by kernel_rfl) (fun _ hw => hw.sub (by repeat (first | exact List.Sublist.slnil | exact List.Sublist.refl _ | apply List.Sublist.cons_cons | apply List.Sublist.cons))) rfl (by kernel_rfl) (by kernel_rfl) (v_fieldAddrB (o := 0) Try.underlying77 rfl rfl Try.nz3 rfl) rfl ?_
            refine a_take 1 pan_cx (by kernel_rfl) (fun _ hw => hw.sub (by repeat (first | exact List.Sublist.slnil | exact List.Sublist.refl _ | apply List.Sublist.cons_cons | apply List.Sublist.cons))) rfl (by kernel_rfl) (by kernel_rfl) (v_loadB 0 rfl Try.underlying3 rfl rfl rfl) rfl ?_
            refine a_take 2 pan_cx (by kernel_rfl) (fun _ hw => hw.sub (by repeat (first | exact List.Sublist.slnil | exact List.Sublist.refl _ | apply List.Sublist.cons_cons | apply List.Sublist.cons))) rfl (by kernel_rfl) (by kernel_rfl) (v_assign rfl) rfl ?_
            refine a_take 3 pan_cx (by kernel_rfl) (fun _ hw => hw.sub (by repeat (first | exact List.Sublist.slnil | exact List.Sublist.refl _ | apply List.Sublist.cons_cons | apply List.Sublist.cons))) rfl (by kernel_rfl) (by kernel_rfl) (v_assign rfl) rfl ?_
            refine a_done (by kernel_rfl) ?_
            refine e_retQ (q_ret2 rfl (.tmp rfl) (.tmp rfl) ?_)
            exact fun w' hw' => ⟨by rw [hbef], hw'.res.nil⟩
          | false =>
            rw [if_neg (by simp [ho])] at hbef
            refine e_block ?_
            refine e_seq ?_
            refine e_region ?_
            refine w_val (v_fieldAddrB (o := 0) Try.underlying77 rfl rfl Try.nz3 rfl) rfl ?_
            refine w_val (v_loadB 0 rfl Try.underlying3 rfl rfl rfl) rfl ?_
            refine w_val (v_move rfl) rfl ?_
            refine w_val (v_is (v' := .bool false) (v_geq rfl rfl) (by rw [decide_eq_false (by omega)])) rfl ?_
            refine w_val (v_move rfl) rfl ?_
            refine w_want rfl rfl ?_
            refine w_val (v_fieldAddrB (o := 2) Try.underlying77 rfl rfl Try.nz4 rfl) rfl ?_
            refine w_want rfl rfl ?_
            refine w_val (v_is (v' := .bool false) (v_loadB 0 rfl Try.underlying4 rfl rfl rfl) (by rw [hv])) rfl ?_
            refine w_val (v_pickF rfl rfl) rfl ?_
            refine w_val (v_assign rfl) rfl ?_
            refine w_nil ?_
            refine e_condF rfl ?_
            refine e_seq ?_
            refine e_region ?_
            refine w_val (v_fieldAddrB (o := 1) Try.underlying77 rfl rfl Try.nz4 rfl) rfl ?_
            refine w_val (v_is (v' := .bool false) (v_loadB 0 rfl Try.underlying4 rfl rfl rfl) (by rw [ho])) rfl ?_
            refine w_val (v_assign rfl) rfl ?_
            refine w_nil ?_
            refine e_condF rfl ?_
            refine e_seq ?_
            refine e_region ?_
            refine w_val (v_fieldAddrB (o := 3) Try.underlying77 rfl rfl Try.nz2 rfl) rfl ?_
            refine w_val (v_loadB 0 rfl Try.underlying2 rfl rfl rfl) rfl ?_
            refine w_val (v_assign rfl) rfl ?_
            refine w_val (v_assign rfl) rfl ?_
            refine w_nil ?_
            refine e_retQ (q_ret2 rfl (.tmp rfl) (.tmp rfl) ?_)
            exact fun w' hw' => ⟨by rw [hbef], hw'.res.nil⟩
      · rw [if_neg (fun h => hb h.1)] at hbef
        refine e_block ?_
        refine e_seq ?_
        refine e_region ?_
        refine w_val (v_fieldAddrB (o := 0) Try.underlying77 rfl rfl Try.nz3 rfl) rfl ?_
        refine w_val (v_loadB 0 rfl Try.underlying3 rfl rfl rfl) rfl ?_
        refine w_val (v_move rfl) rfl ?_
        refine w_val (v_is (v' := .bool true) (v_geq rfl rfl) (by rw [decide_eq_true (by omega)])) rfl ?_
        refine w_val (v_move rfl) rfl ?_
        refine w_skip rfl rfl rfl rfl ?_
        refine w_skip rfl rfl rfl rfl ?_
        refine w_val (v_pickT rfl rfl) rfl ?_
        refine w_val (v_assign rfl) rfl ?_
        refine w_nil ?_
        refine e_condT rfl ?_
        refine e_skip ?_
        refine e_blk ?_
        refine e_blk ?_
        refine e_region ?_
        refine w_val (v_move rfl) rfl ?_
        refine w_val (v_is (v' := .int .i64 ((m : Int) - 1)) (v_sub rfl rfl (by omega)) (by congr 1; omega)) rfl ?_
        refine w_val (v_assign rfl) rfl ?_
        refine w_nil ?_
        exact e_round (m) (⟨by omega, hbef⟩) (by omega) (by repeat (first | exact Sub.nil _ | refine Sub.cons rfl ?_)) (fun _ hw => hw.sub (List.sublist_cons_self _ _))
    · have : j = 0 := by omega
      subst this
      rw [List.take_zero] at hbef
      refine e_exit rfl ?_
      refine e_seq ?_
      refine e_region ?_
      refine w_val (v_assign rfl) rfl ?_
      refine w_val (v_assign rfl) rfl ?_
      refine w_nil ?_
      refine e_retQ (q_ret2 rfl (.tmp rfl) (.tmp rfl) ?_)
      exact fun w' hw' => ⟨by rw [hbef]; rfl, hw'.res.nil⟩
  · have hbt : befT T k by_ = (0, -1) := by unfold befT; rw [if_neg hk]
    rw [hbt]
    refine e_seq ?_
    refine e_region ?_
    refine w_val (v_assign rfl) rfl ?_
    refine w_val (v_assign rfl) rfl ?_
    refine w_nil ?_
    refine e_seq ?_
    refine e_seq ?_
    refine e_region ?_
    refine w_val (v_move rfl) rfl ?_
    refine w_op rfl ?_
    refine x_call0 (v := .bool false) rfl rfl rfl Try.call75 rfl (fun w hw => by have := tabKey_spec (k : Int) w; rwa [decide_eq_false hk] at this) ?_
    refine w_val (v_is (v' := .bool true) (v_not rfl) (by rfl)) rfl ?_
    refine w_nil ?_
    refine e_condT rfl ?_
    refine e_seq ?_
    refine e_region ?_
    refine w_val (v_assign rfl) rfl ?_
    refine w_val (v_assign rfl) rfl ?_
    refine w_nil ?_
    refine e_retQ (q_ret2 rfl (.tmp rfl) (.tmp rfl) ?_)
    exact fun w' hw' => ⟨rfl, hw'.res.nil⟩
theorem brdBefore_spec (p : Nat) (hs : Nat → Value) (T : TabL) (k by_ : Int) (w : World) (h : TbV w.cell? p hs T) (hn : ∀ k, k < 10 → (T k).length ≤ 1000) :
    Calls Try.prog 79 #[.pointer (some ⟨p, 0, none⟩), .int .i64 k, .int .i64 by_] w fun e w' => e = .returned (.tuple #[.int .i64 (befT T k by_).1, .int .i64 (befT T k by_).2]) ∧ Res w [] [] w' := by
  rw [← off_none w] at h
  refine enter0 (N := 50) Try.func79 rfl rfl rfl ?_
  by_cases hk : 0 ≤ k ∧ k < 10
  · have hbt : befT T k by_ = befL (T k.toNat) by_ := by unfold befT; rw [if_pos hk]
    obtain ⟨k, rfl⟩ : ∃ n : Nat, k = n := ⟨k.toNat, by omega⟩
    have hk' : k < 10 := by omega
    have hl := hn k hk'
    obtain ⟨A, cap, _, hle, hhdr, hrow⟩ := h.at hk'
    rw [Int.toNat_natCast] at hbt
    rw [hbt]
    generalize T k = l at *
    refine e_seq ?_
    refine e_region ?_
    refine w_val (v_assign rfl) rfl ?_
    refine w_val (v_assign rfl) rfl ?_
    refine w_nil ?_
    refine e_seq ?_
    refine e_region ?_
    refine w_val (v_assign rfl) rfl ?_
    refine w_nil ?_
    refine e_seq ?_
    refine e_region ?_
    refine w_val (v_assign rfl) rfl ?_
    refine w_nil ?_
    refine e_seq ?_
    refine e_seq ?_
    refine e_region ?_
    refine w_val (v_move rfl) rfl ?_
    refine w_op rfl ?_
    refine x_call0 (v := .bool true) rfl rfl rfl Try.call36 rfl (fun w hw => by have := isKey_spec (k : Int) w; rwa [decide_eq_true hk] at this) ?_
    refine w_val (v_is (v' := .bool false) (v_not rfl) (by rfl)) rfl ?_
    refine w_nil ?_
    refine e_condF rfl ?_
    refine e_skip ?_
    refine e_seq ?_
    refine e_seq ?_
    refine e_region ?_
    refine w_val (v_assign rfl) rfl ?_
    refine w_nil ?_
    refine e_block ?_
    refine e_loopK (σ := Nat × Int × Int) [0, 1, 2] (.cons rfl (.cons rfl (.cons rfl .nil))) (fun x => [(8, .int .i64 x.2.1), (9, .int .i64 x.2.2), (10, .int .i64 (x.1 : Int))]) (fun x => x.1 ≤ l.length ∧ x.2 = befL (l.take x.1) by_) (fun x => l.length - x.1) (0, 0, -1) ⟨Nat.zero_le _, rfl⟩ (by repeat (first | exact Sub.nil _ | refine Sub.cons rfl ?_)) ?_
    rintro ⟨i, a, b⟩ ⟨hi, hbef⟩
    dsimp only at hi hbef ⊢
    refine e_seq ?_
    refine e_seq ?_
    refine e_region ?_
    refine w_val (v_move rfl) rfl ?_
    refine w_val (v_move rfl) rfl ?_
    refine w_val (v_move rfl) rfl ?_
    refine w_val (v_nilCheck rfl) rfl ?_
    refine w_val (v_indexAB Try.underlying142 Try.hi74 Try.cz74 rfl rfl (by first | omega | decide)) rfl ?_
    refine w_val (v_loadO Try.underlying74 rfl rfl (hhdr)) rfl ?_
    refine w_val (v_lenS Try.underlying74 rfl) rfl ?_
    refine w_val (v_lss rfl rfl) rfl ?_
    refine w_nil ?_
    refine e_condD rfl (fun hlt => ?_) (fun hlt => ?_)
    · have hm : i < l.length := by omega
      have hnext : l.take (i + 1) = l.take i ++ [l[i]] := List.take_succ_eq_append_getElem hm
      obtain ⟨ad, rfl, hcell⟩ := hrow i hm
      have hnb : befL (l.take (i + 1)) by_ = befStep by_ (a, b) l[i] := by rw [hnext, befL_snoc, hbef]
      generalize l[i] = s at *
      unfold befStep at hnb
      refine e_skip ?_
      refine e_seq ?_
      refine e_block ?_
      refine e_seq ?_
      refine e_region ?_
      refine w_val (v_move rfl) rfl ?_
      refine w_val (v_move rfl) rfl ?_
      refine w_val (v_nilCheck rfl) rfl ?_
      refine w_val (v_indexAB Try.underlying142 Try.hi74 Try.cz74 rfl rfl (by first | omega | decide)) rfl ?_
      refine w_val (v_loadO Try.underlying74 rfl rfl (hhdr)) rfl ?_
      refine w_val (v_move rfl) rfl ?_
      refine w_val (v_indexS Try.underlying74 Try.hi77 Try.cz77 rfl rfl (by first | omega | decide)) rfl ?_
      refine w_val (v_loadON Try.underlying77 rfl Try.hi77 rfl (hcell) Try.cz77) rfl ?_
      refine w_op rfl ?_
      refine x_alloc (z := .agg #[.int .i64 0, .bool false, .bool false, .int .i64 0]) (by intro w; exact Try.zeroValue77 w) rfl (fun b11 => ?_)
      refine w_op rfl ?_
      refine x_storeA 0 rfl rfl rfl Try.hi77 Try.cz77 rfl (by first | (simp [Value.oneCell', opCells]; done) | assumption | exact one_ints _ | exact one_resCells _ _ | exact one_slotC _) ?_
      refine w_nil ?_
      refine e_seq ?_
      by_cases hb : s.by_ < by_
      · cases hv : s.vd with
        | true =>
          rw [if_neg (by rw [hv]; simp)] at hnb
          refine e_region ?_
          refine w_val (v_fieldAddrB (o := 0) Try.underlying77 rfl rfl Try.nz3 rfl) rfl ?_
          refine w_val (v_loadB 0 rfl Try.underlying3 rfl rfl rfl) rfl ?_
          refine w_val (v_move rfl) rfl ?_
          refine w_val (v_is (v' := .bool true) (v_lss rfl rfl) (by rw [decide_eq_true hb])) rfl ?_
          refine w_val (v_move rfl) rfl ?_
          refine w_want rfl rfl ?_
          refine w_val (v_fieldAddrB (o := 2) Try.underlying77 rfl rfl Try.nz4 rfl) rfl ?_
          refine w_want rfl rfl ?_
          refine w_val (v_is (v' := .bool true) (v_loadB 0 rfl Try.underlying4 rfl rfl rfl) (by rw [hv])) rfl ?_
          refine w_want rfl rfl ?_
          refine w_val (v_not rfl) rfl ?_
          refine w_val (v_pickT rfl rfl) rfl ?_
          refine w_nil ?_
          refine e_condF rfl ?_
          refine e_skip ?_
          refine e_blk ?_
          refine e_region ?_
          refine w_val (v_move rfl) rfl ?_
          refine w_val (v_add rfl rfl (by omega)) rfl ?_
          refine w_val (v_assign rfl) rfl ?_
          refine w_nil ?_
          exact e_round ((i + 1, a, b)) (⟨by dsimp only; omega, hnb.symm⟩) (by dsimp only; omega) (by repeat (first | exact Sub.nil _ | refine Sub.cons rfl ?_)) (fun _ hw => hw.sub (List.sublist_cons_self _ _))
        | false =>
          rw [if_pos ⟨hb, hv⟩] at hnb
          cases ho : s.opn with
          | true =>
            rw [if_pos ho] at hnb
            refine e_region ?_
            refine w_val (v_fieldAddrB (o := 0) Try.underlying77 rfl rfl Try.nz3 rfl) rfl ?_
            refine w_val (v_loadB 0 rfl Try.underlying3 rfl rfl rfl) rfl ?_
            refine w_val (v_move rfl) rfl ?_
            refine w_val (v_is (v' := .bool true) (v_lss rfl rfl) (by rw [decide_eq_true hb])) rfl ?_
            refine w_val (v_move rfl) rfl ?_
            refine w_want rfl rfl ?_
            refine w_val (v_fieldAddrB (o := 2) Try.underlying77 rfl rfl Try.nz4 rfl) rfl ?_
            refine w_want rfl rfl ?_
            refine w_val (v_is (v' := .bool false) (v_loadB 0 rfl Try.underlying4 rfl rfl rfl) (by rw [hv])) rfl ?_
            refine w_want rfl rfl ?_
            refine w_val (v_not rfl) rfl ?_
            refine w_val (v_pickT rfl rfl) rfl ?_
            refine w_nil ?_
            refine e_condT rfl ?_
            refine e_seq ?_
            refine e_region ?_
            refine w_val (v_fieldAddrB (o := 3) Try.underlying77 rfl rfl Try.nz2 rfl) rfl ?_
            refine w_val (v_loadB 0 rfl Try.underlying2 rfl rfl rfl) rfl ?_
            refine w_val (v_assign rfl) rfl ?_
            refine w_val (v_assign rfl) rfl ?_
            refine w_nil ?_
            refine e_seq ?_
            refine e_region ?_
            refine w_val (v_fieldAddrB (o := 1) Try.underlying77 rfl rfl Try.nz4 rfl) rfl ?_
            refine w_val (v_is (v' := .bool true) (v_loadB 0 rfl Try.underlying4 rfl rfl rfl) (by rw [ho])) rfl ?_
            refine w_nil ?_
            refine e_condT rfl ?_
            refine e_draw ([.blk b11 77 (slotC s)]) Try.mixed ?_
            refine a_take 0 pan_cx (by kernel_rfl) (fun _ hw => hw.sub (by repeat (first | exact List.Sublist.slnil | exact List.Sublist.refl _ | apply List.Sublist.cons_cons | apply List.Sublist.cons))) rfl (by kernel_rfl) (by kernel_rfl) (v_fieldAddrB (o := 0) Try.underlying77 rfl rfl Try.nz3 rfl) rfl ?_
            refine a_take 1 pan_cx (by kernel_rfl) (fun _ hw => hw.sub (by repeat (first | exact List.Sublist.slnil | exact List.Sublist.refl _ | apply List.Sublist.cons_cons | apply List.Sublist.cons))) rfl (by kernel_rfl) (by kernel_rfl) (v_loadB 0 rfl Try.underlying3 rfl rfl rfl) rfl ?_
            refine a_take 2 pan_cx (by kernel_rfl) (fun _ hw => hw.sub (by repeat (first | exact List.Sublist.slnil | exact List.Sublist.refl _ | apply List.Sublist.cons_cons | apply List.Sublist.cons))) rfl (by kernel_rfl) (by kernel_rfl) (v_assign rfl) rfl ?_
            refine a_take 3 pan_cx (by kernel_rfl) (fun _ hw => hw.sub (by repeat (first | exact List.Sublist.slnil | exact List.Sublist.refl _ | apply List.Sublist.cons_cons | apply List.Sublist.cons))) rfl (by kernel_rfl) (by kernel_rfl) (v_assign rfl) rfl ?_
            refine a_done (by kernel_rfl) ?_
            refine e_blk ?_
            refine e_region ?_
            refine w_val (v_move rfl) rfl ?_
            refine w_val (v_add rfl rfl (by omega)) rfl ?_
            refine w_val (v_assign rfl) rfl ?_
            refine w_nil ?_
            exact e_round ((i + 1, 0, s.by_)) (⟨by dsimp only; omega, hnb.symm⟩) (by dsimp only; omega) (by repeat (first | exact Sub.nil _ | refine Sub.cons rfl ?_)) (fun _ hw => hw.sub (List.sublist_cons_self _ _))
          | false =>
            rw [if_neg (by simp [ho])] at hnb
            refine e_region ?_
            refine w_val (v_fieldAddrB (o := 0) Try.underlying77 rfl rfl Try.nz3 rfl) rfl ?_
            refine w_val (v_loadB 0 rfl Try.underlying3 rfl rfl rfl) rfl ?_
            refine w_val (v_move rfl) rfl ?_
            refine w_val (v_is (v' := .bool true) (v_lss rfl rfl) (by rw [decide_eq_true hb])) rfl ?_
            refine w_val (v_move rfl) rfl ?_
            refine w_want rfl rfl ?_
            refine w_val (v_fieldAddrB (o := 2) Try.underlying77 rfl rfl Try.nz4 rfl) rfl ?_
            refine w_want rfl rfl ?_
            refine w_val (v_is (v' := .bool false) (v_loadB 0 rfl Try.underlying4 rfl rfl rfl) (by rw [hv])) rfl ?_
            refine w_want rfl rfl ?_
            refine w_val (v_not rfl) rfl ?_
            refine w_val (v_pickT rfl rfl) rfl ?_
            refine w_nil ?_
            refine e_condT rfl ?_
            refine e_seq ?_
            refine e_region ?_
            refine w_val (v_fieldAddrB (o := 3) Try.underlying77 rfl rfl Try.nz2 rfl) rfl ?_
            refine w_val (v_loadB 0 rfl Try.underlying2 rfl rfl rfl) rfl ?_
            refine w_val (v_assign rfl) rfl ?_
            refine w_val (v_assign rfl) rfl ?_
            refine w_nil ?_
            refine e_seq ?_
            refine e_region ?_
            refine w_val (v_fieldAddrB (o := 1) Try.underlying77 rfl rfl Try.nz4 rfl) rfl ?_
            refine w_val (v_is (v' := .bool false) (v_loadB 0 rfl Try.underlying4 rfl rfl rfl) (by rw [ho])) rfl ?_
            refine w_nil ?_
            refine e_condF rfl ?_
            refine e_skip ?_
            refine e_blk ?_
            refine e_region ?_
            refine w_val (v_move rfl) rfl ?_
            refine w_val (v_add rfl rfl (by omega)) rfl ?_
            refine w_val (v_assign rfl) rfl ?_
            refine w_nil ?_
            exact e_round ((i + 1, s.n, -1)) (⟨by dsimp only; omega, hnb.symm⟩) (by dsimp only; omega) (by repeat (first | exact Sub.nil _ | refine Sub.cons rfl ?_)) (fun _ hw => hw.sub (List.sublist_cons_self _ _))
      · rw [if_neg (fun h => hb h.1)] at hnb
        refine e_region ?_
        refine w_val (v_fieldAddrB (o := 0) Try.underlying77 rfl rfl Try.nz3 rfl) rfl ?_
        refine w_val (v_loadB 0 rfl Try.underlying3 rfl rfl rfl) rfl ?_
        refine w_val (v_move rfl) rfl ?_
        refine w_val (v_is (v' := .bool false) (v_lss rfl rfl) (by rw [decide_eq_false hb])) rfl ?_
        refine w_val (v_move rfl) rfl ?_
        refine w_skip rfl rfl rfl rfl ?_
        refine w_skip rfl rfl rfl rfl ?_
        refine w_skip rfl rfl rfl rfl ?_
        refine w_val (v_pickF rfl rfl) rfl ?_
        refine w_nil ?_
        refine e_condF rfl ?_
        refine e_skip ?_
        refine e_blk ?_
        refine e_region ?_
        refine w_val (v_move rfl) rfl ?_
        refine w_val (v_add rfl rfl (by omega)) rfl ?_
        refine w_val (v_assign rfl) rfl ?_
        refine w_nil ?_
        exact e_round ((i + 1, a, b)) (⟨by dsimp only; omega, hnb.symm⟩) (by dsimp only; omega) (by repeat (first | exact Sub.nil _ | refine Sub.cons rfl ?_)) (fun _ hw => hw.sub (List.sublist_cons_self _ _))
    · have : i = l.length := by omega
      subst this
      rw [List.take_length] at hbef
      refine e_exit rfl ?_
      refine e_seq ?_
      refine e_region ?_
      refine w_val (v_move rfl) rfl ?_
      refine w_val (v_move rfl) rfl ?_
      refine w_val (v_assign rfl) rfl ?_
      refine w_val (v_assign rfl) rfl ?_
      refine w_nil ?_
      refine e_retQ (q_ret2 rfl (.tmp rfl) (.tmp rfl) ?_)
      exact fun w' hw' => ⟨by rw [← hbef], hw'.res.nil⟩
  · have hbt : befT T k by_ = (0, -1) := by unfold befT; rw [if_neg hk]
    rw [hbt]
    refine e_seq ?_
    refine e_region ?_
    refine w_val (v_assign rfl) rfl ?_
    refine w_val (v_assign rfl) rfl ?_
    refine w_nil ?_
    refine e_seq ?_
    refine e_region ?_
    refine w_val (v_assign rfl) rfl ?_
    refine w_nil ?_
    refine e_seq ?_
    refine e_region ?_
    refine w_val (v_assign rfl) rfl ?_
    refine w_nil ?_
    refine e_seq ?_
    refine e_seq ?_
    refine e_region ?_
    refine w_val (v_move rfl) rfl ?_
    refine w_op rfl ?_
    refine x_call0 (v := .bool false) rfl rfl rfl Try.call36 rfl (fun w hw => by have := isKey_spec (k : Int) w; rwa [decide_eq_false hk] at this) ?_
    refine w_val (v_is (v' := .bool true) (v_not rfl) (by rfl)) rfl ?_
    refine w_nil ?_
    refine e_condT rfl ?_
    refine e_seq ?_
    refine e_region ?_
    refine w_val (v_assign rfl) rfl ?_
    refine w_val (v_assign rfl) rfl ?_
    refine w_nil ?_
    refine e_retQ (q_ret2 rfl (.tmp rfl) (.tmp rfl) ?_)
    exact fun w' hw' => ⟨rfl, hw'.res.nil⟩
end Go.SL
end
section

open Go Go.Proofs Go.SL
set_option maxRecDepth 100000
namespace Go.SL
def slotP (hs : Nat → Value) (T : TabL) (k by_ : Int) : Option Addr := if hasT T k by_ = true then (match hs k.toNat with | .slice A _ _ => A.map (fun a => a.add ((T k.toNat).findIdx (isO by_) * 4)) | _ => none) else none
theorem tabSlot_spec (p : Nat) (hs : Nat → Value) (T : TabL) (k by_ : Int) (w : World) (h : TbV w.cell? p hs T) (hn : ∀ k, k < 10 → (T k).length ≤ 1000) :
    Calls Try.prog 113 #[.pointer (some ⟨p, 0, none⟩), .int .i64 k, .int .i64 by_] w fun e w' => e = .returned (.pointer (slotP hs T k by_)) ∧ Res w [] [] w' := by
  rw [← off_none w] at h
  refine enter0 (N := 29) Try.func113 rfl rfl rfl ?_
  by_cases hk : 0 ≤ k ∧ k < 10
  · have hht : hasT T k by_ = (T k.toNat).any (isO by_) := by unfold hasT; rw [decide_eq_true hk, Bool.true_and]
    obtain ⟨k, rfl⟩ : ∃ n : Nat, k = n := ⟨k.toNat, by omega⟩
    have hk' : k < 10 := by omega
    have hl := hn k hk'
    obtain ⟨A, cap, hhk, hle, hhdr, hrow⟩ := h.at hk'
    have hrw := h.row k hk'
    rw [hhk] at hrw
    unfold slotP
    rw [hht]
    rw [Int.toNat_natCast]
    rw [hhk]
    generalize T k = l at *
    refine e_seq ?_
    refine e_region ?_
    refine w_op rfl ?_
    refine x_box rfl rfl (fun b5 => ?_)
    refine w_val (v_assign rfl) rfl ?_
    refine w_nil ?_
    refine e_seq ?_
    refine e_seq ?_
    refine e_region ?_
    refine w_val (v_move rfl) rfl ?_
    refine w_op rfl ?_
    refine x_call0 (v := .bool true) rfl rfl rfl Try.call75 rfl (fun w hw => by have := tabKey_spec (k : Int) w; rwa [decide_eq_true hk] at this) ?_
    refine w_val (v_is (v' := .bool false) (v_not rfl) (by rfl)) rfl ?_
    refine w_nil ?_
    refine e_condF rfl ?_
    refine e_skip ?_
    refine e_seq ?_
    refine e_region ?_
    refine w_val (v_move rfl) rfl ?_
    refine w_val (v_move rfl) rfl ?_
    refine w_val (v_nilCheck rfl) rfl ?_
    refine w_val (v_fieldAddrB (o := 0) Try.underlying137 rfl rfl Try.nz135 rfl) rfl ?_
    refine w_val (v_indexAB Try.underlying135 Try.hi74 Try.cz74 rfl rfl (by first | omega | decide)) rfl ?_
    refine w_val (v_loadO Try.underlying74 rfl rfl (hhdr)) rfl ?_
    refine w_val (v_makeFunc rfl) rfl ?_
    have hcl := fun (w : World) (hb : (Chunk.blk b5 3 [.int .i64 by_]).holds w) (hv : IsSlots w.cell? (.slice A l.length cap) l) => slIndexFunc_spec (.slice A l.length cap) l 124 [.pointer (some ⟨b5, 0, none⟩)] (isO by_) w hv hl Try.call124 (fun s _ w' hl => slot1_spec s b5 by_ w' (hl _ _ (by rw [off_none, blk_cell hb]; rfl)))
    refine w_op rfl ?_
    cases ha : l.any (isO by_) with
    | true =>
      have hne : 0 < l.length := by
        cases l with
        | nil => simp at ha
        | cons x t => simp
      obtain ⟨ad, rfl, _⟩ := hrow 0 hne
      rw [ha] at hcl
      simp only [if_true] at hcl
      have hfi : l.findIdx (isO by_) < l.length := List.findIdx_lt_length.2 (List.any_eq_true.1 ha)
      refine x_call0 (v := .int .i64 ((l.findIdx (isO by_) : Nat) : Int)) rfl rfl rfl Try.call100 rfl (fun w hw => hcl w (hw.mem (i := 0) rfl) (hrw.mono hw.off)) ?_
      refine w_val (v_assign rfl) rfl ?_
      refine w_nil ?_
      refine e_seq ?_
      refine e_seq ?_
      refine e_region ?_
      refine w_val (v_move rfl) rfl ?_
      refine w_val (v_is (v' := .bool false) (v_lss rfl rfl) (by rw [decide_eq_false (by omega)])) rfl ?_
      refine w_nil ?_
      refine e_condF rfl ?_
      refine e_skip ?_
      refine e_seq ?_
      refine e_region ?_
      refine w_val (v_move rfl) rfl ?_
      refine w_val (v_move rfl) rfl ?_
      refine w_val (v_nilCheck rfl) rfl ?_
      refine w_val (v_fieldAddrB (o := 0) Try.underlying137 rfl rfl Try.nz135 rfl) rfl ?_
      refine w_val (v_indexAB Try.underlying135 Try.hi74 Try.cz74 rfl rfl (by first | omega | decide)) rfl ?_
      refine w_val (v_loadO Try.underlying74 rfl rfl (hhdr)) rfl ?_
      refine w_val (v_move rfl) rfl ?_
      refine w_val (v_indexS Try.underlying74 Try.hi77 Try.cz77 rfl rfl (by first | omega | decide)) rfl ?_
      refine w_val (v_assign rfl) rfl ?_
      refine w_nil ?_
      refine e_retQ (q_ret1 rfl (.tmp rfl) ?_)
      exact fun w' hw' => ⟨rfl, hw'.res.nil⟩
    | false =>
      rw [ha] at hcl
      refine x_call0 (v := .int .i64 (-1)) rfl rfl rfl Try.call100 rfl (fun w hw => hcl w (hw.mem (i := 0) rfl) (hrw.mono hw.off)) ?_
      refine w_val (v_assign rfl) rfl ?_
      refine w_nil ?_
      refine e_seq ?_
      refine e_seq ?_
      refine e_region ?_
      refine w_val (v_move rfl) rfl ?_
      refine w_val (v_is (v' := .bool true) (v_lss rfl rfl) (by rfl)) rfl ?_
      refine w_nil ?_
      refine e_condT rfl ?_
      refine e_seq ?_
      refine e_region ?_
      refine w_val (v_assign rfl) rfl ?_
      refine w_nil ?_
      refine e_retQ (q_ret1 rfl (.tmp rfl) ?_)
      exact fun w' hw' => ⟨rfl, hw'.res.nil⟩
  · have hht : hasT T k by_ = false := by unfold hasT; rw [decide_eq_false hk, Bool.false_and]
    unfold slotP
    rw [hht]
    refine e_seq ?_
    refine e_region ?_
    refine w_op rfl ?_
    refine x_box rfl rfl (fun b5 => ?_)
    refine w_val (v_assign rfl) rfl ?_
    refine w_nil ?_
    refine e_seq ?_
    refine e_seq ?_
    refine e_region ?_
    refine w_val (v_move rfl) rfl ?_
    refine w_op rfl ?_
    refine x_call0 (v := .bool false) rfl rfl rfl Try.call75 rfl (fun w hw => by have := tabKey_spec (k : Int) w; rwa [decide_eq_false hk] at this) ?_
    refine w_val (v_is (v' := .bool true) (v_not rfl) (by rfl)) rfl ?_
    refine w_nil ?_
    refine e_condT rfl ?_
    refine e_seq ?_
    refine e_region ?_
    refine w_val (v_assign rfl) rfl ?_
    refine w_nil ?_
    refine e_retQ (q_ret1 rfl (.tmp rfl) ?_)
    exact fun w' hw' => ⟨rfl, hw'.res.nil⟩
theorem tabOver_spec (p : Nat) (hs : Nat → Value) (T : TabL) (w : World) (h : TbV w.cell? p hs T) (hn : ∀ k, k < 10 → (T k).length ≤ 1000) :
    Calls Try.prog 22 #[.pointer (some ⟨p, 0, none⟩)] w fun e w' => e = .returned (.bool (overT T)) ∧ Res w [] [] w' := by
  rw [← off_none w] at h
  refine enter0 (N := 15) Try.func22 rfl rfl rfl ?_
  refine e_seq ?_
  refine e_region ?_
  refine w_val (v_assign rfl) rfl ?_
  refine w_nil ?_
  refine e_seq ?_
  refine e_seq ?_
  refine e_region ?_
  refine w_val (v_move rfl) rfl ?_
  refine w_nil ?_
  refine e_block ?_
  refine e_loopK (σ := Nat) [0] (.cons rfl .nil) (fun k => [(4, .int .i64 (k : Int))]) (fun k => k ≤ 10 ∧ ∀ j, j < k → (T j).any (fun s => s.opn) = false) (fun k => 10 - k) 0 ⟨by omega, fun j hj => by omega⟩ (by repeat (first | exact Sub.nil _ | refine Sub.cons rfl ?_)) ?_
  rintro k ⟨hk, hno⟩
  refine e_seq ?_
  refine e_region ?_
  refine w_val (v_lss rfl rfl) rfl ?_
  refine w_nil ?_
  refine e_seq ?_
  refine e_condD rfl (fun hlt => ?_) (fun hlt => ?_)
  · have hk' : k < 10 := by omega
    have hl := hn k hk'
    obtain ⟨A, cap, hhk, hle, hhdr, hrow⟩ := h.at hk'
    have hrw := h.row k hk'
    rw [hhk] at hrw
    refine e_skip ?_
    refine e_seq ?_
    refine e_block ?_
    refine e_seq ?_
    refine e_region ?_
    refine w_val (v_move rfl) rfl ?_
    refine w_val (v_assign rfl) rfl ?_
    refine w_nil ?_
    refine e_seq ?_
    refine e_region ?_
    refine w_val (v_move rfl) rfl ?_
    refine w_val (v_move rfl) rfl ?_
    refine w_val (v_nilCheck rfl) rfl ?_
    refine w_val (v_fieldAddrB (o := 0) Try.underlying137 rfl rfl Try.nz135 rfl) rfl ?_
    refine w_val (v_indexAB Try.underlying135 Try.hi74 Try.cz74 rfl rfl (by first | omega | decide)) rfl ?_
    refine w_val (v_loadO Try.underlying74 rfl rfl (hhdr)) rfl ?_
    have hcl := fun (w : World) (hv : IsSlots w.cell? (.slice A (T k).length cap) (T k)) => slContainsFunc_spec (.slice A (T k).length cap) (T k) 71 [] (fun s => s.opn) w hv hl Try.call71 (fun s _ w' hl => over1_spec s w')
    refine w_op rfl ?_
    cases ha : (T k).any (fun s => s.opn) with
    | true =>
      rw [ha] at hcl
      have hov : overT T = false := by
        unfold overT
        rw [List.all_eq_false]
        refine ⟨k, by simp; omega, ?_⟩
        obtain ⟨x, hx, ho⟩ := List.any_eq_true.1 ha
        simp only [Bool.not_eq_true, List.all_eq_false]
        exact ⟨x, hx, by simp [ho]⟩
      refine x_call0 (v := .bool true) rfl rfl rfl Try.call70 rfl (fun w hw => hcl w (hrw.mono hw.off)) ?_
      refine w_nil ?_
      refine e_condT rfl ?_
      refine e_seq ?_
      refine e_region ?_
      refine w_val (v_assign rfl) rfl ?_
      refine w_nil ?_
      refine e_retQ (q_ret1 rfl (.tmp rfl) ?_)
      exact fun w' hw' => ⟨by rw [hov], hw'.res.nil⟩
    | false =>
      rw [ha] at hcl
      refine x_call0 (v := .bool false) rfl rfl rfl Try.call70 rfl (fun w hw => hcl w (hrw.mono hw.off)) ?_
      refine w_nil ?_
      refine e_condF rfl ?_
      refine e_skip ?_
      refine e_blk ?_
      refine e_region ?_
      refine w_val (v_add rfl rfl (by omega)) rfl ?_
      refine w_val (v_move rfl) rfl ?_
      refine w_nil ?_
      exact e_round (k + 1) (⟨by omega, fun j hj => by by_cases e : j = k; rw [e]; exact ha; exact hno j (by omega)⟩) (by omega) (by repeat (first | exact Sub.nil _ | refine Sub.cons rfl ?_)) (fun _ hw => hw)
  · have hov : overT T = true := by
      unfold overT
      rw [List.all_eq_true]
      intro k hk
      have := hno k (by simp at hk; omega)
      rw [List.all_eq_true]
      intro x hx
      rw [List.any_eq_false] at this
      simpa using this x hx
    refine e_exit rfl ?_
    refine e_seq ?_
    refine e_region ?_
    refine w_val (v_assign rfl) rfl ?_
    refine w_nil ?_
    refine e_retQ (q_ret1 rfl (.tmp rfl) ?_)
    exact fun w' hw' => ⟨by rw [hov], hw'.res.nil⟩
theorem brdOver_spec (p : Nat) (hs : Nat → Value) (T : TabL) (w : World) (h : TbV w.cell? p hs T) (hn : ∀ k, k < 10 → (T k).length ≤ 1000) :
    Calls Try.prog 45 #[.pointer (some ⟨p, 0, none⟩)] w fun e w' => e = .returned (.bool (overT T)) ∧ Res w [] [] w' := by
  rw [← off_none w] at h
  refine enter0 (N := 28) Try.func45 rfl rfl rfl ?_
  refine e_seq ?_
  refine e_region ?_
  refine w_val (v_assign rfl) rfl ?_
  refine w_nil ?_
  refine e_seq ?_
  refine e_seq ?_
  refine e_region ?_
  refine w_val (v_assign rfl) rfl ?_
  refine w_nil ?_
  refine e_block ?_
  refine e_loopK (σ := Nat) [0] (.cons rfl .nil) (fun k => [(3, .int .i64 (k : Int))]) (fun k => k ≤ 10 ∧ ∀ j, j < k → ∀ s ∈ T j, s.opn = false) (fun k => 10 - k) 0 ⟨by omega, fun j hj => by omega⟩ (by repeat (first | exact Sub.nil _ | refine Sub.cons rfl ?_)) ?_
  rintro k ⟨hk, hno⟩
  refine e_seq ?_
  refine e_seq ?_
  refine e_region ?_
  refine w_val (v_move rfl) rfl ?_
  refine w_val (v_lss rfl rfl) rfl ?_
  refine w_nil ?_
  refine e_condD rfl (fun hlt => ?_) (fun hlt => ?_)
  · have hk' : k < 10 := by omega
    have hl := hn k hk'
    obtain ⟨A, cap, hhk, hle, hhdr, hrow⟩ := h.at hk'
    refine e_skip ?_
    refine e_seq ?_
    refine e_block ?_
    refine e_seq ?_
    refine e_region ?_
    refine w_val (v_assign rfl) rfl ?_
    refine w_nil ?_
    refine e_block ?_
    refine e_loopK (σ := Nat) [0, 3] (.cons rfl (.cons rfl .nil)) (fun i => [(4, .int .i64 (i : Int))]) (fun i => i ≤ (T k).length ∧ ∀ s ∈ (T k).take i, s.opn = false) (fun i => (T k).length - i) 0 ⟨by omega, by simp⟩ (by repeat (first | exact Sub.nil _ | refine Sub.cons rfl ?_)) ?_
    rintro i ⟨hi, hno2⟩
    refine e_seq ?_
    refine e_seq ?_
    refine e_region ?_
    refine w_val (v_move rfl) rfl ?_
    refine w_val (v_move rfl) rfl ?_
    refine w_val (v_move rfl) rfl ?_
    refine w_val (v_nilCheck rfl) rfl ?_
    refine w_val (v_indexAB Try.underlying142 Try.hi74 Try.cz74 rfl rfl (by first | omega | decide)) rfl ?_
    refine w_val (v_loadO Try.underlying74 rfl rfl (hhdr)) rfl ?_
    refine w_val (v_lenS Try.underlying74 rfl) rfl ?_
    refine w_val (v_lss rfl rfl) rfl ?_
    refine w_nil ?_
    refine e_condD rfl (fun hlt2 => ?_) (fun hlt2 => ?_)
    · have hi' : i < (T k).length := by omega
      have hnext : (T k).take (i + 1) = (T k).take i ++ [(T k)[i]] := List.take_succ_eq_append_getElem hi'
      obtain ⟨ad, rfl, hcell⟩ := hrow i hi'
      have hmem : (T k)[i] ∈ T k := List.getElem_mem hi'
      generalize (T k)[i] = s at *
      refine e_skip ?_
      refine e_seq ?_
      refine e_block ?_
      refine e_seq ?_
      refine e_region ?_
      refine w_val (v_move rfl) rfl ?_
      refine w_val (v_move rfl) rfl ?_
      refine w_val (v_nilCheck rfl) rfl ?_
      refine w_val (v_indexAB Try.underlying142 Try.hi74 Try.cz74 rfl rfl (by first | omega | decide)) rfl ?_
      refine w_val (v_loadO Try.underlying74 rfl rfl (hhdr)) rfl ?_
      refine w_val (v_move rfl) rfl ?_
      refine w_val (v_indexS Try.underlying74 Try.hi77 Try.cz77 rfl rfl (by first | omega | decide)) rfl ?_
      refine w_val (v_fieldAddr (o := 1) Try.underlying77 rfl rfl Try.nz4 rfl) rfl ?_
      cases ho : s.opn with
      | true =>
        have hov : overT T = false := by
          unfold overT
          rw [List.all_eq_false]
          refine ⟨k, by simp; omega, ?_⟩
          simp only [Bool.not_eq_true, List.all_eq_false]
          exact ⟨s, hmem, by simp [ho]⟩
        refine w_val (v_is (v' := .bool true) (v_loadO Try.underlying4 rfl rfl (hcell 1 _ rfl)) (by rw [ho])) rfl ?_
        refine w_nil ?_
        refine e_condT rfl ?_
        refine e_seq ?_
        refine e_region ?_
        refine w_val (v_assign rfl) rfl ?_
        refine w_nil ?_
        refine e_retQ (q_ret1 rfl (.tmp rfl) ?_)
        exact fun w' hw' => ⟨by rw [hov], hw'.res.nil⟩
      | false =>
        refine w_val (v_is (v' := .bool false) (v_loadO Try.underlying4 rfl rfl (hcell 1 _ rfl)) (by rw [ho])) rfl ?_
        refine w_nil ?_
        refine e_condF rfl ?_
        refine e_skip ?_
        refine e_blk ?_
        refine e_region ?_
        refine w_val (v_move rfl) rfl ?_
        refine w_val (v_add rfl rfl (by omega)) rfl ?_
        refine w_val (v_assign rfl) rfl ?_
        refine w_nil ?_
        exact e_round (i + 1) (⟨by omega, by rw [hnext]; intro x hx; rcases List.mem_append.1 hx with hx | hx; exact hno2 x hx; rw [List.mem_singleton.1 hx]; exact ho⟩) (by omega) (by repeat (first | exact Sub.nil _ | refine Sub.cons rfl ?_)) (fun _ hw => hw)
    · have e : i = (T k).length := by omega
      rw [e, List.take_length] at hno2
      refine e_exit rfl ?_
      refine e_blk ?_
      refine e_region ?_
      refine w_val (v_move rfl) rfl ?_
      refine w_val (v_add rfl rfl (by omega)) rfl ?_
      refine w_val (v_assign rfl) rfl ?_
      refine w_nil ?_
      exact e_round (k + 1) (⟨by omega, fun j hj => by by_cases e : j = k; rw [e]; exact hno2; exact hno j (by omega)⟩) (by omega) (by repeat (first | exact Sub.nil _ | refine Sub.cons rfl ?_)) (fun _ hw => hw)
  · have hov : overT T = true := by
      unfold overT
      rw [List.all_eq_true]
      intro k hk
      have := hno k (by simp at hk; omega)
      rw [List.all_eq_true]
      intro x hx
      simp [this x hx]
    refine e_exit rfl ?_
    refine e_seq ?_
    refine e_region ?_
    refine w_val (v_assign rfl) rfl ?_
    refine w_nil ?_
    refine e_retQ (q_ret1 rfl (.tmp rfl) ?_)
    exact fun w' hw' => ⟨by rw [hov], hw'.res.nil⟩
end Go.SL
end
