/- Ytebdkaadbakhlab: part BC of this seat's own texts. -/
import Derived.Test.YtebdkaadbakhlabWH
import Derived.Test.YtebdkaadbakhlabWI
import Derived.Test.YtebdkaadbakhlabS8
import Derived.Test.YtebdkaadbakhlabU2
import Derived.Test.YtebdkaadbakhlabWL
set_option linter.unusedVariables false
set_option linter.unusedSimpArgs false

open Go Go.Proofs Go.SL
set_option maxRecDepth 100000
set_option maxHeartbeats 4000000
namespace Go.SL
def stsC (s : List Int) (r : RoundL) (n : Nat) : List Value := (List.range n).flatMap fun j => intCells (stAt s r (j + 1))
theorem stsC_succ (s : List Int) (r : RoundL) (n : Nat) : stsC s r (n + 1) = stsC s r n ++ intCells (stAt s r (n + 1)) := by simp [stsC, List.range_succ]
theorem stsC_len {s : List Int} {r : RoundL} (hs : s.length = 10) : ∀ n, (stsC s r n).length = n * 10
  | 0 => rfl
  | n + 1 => by rw [stsC_succ, List.length_append, stsC_len hs n, intCells, List.length_map, stAt_len hs]; omega
theorem stsC_at {s : List Int} {r : RoundL} (hs : s.length = 10) {i k : Nat} (hk : k < 10) : ∀ n, i < n → (stsC s r n)[i * 10 + k]? = some (.int .i64 ((stAt s r (i + 1)).getD k 0))
  | 0, h => by omega
  | n + 1, h => by
    have hl := stAt_len (r := r) hs (i + 1)
    rw [stsC_succ]
    by_cases hi : i < n
    · rw [List.getElem?_append_left (by rw [stsC_len hs]; omega)]
      exact stsC_at hs hk n hi
    · have : i = n := by omega
      subst this
      rw [at_app (j := k) (by rw [stsC_len hs])]
      simp [intCells, List.getD, show k < (stAt s r (i + 1)).length by omega]
def resTo (s : List Int) (r : RoundL) (n : Nat) : ResL := (List.range n).map (rsAt s r)
theorem resTo_succ (s : List Int) (r : RoundL) (n : Nat) : resTo s r (n + 1) = resTo s r n ++ [rsAt s r n] := by simp [resTo, List.range_succ]
theorem resTo_len (s : List Int) (r : RoundL) (n : Nat) : (resTo s r n).length = n := by simp [resTo]
theorem resTo_regs {s : List Int} (hs : s.length = 10) (r : RoundL) (n : Nat) : ∀ x ∈ resTo s r n, x.2.length = 4 := fun x hx => by
  obtain ⟨i, _, rfl⟩ := List.mem_map.1 hx
  exact (do_len (stAt_len hs i)).2
def mixT (s : List Int) (r : RoundL) (F : Nat → Bool) (i k : Nat) : TabL := fun j => if j < k then filT s r (upd F i true) j else filT s r F j
theorem mixT_zero {s : List Int} {r : RoundL} {F : Nat → Bool} {i : Nat} : mixT s r F i 0 = filT s r F := by funext j; unfold mixT; rw [if_neg (by omega)]
theorem mixT_all {s : List Int} {r : RoundL} {F : Nat → Bool} {i j : Nat} (h : j < 10) : mixT s r F i 10 j = filT s r (upd F i true) j := by unfold mixT; rw [if_pos h]
theorem mixT_step {s : List Int} {r : RoundL} {F : Nat → Bool} {i k : Nat} (hk : k < 10) : chgT (mixT s r F i k) k i (fillX s r i k) = mixT s r F i (k + 1) := by
  rw [chgT_nat hk]
  have e : mixT s r F i k k = filT s r F k := by unfold mixT; rw [if_neg (by omega)]
  rw [e, filT_step]
  funext j
  unfold upd
  by_cases hj : j = k
  · subst hj; rw [if_pos rfl]; unfold mixT; rw [if_pos (by omega)]; rfl
  · rw [if_neg hj]
    unfold mixT
    by_cases h2 : j < k
    · rw [if_pos h2, if_pos (by omega)]
    · rw [if_neg h2, if_neg (by omega)]
theorem mixT_ok {s : List Int} {r : RoundL} {F : Nat → Bool} {i k : Nat} : OkT (mixT s r F i k) := fun j => by
  unfold mixT
  split
  · exact filT_ok s r _ j
  · exact filT_ok s r F j
theorem mixT_len {s : List Int} {r : RoundL} {F : Nat → Bool} {i k : Nat} (h : r.length ≤ 900) (j : Nat) : (mixT s r F i k j).length ≤ 1000 := by
  unfold mixT
  split
  · exact filT_len h j
  · exact filT_len h j
theorem OkT.good' {T : TabL} (h : OkT T) : GoodT T := fun k _ s hs ho => (h k).opn s hs ho |>.2
theorem fill_spec (b10 b7 b9 p : Nat) (rv sv : Value) (hs : Nat → Value) (s : List Int) (r : RoundL) (F : Nat → Bool) (i : Nat) (w : World) (h : ∀ c ∈ tbH p 130 hs (filT s r F), c.holds w) (hsep : (tbH p 130 hs (filT s r F)).Pairwise Disj)
    (h10 : off w (feet (tbH p 130 hs (filT s r F))) ⟨b10, 0, none⟩ = some rv) (h7 : off w (feet (tbH p 130 hs (filT s r F))) ⟨b7, 0, none⟩ = some (ptrV p)) (h9 : off w (feet (tbH p 130 hs (filT s r F))) ⟨b9, 0, none⟩ = some sv)
    (hr : Rds (off w (feet (tbH p 130 hs (filT s r F)))) rv 5 r.length (resL (resTo s r r.length))) (hst : Rds (off w (feet (tbH p 130 hs (filT s r F)))) sv 10 r.length (stsC s r r.length)) (hi : i < r.length) (hs10 : s.length = 10) (h8 : r.length ≤ 8) :
    Calls Try.prog 61 #[.int .i64 (i : Int), .pointer (some ⟨b10, 0, none⟩), .pointer (some ⟨b7, 0, none⟩), .pointer (some ⟨b9, 0, none⟩)] w fun e w' => ∃ _ : Unit, True ∧ e = .returned (.tuple #[]) ∧ Res w (tbH p 130 hs (filT s r F)) (tbH p 130 hs (filT s r (upd F i true))) w' := by
  obtain ⟨Ar, kr, rfl, hler, hlr, hcr⟩ := hr
  obtain ⟨As, ks, rfl, hles, hls, hcs⟩ := hst
  obtain ⟨adr, rfl, hcr2⟩ := hcr (by omega)
  obtain ⟨ads, rfl, hcs2⟩ := hcs (by omega)
  have hcode : off w (feet (tbH p 130 hs (filT s r F))) ((adr.add (((i : Nat) : Int).toNat * 5)).add 0) = some (.int .i64 (rsAt s r i).1) := by
    rw [Int.toNat_natCast]
    exact resL_cells (resTo_regs hs10 r r.length) hcr2 (k := i) (by rw [resTo_len]; exact hi) 0 (.int .i64 (rsAt s r i).1) (by simp [resTo, resCells])
  have hval : ∀ k : Nat, k < 10 → off w (feet (tbH p 130 hs (filT s r F))) ((ads.add (((i : Nat) : Int).toNat * 10)).add (((k : Nat) : Int).toNat * 1)) = some (.int .i64 ((stAt s r (i + 1)).getD k 0)) := fun k hk => by
    rw [add_add, Int.toNat_natCast, Int.toNat_natCast, Nat.mul_one]
    exact hcs2 _ _ (stsC_at hs10 hk _ hi)
  refine enter (mc := tbH p 130 hs (filT s r F)) (N := 30) Try.func61 rfl rfl rfl ?_ ?_ ?_
  · exact h
  · exact hsep
  refine e_seq ?_
  refine e_region ?_
  refine w_val (v_assign rfl) rfl ?_
  refine w_nil ?_
  refine e_block ?_
  refine e_loopH (σ := Nat) [0, 1, 2, 3] (.cons rfl (.cons rfl (.cons rfl (.cons rfl .nil)))) (fun k => [(5, .int .i64 (k : Int))]) (fun k => tbH p 130 hs (mixT s r F i k)) (fun k => k ≤ 10) (fun k => 10 - k) 0 (Nat.zero_le _) (by repeat (first | exact Sub.nil _ | refine Sub.cons rfl ?_)) (fun _ hw => by rw [mixT_zero]; exact hw) ?_
  rintro k hk
  refine e_seq ?_
  refine e_seq ?_
  refine e_region ?_
  refine w_val (v_move rfl) rfl ?_
  refine w_val (v_lss rfl rfl) rfl ?_
  refine w_nil ?_
  refine e_condD rfl (fun hlt => ?_) (fun hlt => ?_)
  · have hk' : k < 10 := by omega
    have hstep := mixT_step (s := s) (r := r) (F := F) (i := i) hk'
    have hgT := (mixT_ok (s := s) (r := r) (F := F) (i := i) (k := k)).good'
    have hnT : ∀ j, j < 10 → (mixT s r F i k j).length ≤ 1000 := fun j _ => mixT_len (by omega) j
    have hvk := hval k hk'
    generalize mixT s r F i k = T1 at *
    refine e_skip ?_
    refine e_seq ?_
    refine e_block ?_
    refine e_seq ?_
    refine e_region ?_
    first | refine w_val (v_loadO Try.underlying89 rfl rfl (h10)) rfl ?_ | refine w_val (v_loadO Try.underlying89 rfl rfl (hcode)) rfl ?_ | refine w_val (v_loadO Try.underlying89 rfl rfl (h7)) rfl ?_ | refine w_val (v_loadO Try.underlying89 rfl rfl (h9)) rfl ?_ | refine w_val (v_loadO Try.underlying89 rfl rfl (hvk)) rfl ?_ | refine w_val (v_loadB 0 rfl Try.underlying89 rfl rfl rfl) rfl ?_ | refine w_val (v_loadB 1 rfl Try.underlying89 rfl rfl rfl) rfl ?_ | refine w_val (v_loadB 2 rfl Try.underlying89 rfl rfl rfl) rfl ?_ | refine w_val (v_loadB 3 rfl Try.underlying89 rfl rfl rfl) rfl ?_ | refine w_val (v_loadB 4 rfl Try.underlying89 rfl rfl rfl) rfl ?_ | refine w_val (v_loadB 5 rfl Try.underlying89 rfl rfl rfl) rfl ?_ | refine w_val (v_loadB 6 rfl Try.underlying89 rfl rfl rfl) rfl ?_ | refine w_val (v_loadB 7 rfl Try.underlying89 rfl rfl rfl) rfl ?_ | refine w_val (v_loadB 8 rfl Try.underlying89 rfl rfl rfl) rfl ?_ | refine w_val (v_loadB 9 rfl Try.underlying89 rfl rfl rfl) rfl ?_ | refine w_val (v_loadB 10 rfl Try.underlying89 rfl rfl rfl) rfl ?_ | refine w_val (v_loadB 11 rfl Try.underlying89 rfl rfl rfl) rfl ?_
    refine w_val (v_move rfl) rfl ?_
    first | refine w_val (v_indexSB Try.underlying89 Try.hi93 Try.cz93 rfl rfl (by first | omega | decide)) rfl ?_ | refine w_val (v_indexS Try.underlying89 Try.hi93 Try.cz93 rfl rfl (by first | omega | decide)) rfl ?_
    first | refine w_val (v_fieldAddrB (o := 0) Try.underlying93 rfl rfl Try.nz3 rfl) rfl ?_ | refine w_val (v_fieldAddr (o := 0) Try.underlying93 rfl rfl Try.nz3 rfl) rfl ?_
    first | refine w_val (v_loadO Try.underlying3 rfl rfl (h10)) rfl ?_ | refine w_val (v_loadO Try.underlying3 rfl rfl (hcode)) rfl ?_ | refine w_val (v_loadO Try.underlying3 rfl rfl (h7)) rfl ?_ | refine w_val (v_loadO Try.underlying3 rfl rfl (h9)) rfl ?_ | refine w_val (v_loadO Try.underlying3 rfl rfl (hvk)) rfl ?_ | refine w_val (v_loadB 0 rfl Try.underlying3 rfl rfl rfl) rfl ?_ | refine w_val (v_loadB 1 rfl Try.underlying3 rfl rfl rfl) rfl ?_ | refine w_val (v_loadB 2 rfl Try.underlying3 rfl rfl rfl) rfl ?_ | refine w_val (v_loadB 3 rfl Try.underlying3 rfl rfl rfl) rfl ?_ | refine w_val (v_loadB 4 rfl Try.underlying3 rfl rfl rfl) rfl ?_ | refine w_val (v_loadB 5 rfl Try.underlying3 rfl rfl rfl) rfl ?_ | refine w_val (v_loadB 6 rfl Try.underlying3 rfl rfl rfl) rfl ?_ | refine w_val (v_loadB 7 rfl Try.underlying3 rfl rfl rfl) rfl ?_ | refine w_val (v_loadB 8 rfl Try.underlying3 rfl rfl rfl) rfl ?_ | refine w_val (v_loadB 9 rfl Try.underlying3 rfl rfl rfl) rfl ?_ | refine w_val (v_loadB 10 rfl Try.underlying3 rfl rfl rfl) rfl ?_ | refine w_val (v_loadB 11 rfl Try.underlying3 rfl rfl rfl) rfl ?_
    refine w_val (v_neq rfl rfl) rfl ?_
    refine w_nil ?_
    unfold fillX at hstep
    refine e_condD rfl (fun hc => ?_) (fun hc => ?_)
    · rw [if_pos hc] at hstep
      refine e_region ?_
      first | refine w_val (v_loadO Try.underlying72 rfl rfl (h10)) rfl ?_ | refine w_val (v_loadO Try.underlying72 rfl rfl (hcode)) rfl ?_ | refine w_val (v_loadO Try.underlying72 rfl rfl (h7)) rfl ?_ | refine w_val (v_loadO Try.underlying72 rfl rfl (h9)) rfl ?_ | refine w_val (v_loadO Try.underlying72 rfl rfl (hvk)) rfl ?_ | refine w_val (v_loadB 0 rfl Try.underlying72 rfl rfl rfl) rfl ?_ | refine w_val (v_loadB 1 rfl Try.underlying72 rfl rfl rfl) rfl ?_ | refine w_val (v_loadB 2 rfl Try.underlying72 rfl rfl rfl) rfl ?_ | refine w_val (v_loadB 3 rfl Try.underlying72 rfl rfl rfl) rfl ?_ | refine w_val (v_loadB 4 rfl Try.underlying72 rfl rfl rfl) rfl ?_ | refine w_val (v_loadB 5 rfl Try.underlying72 rfl rfl rfl) rfl ?_ | refine w_val (v_loadB 6 rfl Try.underlying72 rfl rfl rfl) rfl ?_ | refine w_val (v_loadB 7 rfl Try.underlying72 rfl rfl rfl) rfl ?_ | refine w_val (v_loadB 8 rfl Try.underlying72 rfl rfl rfl) rfl ?_ | refine w_val (v_loadB 9 rfl Try.underlying72 rfl rfl rfl) rfl ?_ | refine w_val (v_loadB 10 rfl Try.underlying72 rfl rfl rfl) rfl ?_ | refine w_val (v_loadB 11 rfl Try.underlying72 rfl rfl rfl) rfl ?_
      refine w_val (v_move rfl) rfl ?_
      refine w_val (v_move rfl) rfl ?_
      refine w_op rfl ?_
      refine x_callM (dst := some 19) (tbH p 130 hs T1) [] (σ := Unit) (fun _ => True) (fun _ => .bool (hasT T1 k i)) (fun _ => tbH p 130 hs (chgT T1 k i ⟨i, false, true, 0⟩)) (List.Perm.refl _) rfl rfl rfl Try.call56 (fun w hw => tabVoid_spec p hs T1 k i w (res_part hw).1 (res_part hw).2 hnT hgT) rfl (fun _ _ => ?_); rw [hstep]
      refine w_nil ?_
      refine e_blk ?_
      refine e_region ?_
      refine w_val (v_move rfl) rfl ?_
      first | refine w_val (v_add rfl rfl (by omega)) rfl ?_ | refine w_val (v_addw rfl rfl) rfl ?_
      refine w_val (v_assign rfl) rfl ?_
      refine w_nil ?_
      exact e_round (k + 1) (by omega) (by omega) (by repeat (first | exact Sub.nil _ | refine Sub.cons rfl ?_)) (fun _ hw => hw)
    · rw [if_neg hc] at hstep
      refine e_draw ([]) Try.mixed ?_
      first | refine a_take 0 pan_cx (by kernel_rfl) (fun _ hw => hw.sub (by repeat (first | exact List.Sublist.slnil | exact List.Sublist.refl _ | apply List.Sublist.cons_cons | apply List.Sublist.cons))) rfl (by kernel_rfl) (by kernel_rfl) (v_loadO Try.underlying72 rfl rfl (h10)) rfl ?_ | refine a_take 0 pan_cx (by kernel_rfl) (fun _ hw => hw.sub (by repeat (first | exact List.Sublist.slnil | exact List.Sublist.refl _ | apply List.Sublist.cons_cons | apply List.Sublist.cons))) rfl (by kernel_rfl) (by kernel_rfl) (v_loadO Try.underlying72 rfl rfl (hcode)) rfl ?_ | refine a_take 0 pan_cx (by kernel_rfl) (fun _ hw => hw.sub (by repeat (first | exact List.Sublist.slnil | exact List.Sublist.refl _ | apply List.Sublist.cons_cons | apply List.Sublist.cons))) rfl (by kernel_rfl) (by kernel_rfl) (v_loadO Try.underlying72 rfl rfl (h7)) rfl ?_ | refine a_take 0 pan_cx (by kernel_rfl) (fun _ hw => hw.sub (by repeat (first | exact List.Sublist.slnil | exact List.Sublist.refl _ | apply List.Sublist.cons_cons | apply List.Sublist.cons))) rfl (by kernel_rfl) (by kernel_rfl) (v_loadO Try.underlying72 rfl rfl (h9)) rfl ?_ | refine a_take 0 pan_cx (by kernel_rfl) (fun _ hw => hw.sub (by repeat (first | exact List.Sublist.slnil | exact List.Sublist.refl _ | apply List.Sublist.cons_cons | apply List.Sublist.cons))) rfl (by kernel_rfl) (by kernel_rfl) (v_loadO Try.underlying72 rfl rfl (hvk)) rfl ?_ | refine a_take 0 pan_cx (by kernel_rfl) (fun _ hw => hw.sub (by repeat (first | exact List.Sublist.slnil | exact List.Sublist.refl _ | apply List.Sublist.cons_cons | apply List.Sublist.cons))) rfl (by kernel_rfl) (by kernel_rfl) (v_loadB 0 rfl Try.underlying72 rfl rfl rfl) rfl ?_ | refine a_take 0 pan_cx (by kernel_rfl) (fun _ hw => hw.sub (by repeat (first | exact List.Sublist.slnil | exact List.Sublist.refl _ | apply List.Sublist.cons_cons | apply List.Sublist.cons))) rfl (by kernel_rfl) (by kernel_rfl) (v_loadB 1 rfl Try.underlying72 rfl rfl rfl) rfl ?_ | refine a_take 0 pan_cx (by kernel_rfl) (fun _ hw => hw.sub (by repeat (first | exact List.Sublist.slnil | exact List.Sublist.refl _ | apply List.Sublist.cons_cons | apply List.Sublist.cons))) rfl (by kernel_rfl) (by kernel_rfl) (v_loadB 2 rfl Try.underlying72 rfl rfl rfl) rfl ?_ | refine a_take 0 pan_cx (by kernel_rfl) (fun _ hw => hw.sub (by repeat (first | exact List.Sublist.slnil | exact List.Sublist.refl _ | apply List.Sublist.cons_cons | apply List.Sublist.cons))) rfl (by kernel_rfl) (by kernel_rfl) (v_loadB 3 rfl Try.underlying72 rfl rfl rfl) rfl ?_ | refine a_take 0 pan_cx (by kernel_rfl) (fun _ hw => hw.sub (by repeat (first | exact List.Sublist.slnil | exact List.Sublist.refl _ | apply List.Sublist.cons_cons | apply List.Sublist.cons))) rfl (by kernel_rfl) (by kernel_rfl) (v_loadB 4 rfl Try.underlying72 rfl rfl rfl) rfl ?_ | refine a_take 0 pan_cx (by kernel_rfl) (fun _ hw => hw.sub (by repeat (first | exact List.Sublist.slnil | exact List.Sublist.refl _ | apply List.Sublist.cons_cons | apply List.Sublist.cons))) rfl (by kernel_rfl) (by kernel_rfl) (v_loadB 5 rfl Try.underlying72 rfl rfl rfl) rfl ?_ | refine a_take 0 pan_cx (by kernel_rfl) (fun _ hw => hw.sub (by repeat (first | exact List.Sublist.slnil | exact List.Sublist.refl _ | apply List.Sublist.cons_cons | apply List.Sublist.cons))) rfl (by kernel_rfl) (by kernel_rfl) (v_loadB 6 rfl Try.underlying72 rfl rfl rfl) rfl ?_ | refine a_take 0 pan_cx (by kernel_rfl) (fun _ hw => hw.sub (by repeat (first | exact List.Sublist.slnil | exact List.Sublist.refl _ | apply List.Sublist.cons_cons | apply List.Sublist.cons))) rfl (by kernel_rfl) (by kernel_rfl) (v_loadB 7 rfl Try.underlying72 rfl rfl rfl) rfl ?_ | refine a_take 0 pan_cx (by kernel_rfl) (fun _ hw => hw.sub (by repeat (first | exact List.Sublist.slnil | exact List.Sublist.refl _ | apply List.Sublist.cons_cons | apply List.Sublist.cons))) rfl (by kernel_rfl) (by kernel_rfl) (v_loadB 8 rfl Try.underlying72 rfl rfl rfl) rfl ?_ | refine a_take 0 pan_cx (by kernel_rfl) (fun _ hw => hw.sub (by repeat (first | exact List.Sublist.slnil | exact List.Sublist.refl _ | apply List.Sublist.cons_cons | apply List.Sublist.cons))) rfl (by kernel_rfl) (by kernel_rfl) (v_loadB 9 rfl Try.underlying72 rfl rfl rfl) rfl ?_ | refine a_take 0 pan_cx (by kernel_rfl) (fun _ hw => hw.sub (by repeat (first | exact List.Sublist.slnil | exact List.Sublist.refl _ | apply List.Sublist.cons_cons | apply List.Sublist.cons))) rfl (by kernel_rfl) (by kernel_rfl) (v_loadB 10 rfl Try.underlying72 rfl rfl rfl) rfl ?_ | refine a_take 0 pan_cx (by kernel_rfl) (fun _ hw => hw.sub (by repeat (first | exact List.Sublist.slnil | exact List.Sublist.refl _ | apply List.Sublist.cons_cons | apply List.Sublist.cons))) rfl (by kernel_rfl) (by kernel_rfl) (v_loadB 11 rfl Try.underlying72 rfl rfl rfl) rfl ?_
      refine a_take 1 pan_cx (by kernel_rfl) (fun _ hw => hw.sub (by repeat (first | exact List.Sublist.slnil | exact List.Sublist.refl _ | apply List.Sublist.cons_cons | apply List.Sublist.cons))) rfl (by kernel_rfl) (by kernel_rfl) (v_move rfl) rfl ?_
      refine a_take 2 pan_cx (by kernel_rfl) (fun _ hw => hw.sub (by repeat (first | exact List.Sublist.slnil | exact List.Sublist.refl _ | apply List.Sublist.cons_cons | apply List.Sublist.cons))) rfl (by kernel_rfl) (by kernel_rfl) (v_move rfl) rfl ?_
      first | refine a_take 3 pan_cx (by kernel_rfl) (fun _ hw => hw.sub (by repeat (first | exact List.Sublist.slnil | exact List.Sublist.refl _ | apply List.Sublist.cons_cons | apply List.Sublist.cons))) rfl (by kernel_rfl) (by kernel_rfl) (v_loadO Try.underlying88 rfl rfl (h10)) rfl ?_ | refine a_take 3 pan_cx (by kernel_rfl) (fun _ hw => hw.sub (by repeat (first | exact List.Sublist.slnil | exact List.Sublist.refl _ | apply List.Sublist.cons_cons | apply List.Sublist.cons))) rfl (by kernel_rfl) (by kernel_rfl) (v_loadO Try.underlying88 rfl rfl (hcode)) rfl ?_ | refine a_take 3 pan_cx (by kernel_rfl) (fun _ hw => hw.sub (by repeat (first | exact List.Sublist.slnil | exact List.Sublist.refl _ | apply List.Sublist.cons_cons | apply List.Sublist.cons))) rfl (by kernel_rfl) (by kernel_rfl) (v_loadO Try.underlying88 rfl rfl (h7)) rfl ?_ | refine a_take 3 pan_cx (by kernel_rfl) (fun _ hw => hw.sub (by repeat (first | exact List.Sublist.slnil | exact List.Sublist.refl _ | apply List.Sublist.cons_cons | apply List.Sublist.cons))) rfl (by kernel_rfl) (by kernel_rfl) (v_loadO Try.underlying88 rfl rfl (h9)) rfl ?_ | refine a_take 3 pan_cx (by kernel_rfl) (fun _ hw => hw.sub (by repeat (first | exact List.Sublist.slnil | exact List.Sublist.refl _ | apply List.Sublist.cons_cons | apply List.Sublist.cons))) rfl (by kernel_rfl) (by kernel_rfl) (v_loadO Try.underlying88 rfl rfl (hvk)) rfl ?_ | refine a_take 3 pan_cx (by kernel_rfl) (fun _ hw => hw.sub (by repeat (first | exact List.Sublist.slnil | exact List.Sublist.refl _ | apply List.Sublist.cons_cons | apply List.Sublist.cons))) rfl (by kernel_rfl) (by kernel_rfl) (v_loadB 0 rfl Try.underlying88 rfl rfl rfl) rfl ?_ | refine a_take 3 pan_cx (by kernel_rfl) (fun _ hw => hw.sub (by repeat (first | exact List.Sublist.slnil | exact List.Sublist.refl _ | apply List.Sublist.cons_cons | apply List.Sublist.cons))) rfl (by kernel_rfl) (by kernel_rfl) (v_loadB 1 rfl Try.underlying88 rfl rfl rfl) rfl ?_ | refine a_take 3 pan_cx (by kernel_rfl) (fun _ hw => hw.sub (by repeat (first | exact List.Sublist.slnil | exact List.Sublist.refl _ | apply List.Sublist.cons_cons | apply List.Sublist.cons))) rfl (by kernel_rfl) (by kernel_rfl) (v_loadB 2 rfl Try.underlying88 rfl rfl rfl) rfl ?_ | refine a_take 3 pan_cx (by kernel_rfl) (fun _ hw => hw.sub (by repeat (first | exact List.Sublist.slnil | exact List.Sublist.refl _ | apply List.Sublist.cons_cons | apply List.Sublist.cons))) rfl (by kernel_rfl) (by kernel_rfl) (v_loadB 3 rfl Try.underlying88 rfl rfl rfl) rfl ?_ | refine a_take 3 pan_cx (by kernel_rfl) (fun _ hw => hw.sub (by repeat (first | exact List.Sublist.slnil | exact List.Sublist.refl _ | apply List.Sublist.cons_cons | apply List.Sublist.cons))) rfl (by kernel_rfl) (by kernel_rfl) (v_loadB 4 rfl Try.underlying88 rfl rfl rfl) rfl ?_ | refine a_take 3 pan_cx (by kernel_rfl) (fun _ hw => hw.sub (by repeat (first | exact List.Sublist.slnil | exact List.Sublist.refl _ | apply List.Sublist.cons_cons | apply List.Sublist.cons))) rfl (by kernel_rfl) (by kernel_rfl) (v_loadB 5 rfl Try.underlying88 rfl rfl rfl) rfl ?_ | refine a_take 3 pan_cx (by kernel_rfl) (fun _ hw => hw.sub (by repeat (first | exact List.Sublist.slnil | exact List.Sublist.refl _ | apply List.Sublist.cons_cons | apply List.Sublist.cons))) rfl (by kernel_rfl) (by kernel_rfl) (v_loadB 6 rfl Try.underlying88 rfl rfl rfl) rfl ?_ | refine a_take 3 pan_cx (by kernel_rfl) (fun _ hw => hw.sub (by repeat (first | exact List.Sublist.slnil | exact List.Sublist.refl _ | apply List.Sublist.cons_cons | apply List.Sublist.cons))) rfl (by kernel_rfl) (by kernel_rfl) (v_loadB 7 rfl Try.underlying88 rfl rfl rfl) rfl ?_ | refine a_take 3 pan_cx (by kernel_rfl) (fun _ hw => hw.sub (by repeat (first | exact List.Sublist.slnil | exact List.Sublist.refl _ | apply List.Sublist.cons_cons | apply List.Sublist.cons))) rfl (by kernel_rfl) (by kernel_rfl) (v_loadB 8 rfl Try.underlying88 rfl rfl rfl) rfl ?_ | refine a_take 3 pan_cx (by kernel_rfl) (fun _ hw => hw.sub (by repeat (first | exact List.Sublist.slnil | exact List.Sublist.refl _ | apply List.Sublist.cons_cons | apply List.Sublist.cons))) rfl (by kernel_rfl) (by kernel_rfl) (v_loadB 9 rfl Try.underlying88 rfl rfl rfl) rfl ?_ | refine a_take 3 pan_cx (by kernel_rfl) (fun _ hw => hw.sub (by repeat (first | exact List.Sublist.slnil | exact List.Sublist.refl _ | apply List.Sublist.cons_cons | apply List.Sublist.cons))) rfl (by kernel_rfl) (by kernel_rfl) (v_loadB 10 rfl Try.underlying88 rfl rfl rfl) rfl ?_ | refine a_take 3 pan_cx (by kernel_rfl) (fun _ hw => hw.sub (by repeat (first | exact List.Sublist.slnil | exact List.Sublist.refl _ | apply List.Sublist.cons_cons | apply List.Sublist.cons))) rfl (by kernel_rfl) (by kernel_rfl) (v_loadB 11 rfl Try.underlying88 rfl rfl rfl) rfl ?_
      refine a_take 4 pan_cx (by kernel_rfl) (fun _ hw => hw.sub (by repeat (first | exact List.Sublist.slnil | exact List.Sublist.refl _ | apply List.Sublist.cons_cons | apply List.Sublist.cons))) rfl (by kernel_rfl) (by kernel_rfl) (v_move rfl) rfl ?_
      refine a_take 5 pan_cx (by kernel_rfl) (fun _ hw => hw.sub (by repeat (first | exact List.Sublist.slnil | exact List.Sublist.refl _ | apply List.Sublist.cons_cons | apply List.Sublist.cons))) rfl (by kernel_rfl) (by kernel_rfl) (v_move rfl) rfl ?_
      first | refine a_take 6 pan_cx (by kernel_rfl) (fun _ hw => hw.sub (by repeat (first | exact List.Sublist.slnil | exact List.Sublist.refl _ | apply List.Sublist.cons_cons | apply List.Sublist.cons))) rfl (by kernel_rfl) (by kernel_rfl) (v_indexSB Try.underlying88 Try.hi70 Try.cz70 rfl rfl (by first | omega | decide)) rfl ?_ | refine a_take 6 pan_cx (by kernel_rfl) (fun _ hw => hw.sub (by repeat (first | exact List.Sublist.slnil | exact List.Sublist.refl _ | apply List.Sublist.cons_cons | apply List.Sublist.cons))) rfl (by kernel_rfl) (by kernel_rfl) (v_indexS Try.underlying88 Try.hi70 Try.cz70 rfl rfl (by first | omega | decide)) rfl ?_
      first | refine a_take 7 pan_cx (by kernel_rfl) (fun _ hw => hw.sub (by repeat (first | exact List.Sublist.slnil | exact List.Sublist.refl _ | apply List.Sublist.cons_cons | apply List.Sublist.cons))) rfl (by kernel_rfl) (by kernel_rfl) (v_indexAB Try.underlying70 Try.hi2 Try.cz2 rfl rfl (by first | omega | decide)) rfl ?_ | refine a_take 7 pan_cx (by kernel_rfl) (fun _ hw => hw.sub (by repeat (first | exact List.Sublist.slnil | exact List.Sublist.refl _ | apply List.Sublist.cons_cons | apply List.Sublist.cons))) rfl (by kernel_rfl) (by kernel_rfl) (v_indexA Try.underlying70 Try.hi2 Try.cz2 rfl rfl (by first | omega | decide)) rfl ?_
      first | refine a_take 8 pan_cx (by kernel_rfl) (fun _ hw => hw.sub (by repeat (first | exact List.Sublist.slnil | exact List.Sublist.refl _ | apply List.Sublist.cons_cons | apply List.Sublist.cons))) rfl (by kernel_rfl) (by kernel_rfl) (v_loadO Try.underlying2 rfl rfl (h10)) rfl ?_ | refine a_take 8 pan_cx (by kernel_rfl) (fun _ hw => hw.sub (by repeat (first | exact List.Sublist.slnil | exact List.Sublist.refl _ | apply List.Sublist.cons_cons | apply List.Sublist.cons))) rfl (by kernel_rfl) (by kernel_rfl) (v_loadO Try.underlying2 rfl rfl (hcode)) rfl ?_ | refine a_take 8 pan_cx (by kernel_rfl) (fun _ hw => hw.sub (by repeat (first | exact List.Sublist.slnil | exact List.Sublist.refl _ | apply List.Sublist.cons_cons | apply List.Sublist.cons))) rfl (by kernel_rfl) (by kernel_rfl) (v_loadO Try.underlying2 rfl rfl (h7)) rfl ?_ | refine a_take 8 pan_cx (by kernel_rfl) (fun _ hw => hw.sub (by repeat (first | exact List.Sublist.slnil | exact List.Sublist.refl _ | apply List.Sublist.cons_cons | apply List.Sublist.cons))) rfl (by kernel_rfl) (by kernel_rfl) (v_loadO Try.underlying2 rfl rfl (h9)) rfl ?_ | refine a_take 8 pan_cx (by kernel_rfl) (fun _ hw => hw.sub (by repeat (first | exact List.Sublist.slnil | exact List.Sublist.refl _ | apply List.Sublist.cons_cons | apply List.Sublist.cons))) rfl (by kernel_rfl) (by kernel_rfl) (v_loadO Try.underlying2 rfl rfl (hvk)) rfl ?_ | refine a_take 8 pan_cx (by kernel_rfl) (fun _ hw => hw.sub (by repeat (first | exact List.Sublist.slnil | exact List.Sublist.refl _ | apply List.Sublist.cons_cons | apply List.Sublist.cons))) rfl (by kernel_rfl) (by kernel_rfl) (v_loadB 0 rfl Try.underlying2 rfl rfl rfl) rfl ?_ | refine a_take 8 pan_cx (by kernel_rfl) (fun _ hw => hw.sub (by repeat (first | exact List.Sublist.slnil | exact List.Sublist.refl _ | apply List.Sublist.cons_cons | apply List.Sublist.cons))) rfl (by kernel_rfl) (by kernel_rfl) (v_loadB 1 rfl Try.underlying2 rfl rfl rfl) rfl ?_ | refine a_take 8 pan_cx (by kernel_rfl) (fun _ hw => hw.sub (by repeat (first | exact List.Sublist.slnil | exact List.Sublist.refl _ | apply List.Sublist.cons_cons | apply List.Sublist.cons))) rfl (by kernel_rfl) (by kernel_rfl) (v_loadB 2 rfl Try.underlying2 rfl rfl rfl) rfl ?_ | refine a_take 8 pan_cx (by kernel_rfl) (fun _ hw => hw.sub (by repeat (first | exact List.Sublist.slnil | exact List.Sublist.refl _ | apply List.Sublist.cons_cons | apply List.Sublist.cons))) rfl (by kernel_rfl) (by kernel_rfl) (v_loadB 3 rfl Try.underlying2 rfl rfl rfl) rfl ?_ | refine a_take 8 pan_cx (by kernel_rfl) (fun _ hw => hw.sub (by repeat (first | exact List.Sublist.slnil | exact List.Sublist.refl _ | apply List.Sublist.cons_cons | apply List.Sublist.cons))) rfl (by kernel_rfl) (by kernel_rfl) (v_loadB 4 rfl Try.underlying2 rfl rfl rfl) rfl ?_ | refine a_take 8 pan_cx (by kernel_rfl) (fun _ hw => hw.sub (by repeat (first | exact List.Sublist.slnil | exact List.Sublist.refl _ | apply List.Sublist.cons_cons | apply List.Sublist.cons))) rfl (by kernel_rfl) (by kernel_rfl) (v_loadB 5 rfl Try.underlying2 rfl rfl rfl) rfl ?_ | refine a_take 8 pan_cx (by kernel_rfl) (fun _ hw => hw.sub (by repeat (first | exact List.Sublist.slnil | exact List.Sublist.refl _ | apply List.Sublist.cons_cons | apply List.Sublist.cons))) rfl (by kernel_rfl) (by kernel_rfl) (v_loadB 6 rfl Try.underlying2 rfl rfl rfl) rfl ?_ | refine a_take 8 pan_cx (by kernel_rfl) (fun _ hw => hw.sub (by repeat (first | exact List.Sublist.slnil | exact List.Sublist.refl _ | apply List.Sublist.cons_cons | apply List.Sublist.cons))) rfl (by kernel_rfl) (by kernel_rfl) (v_loadB 7 rfl Try.underlying2 rfl rfl rfl) rfl ?_ | refine a_take 8 pan_cx (by kernel_rfl) (fun _ hw => hw.sub (by repeat (first | exact List.Sublist.slnil | exact List.Sublist.refl _ | apply List.Sublist.cons_cons | apply List.Sublist.cons))) rfl (by kernel_rfl) (by kernel_rfl) (v_loadB 8 rfl Try.underlying2 rfl rfl rfl) rfl ?_ | refine a_take 8 pan_cx (by kernel_rfl) (fun _ hw => hw.sub (by repeat (first | exact List.Sublist.slnil | exact List.Sublist.refl _ | apply List.Sublist.cons_cons | apply List.Sublist.cons))) rfl (by kernel_rfl) (by kernel_rfl) (v_loadB 9 rfl Try.underlying2 rfl rfl rfl) rfl ?_ | refine a_take 8 pan_cx (by kernel_rfl) (fun _ hw => hw.sub (by repeat (first | exact List.Sublist.slnil | exact List.Sublist.refl _ | apply List.Sublist.cons_cons | apply List.Sublist.cons))) rfl (by kernel_rfl) (by kernel_rfl) (v_loadB 10 rfl Try.underlying2 rfl rfl rfl) rfl ?_ | refine a_take 8 pan_cx (by kernel_rfl) (fun _ hw => hw.sub (by repeat (first | exact List.Sublist.slnil | exact List.Sublist.refl _ | apply List.Sublist.cons_cons | apply List.Sublist.cons))) rfl (by kernel_rfl) (by kernel_rfl) (v_loadB 11 rfl Try.underlying2 rfl rfl rfl) rfl ?_
      refine a_one 9 (by kernel_rfl) rfl rfl ?_
      refine x_callM (dst := some 29) (tbH p 130 hs T1) [] (σ := Unit) (fun _ => True) (fun _ => .bool (hasT T1 k i)) (fun _ => tbH p 130 hs (chgT T1 k i ⟨i, false, false, (stAt s r (i + 1)).getD k 0⟩)) (List.Perm.refl _) rfl rfl rfl Try.call54 (fun w hw => tabSet_spec p hs T1 k i ((stAt s r (i + 1)).getD k 0) w (res_part hw).1 (res_part hw).2 hnT hgT) rfl (fun _ _ => ?_); rw [hstep]
      refine a_and (fun _ hw => hw.sub (by repeat (first | exact List.Sublist.slnil | exact List.Sublist.refl _ | apply List.Sublist.cons_cons | apply List.Sublist.cons))) ?_
      refine a_done (by kernel_rfl) ?_
      refine e_blk ?_
      refine e_region ?_
      refine w_val (v_move rfl) rfl ?_
      first | refine w_val (v_add rfl rfl (by omega)) rfl ?_ | refine w_val (v_addw rfl rfl) rfl ?_
      refine w_val (v_assign rfl) rfl ?_
      refine w_nil ?_
      exact e_round (k + 1) (by omega) (by omega) (by repeat (first | exact Sub.nil _ | refine Sub.cons rfl ?_)) (fun _ hw => hw)
  · have e : k = 10 := by omega
    subst e
    rw [tbH_congr (T' := filT s r (upd F i true)) (fun j hj => mixT_all hj)]
    refine e_exit rfl ?_
    refine e_endQ (q_ret0 rfl ?_)
    exact fun w' hw' => ⟨(), trivial, rfl, hw'.res⟩
end Go.SL

