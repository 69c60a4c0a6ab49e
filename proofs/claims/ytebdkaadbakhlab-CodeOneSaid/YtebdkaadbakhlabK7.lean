/- Ytebdkaadbakhlab: part K7 of this seat's own texts. -/
import Derived.Test.YtebdkaadbakhlabWD
import Derived.Test.YtebdkaadbakhlabWA
set_option linter.unusedVariables false
set_option linter.unusedSimpArgs false
open Go Go.Proofs Go.SL
set_option maxRecDepth 100000
namespace Go.SL
theorem check_one {o : OpL} (h : opFaultL o = 0) (h9 : o.kind ≠ 9) : (checkL [o]).1 = 0 := by
  simp [checkL, checkFrom, opCheckL, h, h9]
theorem check_skip {o : OpL} (h : opFaultL o = 0) (h9 : o.kind = 9) : checkL [o] = (1, 0) := by
  have : o.b < 1 ∨ 0 < o.b := by omega
  simp [checkL, checkFrom, opCheckL, h, h9, this]
theorem isDeed_cell {c : View} {u : Value} {d : DeedL} (h : IsDeed c u d) : u.oneCell' = true := by
  obtain ⟨A, k, rfl, _⟩ := h
  rfl
theorem CodeOne_spec (v : Value) (r : RoundL) (n : Int) (w : World) (h : IsRound w.cell? v r) (hb : ∀ d ∈ r, d.length ≤ 4398046511104) :
    Calls Try.prog 6 #[v, .int .i64 n] w fun e w' => e = .returned (.bool true) ∧ Res w [] [] w' := by
  have hs := h
  rw [← off_none w] at h hs
  obtain ⟨vs, hv, hds⟩ := h
  have hv0 := hv
  obtain ⟨A, kp, rfl, hle, hvl, hc⟩ := hv0
  rw [Nat.mul_one] at hvl
  refine enter0 (N := 89) Try.func6 rfl rfl rfl ?_
  refine e_seq ?_
  refine e_region ?_
  refine w_val (v_assign rfl) rfl ?_
  refine w_nil ?_
  refine e_seq ?_
  refine e_seq ?_
  refine e_region ?_
  refine w_op rfl ?_
  refine x_call0 (v := .bool true) rfl rfl rfl Try.call27 rfl (fun w hw => codeBegun_spec w) ?_
  refine w_val (v_not rfl) rfl ?_
  refine w_nil ?_
  refine e_condF rfl ?_
  by_cases hg : greatL r = true
  · refine e_skip ?_
    refine e_seq ?_
    refine e_seq ?_
    refine e_region ?_
    refine w_val (v_move rfl) rfl ?_
    refine w_op rfl ?_
    refine x_call0 (v := .bool true) rfl rfl rfl Try.call32 rfl (fun w hw => by have := great_spec _ r w (hs.mono hw.off) hb; rwa [hg] at this) ?_
    refine w_val (v_move rfl) rfl ?_
    refine w_skip rfl rfl rfl rfl ?_
    refine w_skip rfl rfl rfl rfl ?_
    refine w_skip rfl rfl rfl rfl ?_
    first | refine w_val (v_pickT rfl rfl) rfl ?_ | refine w_val (v_pickF rfl rfl) rfl ?_
    refine w_val (v_move rfl) rfl ?_
    refine w_skip rfl rfl rfl rfl ?_
    refine w_skip rfl rfl rfl rfl ?_
    refine w_skip rfl rfl rfl rfl ?_
    first | refine w_val (v_pickT rfl rfl) rfl ?_ | refine w_val (v_pickF rfl rfl) rfl ?_
    refine w_nil ?_
    first | refine e_condDT rfl (by omega) ?_ | refine e_condT rfl ?_
    refine e_seq ?_
    refine e_region ?_
    refine w_val (v_assign rfl) rfl ?_
    refine w_nil ?_
    refine e_retQ (q_ret1 rfl (.tmp rfl) ?_)
    exact fun w' hw' => ⟨rfl, hw'.res.nil⟩
  · have hg : greatL r = false := by cases h : greatL r with | true => exact absurd h hg | false => rfl
    by_cases hf : roundFaultL r = 0
    · by_cases h0 : r.length = 0
      · refine e_skip ?_
        refine e_seq ?_
        refine e_seq ?_
        refine e_region ?_
        refine w_val (v_move rfl) rfl ?_
        refine w_op rfl ?_
        refine x_call0 (v := .bool false) rfl rfl rfl Try.call32 rfl (fun w hw => by have := great_spec _ r w (hs.mono hw.off) hb; rwa [hg] at this) ?_
        refine w_val (v_move rfl) rfl ?_
        refine w_want rfl rfl ?_
        refine w_val (v_move rfl) rfl ?_
        refine w_want rfl rfl ?_
        refine w_op rfl ?_
        refine x_call0 (v := .int .i64 (roundFaultL r)) rfl rfl rfl Try.call33 rfl (fun w hw => codeRound_spec _ r w (hs.mono hw.off)) ?_
        refine w_want rfl rfl ?_
        refine w_val (v_is (v' := .bool false) (v_neq rfl rfl) (by rw [decide_eq_false (fun h => h hf)])) rfl ?_
        first | refine w_val (v_pickT rfl rfl) rfl ?_ | refine w_val (v_pickF rfl rfl) rfl ?_
        refine w_val (v_move rfl) rfl ?_
        refine w_want rfl rfl ?_
        refine w_val (v_move rfl) rfl ?_
        refine w_want rfl rfl ?_
        refine w_val (v_lenS Try.underlying34 rfl) rfl ?_
        refine w_want rfl rfl ?_
        refine w_val (v_is (v' := .bool true) (v_eql rfl rfl) (by rw [decide_eq_true (by omega)])) rfl ?_
        first | refine w_val (v_pickT rfl rfl) rfl ?_ | refine w_val (v_pickF rfl rfl) rfl ?_
        refine w_nil ?_
        first | refine e_condDT rfl (by omega) ?_ | refine e_condT rfl ?_
        refine e_seq ?_
        refine e_region ?_
        refine w_val (v_assign rfl) rfl ?_
        refine w_nil ?_
        refine e_retQ (q_ret1 rfl (.tmp rfl) ?_)
        exact fun w' hw' => ⟨rfl, hw'.res.nil⟩
      · refine e_skip ?_
        refine e_seq ?_
        refine e_seq ?_
        refine e_region ?_
        refine w_val (v_move rfl) rfl ?_
        refine w_op rfl ?_
        refine x_call0 (v := .bool false) rfl rfl rfl Try.call32 rfl (fun w hw => by have := great_spec _ r w (hs.mono hw.off) hb; rwa [hg] at this) ?_
        refine w_val (v_move rfl) rfl ?_
        refine w_want rfl rfl ?_
        refine w_val (v_move rfl) rfl ?_
        refine w_want rfl rfl ?_
        refine w_op rfl ?_
        refine x_call0 (v := .int .i64 (roundFaultL r)) rfl rfl rfl Try.call33 rfl (fun w hw => codeRound_spec _ r w (hs.mono hw.off)) ?_
        refine w_want rfl rfl ?_
        refine w_val (v_is (v' := .bool false) (v_neq rfl rfl) (by rw [decide_eq_false (fun h => h hf)])) rfl ?_
        first | refine w_val (v_pickT rfl rfl) rfl ?_ | refine w_val (v_pickF rfl rfl) rfl ?_
        refine w_val (v_move rfl) rfl ?_
        refine w_want rfl rfl ?_
        refine w_val (v_move rfl) rfl ?_
        refine w_want rfl rfl ?_
        refine w_val (v_lenS Try.underlying34 rfl) rfl ?_
        refine w_want rfl rfl ?_
        refine w_val (v_is (v' := .bool false) (v_eql rfl rfl) (by rw [decide_eq_false (by omega)])) rfl ?_
        first | refine w_val (v_pickT rfl rfl) rfl ?_ | refine w_val (v_pickF rfl rfl) rfl ?_
        refine w_nil ?_
        refine e_condF rfl ?_
        have h60 := great_not hg
        have hok := roundFault_ok hf
        obtain ⟨i, hi, him⟩ := u64_rem' n (show 0 < r.length by omega)
        have hds2 := hds
        obtain ⟨u, hu, hdu⟩ := hds2 i hi
        have hoku := checked (hok.2 _ (List.getElem_mem hi))
        have hcku := hok.2 _ (List.getElem_mem hi)
        obtain ⟨ad, hA, hcs⟩ := hc (by omega)
        subst hA
        have hcell : off w (feet []) (ad.add (((i : Int)).toNat * 1)) = some u := by have := hcs i u hu; simpa using this
        have hone : ∀ x ∈ vs, x.oneCell' = true := fun x hx => by
          obtain ⟨j, hj, rfl⟩ := List.getElem_of_mem hx
          obtain ⟨u', h1, h2⟩ := hds j (by omega)
          rw [List.getElem?_eq_getElem hj] at h1
          injection h1 with h1
          rw [h1]
          exact isDeed_cell h2
        have hT := slV_rds (lo := 0) (hi := i) hv (Nat.zero_le _) (by omega)
        have hD := slV_rds (lo := i + 1) (hi := r.length) hv (by omega) (Nat.le_refl _)
        rw [slV_0'] at hT
        simp only [Nat.sub_zero, Nat.zero_mul, List.drop_zero, Nat.mul_one] at hT hD
        have eD : (vs.drop (i + 1)).take (r.length - (i + 1)) = vs.drop (i + 1) := List.take_of_length_le (by simp; omega)
        rw [eD] at hD
        refine e_skip ?_
        refine e_seq ?_
        refine e_region ?_
        refine w_val (v_move rfl) rfl ?_
        refine w_val (v_conv Try.underlying50 (by rw [Try.underlying3]; rfl) rfl) rfl ?_
        refine w_val (v_move rfl) rfl ?_
        refine w_val (v_lenS Try.underlying34 rfl) rfl ?_
        refine w_val (v_is (v' := .int .u64 ((r.length : Nat) : Int)) (v_conv Try.underlying50 (by rw [Try.underlying3]; rfl) rfl) (by rw [wrap_u64 (by omega) (by omega)])) rfl ?_
        refine w_val (v_is (v' := .int .u64 (i : Int)) (v_rem rfl rfl (by omega)) (by rw [him])) rfl ?_
        refine w_val (v_is (v' := .int .i64 (i : Int)) (v_conv Try.underlying3 (by rw [Try.underlying50]; rfl) rfl) (by rw [wrap_i64 (by omega) (by omega)])) rfl ?_
        refine w_val (v_assign rfl) rfl ?_
        refine w_nil ?_
        refine e_seq ?_
        refine e_region ?_
        refine w_val (v_assign rfl) rfl ?_
        refine w_nil ?_
        refine e_seq ?_
        refine g_heap (fun _ hw => hw.ownNil 52 1) ?_
        refine e_draw ([]) Try.mixed ?_
        refine a_take 0 pan_cx (by kernel_rfl) (fun _ hw => hw.sub (by repeat (first | exact List.Sublist.slnil | exact List.Sublist.refl _ | apply List.Sublist.cons_cons | apply List.Sublist.cons))) rfl (by kernel_rfl) (by kernel_rfl) (v_move rfl) rfl ?_
        refine a_take 1 pan_cx (by kernel_rfl) (fun _ hw => hw.sub (by repeat (first | exact List.Sublist.slnil | exact List.Sublist.refl _ | apply List.Sublist.cons_cons | apply List.Sublist.cons))) rfl (by kernel_rfl) (by kernel_rfl) (v_move rfl) rfl ?_
        refine a_take 2 pan_cx (by kernel_rfl) (fun _ hw => hw.sub (by repeat (first | exact List.Sublist.slnil | exact List.Sublist.refl _ | apply List.Sublist.cons_cons | apply List.Sublist.cons))) rfl (by kernel_rfl) (by kernel_rfl) (v_move rfl) rfl ?_
        refine a_take 3 pan_cx (by kernel_rfl) (fun _ hw => hw.sub (by repeat (first | exact List.Sublist.slnil | exact List.Sublist.refl _ | apply List.Sublist.cons_cons | apply List.Sublist.cons))) rfl (by kernel_rfl) (by kernel_rfl) (v_is (v' := .slice (some ad) i kp) (v_sliceH Try.underlying34 Try.hi52 Try.cz52 rfl rfl (by omega)) (by rw [Int.toNat_natCast, slV_0'])) rfl ?_
        refine a_take 5 pan_cx (by kernel_rfl) (fun _ hw => hw.sub (by repeat (first | exact List.Sublist.slnil | exact List.Sublist.refl _ | apply List.Sublist.cons_cons | apply List.Sublist.cons))) rfl (by kernel_rfl) (by kernel_rfl) (v_move rfl) rfl ?_
        refine a_take 6 pan_cx (by kernel_rfl) (fun _ hw => hw.sub (by repeat (first | exact List.Sublist.slnil | exact List.Sublist.refl _ | apply List.Sublist.cons_cons | apply List.Sublist.cons))) rfl (by kernel_rfl) (by kernel_rfl) (v_move rfl) rfl ?_
        refine a_take 7 pan_cx (by kernel_rfl) (fun _ hw => hw.sub (by repeat (first | exact List.Sublist.slnil | exact List.Sublist.refl _ | apply List.Sublist.cons_cons | apply List.Sublist.cons))) rfl (by kernel_rfl) (by kernel_rfl) (v_is (v' := .int .i64 ((i + 1 : Nat) : Int)) (v_add rfl rfl (by omega)) (by congr 1)) rfl ?_
        refine a_take 8 pan_cx (by kernel_rfl) (fun _ hw => hw.sub (by repeat (first | exact List.Sublist.slnil | exact List.Sublist.refl _ | apply List.Sublist.cons_cons | apply List.Sublist.cons))) rfl (by kernel_rfl) (by kernel_rfl) (v_sliceL Try.underlying34 Try.hi52 Try.cz52 rfl rfl (by omega)) rfl ?_
        refine a_one 4 (by kernel_rfl) rfl rfl ?_
        refine x_appendI (z := .slice none 0 0) (n := 0) (xs := []) (size := 1) (bytes := 24) (k := i) (news := vs.take i) 0 rfl rfl rfl Try.underlying34 (by kernel_rfl) rfl (by decide) (fun w hw => hT.mono hw.off) (fun x hx => hone x (List.mem_of_mem_take hx)) (by omega) (by simp only [maxLen]; omega) rfl (fun v33 => ?_)
        refine a_and (fun _ hw => hw.sub (by repeat (first | exact List.Sublist.slnil | exact List.Sublist.refl _ | apply List.Sublist.cons_cons | apply List.Sublist.cons))) ?_
        refine a_one 9 (by kernel_rfl) rfl rfl ?_
        refine x_appendI (z := .slice none 0 0) (n := 0 + i) (xs := [] ++ vs.take i) (size := 1) (bytes := 24) (k := r.length - (i + 1)) (news := vs.drop (i + 1)) 0 rfl rfl rfl Try.underlying34 (by kernel_rfl) rfl (by decide) (fun w hw => hD.mono hw.off) (fun x hx => hone x (List.mem_of_mem_drop hx)) (by omega) (by simp only [maxLen]; omega) rfl (fun v38 => ?_)
        refine a_and (fun _ hw => hw.sub (by repeat (first | exact List.Sublist.slnil | exact List.Sublist.refl _ | apply List.Sublist.cons_cons | apply List.Sublist.cons))) ?_
        refine a_take 10 pan_cx (by kernel_rfl) (fun _ hw => hw.sub (by repeat (first | exact List.Sublist.slnil | exact List.Sublist.refl _ | apply List.Sublist.cons_cons | apply List.Sublist.cons))) rfl (by kernel_rfl) (by kernel_rfl) (v_assign rfl) rfl ?_
        refine a_done (by kernel_rfl) ?_
        have hless : ∀ (w1 : World) (h : (Own v38 52 1 (0 + i + (r.length - (i + 1))) ([] ++ vs.take i ++ vs.drop (i + 1))).holds w1), Le (off w (feet [])) w1.cell? → IsRound w1.cell? v38 (r.take i ++ r.drop (i + 1)) := fun w1 h hle => by
          have hl : (r.take i ++ r.drop (i + 1)).length = 0 + i + (r.length - (i + 1)) := by simp; omega
          refine ⟨vs.take i ++ vs.drop (i + 1), by rw [hl]; exact own_rds h, fun j hj => ?_⟩
          have htl : (r.take i).length = i := by simp; omega
          have hvtl : (vs.take i).length = i := by simp; omega
          by_cases hji : j < i
          · obtain ⟨u', h1, h2⟩ := hds j (by omega)
            refine ⟨u', ?_, ?_⟩
            · rw [List.getElem?_append_left (by omega), List.getElem?_take_of_lt hji]; exact h1
            · rw [List.getElem_append_left (by omega), List.getElem_take]; exact h2.mono hle
          · obtain ⟨u', h1, h2⟩ := hds (j + 1) (by omega)
            refine ⟨u', ?_, ?_⟩
            · rw [List.getElem?_append_right (by omega), List.getElem?_drop, hvtl, show i + 1 + (j - i) = j + 1 from by omega]; exact h1
            · rw [List.getElem_append_right (by omega), List.getElem_drop]
              simp only [htl, show i + 1 + (j - i) = j + 1 from by omega]
              exact h2.mono hle
        have hfl : roundFaultL (r.take i ++ r.drop (i + 1)) = 0 := roundFault_of (by simp; omega) (fun d hd => by
          rcases List.mem_append.1 hd with hd | hd
          · exact hok.2 d (List.mem_of_mem_take hd)
          · exact hok.2 d (List.mem_of_mem_drop hd))
        refine e_seq ?_
        refine e_seq ?_
        refine e_region ?_
        refine w_val (v_move rfl) rfl ?_
        refine w_op rfl ?_
        refine x_call0 (v := .int .i64 0) rfl rfl rfl Try.call33 rfl (fun w hw => by have := codeRound_spec v38 _ w (hless w (hw.mem (i := 0) rfl) hw.off); rwa [hfl] at this) ?_
        refine w_val (v_is (v' := .bool false) (v_neq rfl rfl) (by rfl)) rfl ?_
        refine w_val (v_move rfl) rfl ?_
        refine w_want rfl rfl ?_
        refine w_val (v_move rfl) rfl ?_
        refine w_want rfl rfl ?_
        refine w_val (v_move rfl) rfl ?_
        refine w_want rfl rfl ?_
        first | refine w_val (v_indexSB Try.underlying34 Try.hi52 Try.cz52 rfl rfl (by first | omega | decide)) rfl ?_ | refine w_val (v_indexS Try.underlying34 Try.hi52 Try.cz52 rfl rfl (by first | omega | decide)) rfl ?_
        refine w_want rfl rfl ?_
        first | refine w_val (v_loadO Try.underlying52 rfl rfl (hcell)) rfl ?_ | refine w_val (v_loadB 0 rfl Try.underlying52 rfl rfl rfl) rfl ?_ | refine w_val (v_loadB 1 rfl Try.underlying52 rfl rfl rfl) rfl ?_ | refine w_val (v_loadB 2 rfl Try.underlying52 rfl rfl rfl) rfl ?_ | refine w_val (v_loadB 3 rfl Try.underlying52 rfl rfl rfl) rfl ?_ | refine w_val (v_loadB 4 rfl Try.underlying52 rfl rfl rfl) rfl ?_ | refine w_val (v_loadB 5 rfl Try.underlying52 rfl rfl rfl) rfl ?_ | refine w_val (v_loadB 6 rfl Try.underlying52 rfl rfl rfl) rfl ?_ | refine w_val (v_loadB 7 rfl Try.underlying52 rfl rfl rfl) rfl ?_ | refine w_val (v_loadB 8 rfl Try.underlying52 rfl rfl rfl) rfl ?_ | refine w_val (v_loadB 9 rfl Try.underlying52 rfl rfl rfl) rfl ?_ | refine w_val (v_loadB 10 rfl Try.underlying52 rfl rfl rfl) rfl ?_ | refine w_val (v_loadB 11 rfl Try.underlying52 rfl rfl rfl) rfl ?_
        refine w_want rfl rfl ?_
        refine w_op rfl ?_
        refine x_call0 (v := faultV (checkL r[i])) rfl rfl rfl Try.call30 rfl (fun w hw => check_spec u _ w (hdu.mono hw.off)) ?_
        refine w_want rfl rfl ?_
        refine w_val (v_field Try.underlying57 rfl (by kernel_rfl) rfl rfl) rfl ?_
        refine w_want rfl rfl ?_
        refine w_val (v_is (v' := .bool false) (v_neq rfl rfl) (by rw [decide_eq_false (fun h => h hcku)])) rfl ?_
        first | refine w_val (v_pickT rfl rfl) rfl ?_ | refine w_val (v_pickF rfl rfl) rfl ?_
        refine w_nil ?_
        refine e_condF rfl ?_
        generalize r[i] = d at *
        have hdu2 := hdu
        obtain ⟨A2, k2, rfl, hle2, hc2⟩ := hdu.form
        refine e_skip ?_
        refine e_seq ?_
        refine e_seq ?_
        refine e_region ?_
        refine w_val (v_assign rfl) rfl ?_
        refine w_nil ?_
        refine e_block ?_
        refine e_loopK (σ := Nat) [0, 1] (.cons rfl (.cons rfl .nil)) (fun k => [(6, .int .i64 (k : Int))]) (fun k => k ≤ d.length) (fun k => d.length - k) 0 (by omega) (by repeat (first | exact Sub.nil _ | refine Sub.cons rfl ?_)) ?_
        rintro k hk
        refine e_seq ?_
        refine e_seq ?_
        refine e_region ?_
        refine w_val (v_move rfl) rfl ?_
        refine w_val (v_move rfl) rfl ?_
        refine w_val (v_move rfl) rfl ?_
        first | refine w_val (v_indexSB Try.underlying34 Try.hi52 Try.cz52 rfl rfl (by first | omega | decide)) rfl ?_ | refine w_val (v_indexS Try.underlying34 Try.hi52 Try.cz52 rfl rfl (by first | omega | decide)) rfl ?_
        first | refine w_val (v_loadO Try.underlying52 rfl rfl (hcell)) rfl ?_ | refine w_val (v_loadB 0 rfl Try.underlying52 rfl rfl rfl) rfl ?_ | refine w_val (v_loadB 1 rfl Try.underlying52 rfl rfl rfl) rfl ?_ | refine w_val (v_loadB 2 rfl Try.underlying52 rfl rfl rfl) rfl ?_ | refine w_val (v_loadB 3 rfl Try.underlying52 rfl rfl rfl) rfl ?_ | refine w_val (v_loadB 4 rfl Try.underlying52 rfl rfl rfl) rfl ?_ | refine w_val (v_loadB 5 rfl Try.underlying52 rfl rfl rfl) rfl ?_ | refine w_val (v_loadB 6 rfl Try.underlying52 rfl rfl rfl) rfl ?_ | refine w_val (v_loadB 7 rfl Try.underlying52 rfl rfl rfl) rfl ?_ | refine w_val (v_loadB 8 rfl Try.underlying52 rfl rfl rfl) rfl ?_ | refine w_val (v_loadB 9 rfl Try.underlying52 rfl rfl rfl) rfl ?_ | refine w_val (v_loadB 10 rfl Try.underlying52 rfl rfl rfl) rfl ?_ | refine w_val (v_loadB 11 rfl Try.underlying52 rfl rfl rfl) rfl ?_
        refine w_val (v_lenS Try.underlying52 rfl) rfl ?_
        refine w_val (v_lss rfl rfl) rfl ?_
        refine w_nil ?_
        refine e_condD rfl (fun hlt => ?_) (fun hlt => ?_)
        · have hk' : k < d.length := by omega
          have hop0 := (hoku.2 k hk').1
          obtain ⟨ad2, rfl, hop⟩ := IsDeed.cells hc2 hk'
          generalize d[k] = o at *
          refine e_skip ?_
          refine e_seq ?_
          refine e_block ?_
          refine e_seq ?_
          refine e_region ?_
          refine w_val (v_move rfl) rfl ?_
          refine w_val (v_move rfl) rfl ?_
          first | refine w_val (v_indexSB Try.underlying34 Try.hi52 Try.cz52 rfl rfl (by first | omega | decide)) rfl ?_ | refine w_val (v_indexS Try.underlying34 Try.hi52 Try.cz52 rfl rfl (by first | omega | decide)) rfl ?_
          first | refine w_val (v_loadO Try.underlying52 rfl rfl (hcell)) rfl ?_ | refine w_val (v_loadO Try.underlying52 rfl rfl ((hop) _ _ rfl)) rfl ?_ | refine w_val (v_loadB 0 rfl Try.underlying52 rfl rfl rfl) rfl ?_ | refine w_val (v_loadB 1 rfl Try.underlying52 rfl rfl rfl) rfl ?_ | refine w_val (v_loadB 2 rfl Try.underlying52 rfl rfl rfl) rfl ?_ | refine w_val (v_loadB 3 rfl Try.underlying52 rfl rfl rfl) rfl ?_ | refine w_val (v_loadB 4 rfl Try.underlying52 rfl rfl rfl) rfl ?_ | refine w_val (v_loadB 5 rfl Try.underlying52 rfl rfl rfl) rfl ?_ | refine w_val (v_loadB 6 rfl Try.underlying52 rfl rfl rfl) rfl ?_ | refine w_val (v_loadB 7 rfl Try.underlying52 rfl rfl rfl) rfl ?_ | refine w_val (v_loadB 8 rfl Try.underlying52 rfl rfl rfl) rfl ?_ | refine w_val (v_loadB 9 rfl Try.underlying52 rfl rfl rfl) rfl ?_ | refine w_val (v_loadB 10 rfl Try.underlying52 rfl rfl rfl) rfl ?_ | refine w_val (v_loadB 11 rfl Try.underlying52 rfl rfl rfl) rfl ?_
          refine w_val (v_move rfl) rfl ?_
          first | refine w_val (v_indexSB Try.underlying52 Try.hi61 Try.cz61 rfl rfl (by first | omega | decide)) rfl ?_ | refine w_val (v_indexS Try.underlying52 Try.hi61 Try.cz61 rfl rfl (by first | omega | decide)) rfl ?_
          first | refine w_val (v_loadON Try.underlying61 rfl Try.hi61 rfl (hop) Try.cz61) rfl ?_ | refine w_val (v_loadBA 0 rfl Try.underlying61 rfl Try.hi61 Try.cz61 rfl) rfl ?_ | refine w_val (v_loadBA 1 rfl Try.underlying61 rfl Try.hi61 Try.cz61 rfl) rfl ?_ | refine w_val (v_loadBA 2 rfl Try.underlying61 rfl Try.hi61 Try.cz61 rfl) rfl ?_ | refine w_val (v_loadBA 3 rfl Try.underlying61 rfl Try.hi61 Try.cz61 rfl) rfl ?_ | refine w_val (v_loadBA 4 rfl Try.underlying61 rfl Try.hi61 Try.cz61 rfl) rfl ?_ | refine w_val (v_loadBA 5 rfl Try.underlying61 rfl Try.hi61 Try.cz61 rfl) rfl ?_ | refine w_val (v_loadBA 6 rfl Try.underlying61 rfl Try.hi61 Try.cz61 rfl) rfl ?_ | refine w_val (v_loadBA 7 rfl Try.underlying61 rfl Try.hi61 Try.cz61 rfl) rfl ?_ | refine w_val (v_loadBA 8 rfl Try.underlying61 rfl Try.hi61 Try.cz61 rfl) rfl ?_ | refine w_val (v_loadBA 9 rfl Try.underlying61 rfl Try.hi61 Try.cz61 rfl) rfl ?_ | refine w_val (v_loadBA 10 rfl Try.underlying61 rfl Try.hi61 Try.cz61 rfl) rfl ?_ | refine w_val (v_loadBA 11 rfl Try.underlying61 rfl Try.hi61 Try.cz61 rfl) rfl ?_ | refine w_val (v_loadBN 0 rfl Try.underlying61 rfl Try.hi61 Try.cz61 rfl rfl rfl) rfl ?_ | refine w_val (v_loadBN 1 rfl Try.underlying61 rfl Try.hi61 Try.cz61 rfl rfl rfl) rfl ?_ | refine w_val (v_loadBN 2 rfl Try.underlying61 rfl Try.hi61 Try.cz61 rfl rfl rfl) rfl ?_ | refine w_val (v_loadBN 3 rfl Try.underlying61 rfl Try.hi61 Try.cz61 rfl rfl rfl) rfl ?_ | refine w_val (v_loadBN 4 rfl Try.underlying61 rfl Try.hi61 Try.cz61 rfl rfl rfl) rfl ?_ | refine w_val (v_loadBN 5 rfl Try.underlying61 rfl Try.hi61 Try.cz61 rfl rfl rfl) rfl ?_ | refine w_val (v_loadBN 6 rfl Try.underlying61 rfl Try.hi61 Try.cz61 rfl rfl rfl) rfl ?_ | refine w_val (v_loadBN 7 rfl Try.underlying61 rfl Try.hi61 Try.cz61 rfl rfl rfl) rfl ?_ | refine w_val (v_loadBN 8 rfl Try.underlying61 rfl Try.hi61 Try.cz61 rfl rfl rfl) rfl ?_ | refine w_val (v_loadBN 9 rfl Try.underlying61 rfl Try.hi61 Try.cz61 rfl rfl rfl) rfl ?_ | refine w_val (v_loadBN 10 rfl Try.underlying61 rfl Try.hi61 Try.cz61 rfl rfl rfl) rfl ?_ | refine w_val (v_loadBN 11 rfl Try.underlying61 rfl Try.hi61 Try.cz61 rfl rfl rfl) rfl ?_
          refine w_op rfl ?_
          refine x_alloc (z := .agg #[.int .i64 0, .int .i64 0, .int .i64 0, .int .i64 0, .int .i64 0]) (by intro w; exact Try.zeroValue61 w) rfl (fun b7 => ?_)
          refine w_op rfl ?_
          first | refine x_storeA 0 rfl rfl rfl Try.hi61 Try.cz61 rfl (by first | (simp [Value.oneCell', opCells]; done) | assumption | exact one_ints _ | exact one_resCells _ _) ?_ | refine x_storeA 1 rfl rfl rfl Try.hi61 Try.cz61 rfl (by first | (simp [Value.oneCell', opCells]; done) | assumption | exact one_ints _ | exact one_resCells _ _) ?_ | refine x_storeA 2 rfl rfl rfl Try.hi61 Try.cz61 rfl (by first | (simp [Value.oneCell', opCells]; done) | assumption | exact one_ints _ | exact one_resCells _ _) ?_ | refine x_storeA 3 rfl rfl rfl Try.hi61 Try.cz61 rfl (by first | (simp [Value.oneCell', opCells]; done) | assumption | exact one_ints _ | exact one_resCells _ _) ?_ | refine x_storeA 4 rfl rfl rfl Try.hi61 Try.cz61 rfl (by first | (simp [Value.oneCell', opCells]; done) | assumption | exact one_ints _ | exact one_resCells _ _) ?_ | refine x_storeA 5 rfl rfl rfl Try.hi61 Try.cz61 rfl (by first | (simp [Value.oneCell', opCells]; done) | assumption | exact one_ints _ | exact one_resCells _ _) ?_ | refine x_storeA 6 rfl rfl rfl Try.hi61 Try.cz61 rfl (by first | (simp [Value.oneCell', opCells]; done) | assumption | exact one_ints _ | exact one_resCells _ _) ?_ | refine x_storeA 7 rfl rfl rfl Try.hi61 Try.cz61 rfl (by first | (simp [Value.oneCell', opCells]; done) | assumption | exact one_ints _ | exact one_resCells _ _) ?_ | refine x_storeA 8 rfl rfl rfl Try.hi61 Try.cz61 rfl (by first | (simp [Value.oneCell', opCells]; done) | assumption | exact one_ints _ | exact one_resCells _ _) ?_ | refine x_storeA 9 rfl rfl rfl Try.hi61 Try.cz61 rfl (by first | (simp [Value.oneCell', opCells]; done) | assumption | exact one_ints _ | exact one_resCells _ _) ?_ | refine x_storeA 10 rfl rfl rfl Try.hi61 Try.cz61 rfl (by first | (simp [Value.oneCell', opCells]; done) | assumption | exact one_ints _ | exact one_resCells _ _) ?_ | refine x_storeA 11 rfl rfl rfl Try.hi61 Try.cz61 rfl (by first | (simp [Value.oneCell', opCells]; done) | assumption | exact one_ints _ | exact one_resCells _ _) ?_
          refine w_nil ?_
          refine e_seq ?_
          refine e_cutK (σ := Unit) [0, 1, 6] (.cons rfl (.cons rfl (.cons rfl .nil))) (fun _ => [(88, .bool false)]) (fun _ => True) ?_ ?_
          · by_cases h9 : o.kind = 9
            · have hck := check_skip hop0 h9
              refine e_region ?_
              first | refine w_val (v_fieldAddrB (o := 0) Try.underlying61 rfl rfl Try.nz3 rfl) rfl ?_ | refine w_val (v_fieldAddr (o := 0) Try.underlying61 rfl rfl Try.nz3 rfl) rfl ?_
              first | refine w_val (v_loadB 0 rfl Try.underlying3 rfl rfl rfl) rfl ?_ | refine w_val (v_loadB 1 rfl Try.underlying3 rfl rfl rfl) rfl ?_ | refine w_val (v_loadB 2 rfl Try.underlying3 rfl rfl rfl) rfl ?_ | refine w_val (v_loadB 3 rfl Try.underlying3 rfl rfl rfl) rfl ?_ | refine w_val (v_loadB 4 rfl Try.underlying3 rfl rfl rfl) rfl ?_ | refine w_val (v_loadB 5 rfl Try.underlying3 rfl rfl rfl) rfl ?_ | refine w_val (v_loadB 6 rfl Try.underlying3 rfl rfl rfl) rfl ?_ | refine w_val (v_loadB 7 rfl Try.underlying3 rfl rfl rfl) rfl ?_ | refine w_val (v_loadB 8 rfl Try.underlying3 rfl rfl rfl) rfl ?_ | refine w_val (v_loadB 9 rfl Try.underlying3 rfl rfl rfl) rfl ?_ | refine w_val (v_loadB 10 rfl Try.underlying3 rfl rfl rfl) rfl ?_ | refine w_val (v_loadB 11 rfl Try.underlying3 rfl rfl rfl) rfl ?_
              refine w_val (v_is (v' := .bool false) (v_neq rfl rfl) (by rw [decide_eq_false (fun h => h h9)])) rfl ?_
              refine w_val (v_move rfl) rfl ?_
              refine w_skip rfl rfl rfl rfl ?_
              refine w_skip rfl rfl rfl rfl ?_
              refine w_skip rfl rfl rfl rfl ?_
              refine w_skip rfl rfl rfl rfl ?_
              refine w_skip rfl rfl rfl rfl ?_
              first | refine w_val (v_pickT rfl rfl) rfl ?_ | refine w_val (v_pickF rfl rfl) rfl ?_
              refine w_val (v_move rfl) rfl ?_
              refine w_want rfl rfl ?_
              first | refine w_val (v_fieldAddrB (o := 0) Try.underlying61 rfl rfl Try.nz3 rfl) rfl ?_ | refine w_val (v_fieldAddr (o := 0) Try.underlying61 rfl rfl Try.nz3 rfl) rfl ?_
              refine w_want rfl rfl ?_
              first | refine w_val (v_loadB 0 rfl Try.underlying3 rfl rfl rfl) rfl ?_ | refine w_val (v_loadB 1 rfl Try.underlying3 rfl rfl rfl) rfl ?_ | refine w_val (v_loadB 2 rfl Try.underlying3 rfl rfl rfl) rfl ?_ | refine w_val (v_loadB 3 rfl Try.underlying3 rfl rfl rfl) rfl ?_ | refine w_val (v_loadB 4 rfl Try.underlying3 rfl rfl rfl) rfl ?_ | refine w_val (v_loadB 5 rfl Try.underlying3 rfl rfl rfl) rfl ?_ | refine w_val (v_loadB 6 rfl Try.underlying3 rfl rfl rfl) rfl ?_ | refine w_val (v_loadB 7 rfl Try.underlying3 rfl rfl rfl) rfl ?_ | refine w_val (v_loadB 8 rfl Try.underlying3 rfl rfl rfl) rfl ?_ | refine w_val (v_loadB 9 rfl Try.underlying3 rfl rfl rfl) rfl ?_ | refine w_val (v_loadB 10 rfl Try.underlying3 rfl rfl rfl) rfl ?_ | refine w_val (v_loadB 11 rfl Try.underlying3 rfl rfl rfl) rfl ?_
              refine w_want rfl rfl ?_
              refine w_val (v_is (v' := .bool true) (v_eql rfl rfl) (by rw [decide_eq_true h9])) rfl ?_
              refine w_want rfl rfl ?_
              refine w_val (v_move rfl) rfl ?_
              refine w_want rfl rfl ?_
              first | refine w_val (v_loadBA 0 rfl Try.underlying61 rfl Try.hi61 Try.cz61 rfl) rfl ?_ | refine w_val (v_loadBA 1 rfl Try.underlying61 rfl Try.hi61 Try.cz61 rfl) rfl ?_ | refine w_val (v_loadBA 2 rfl Try.underlying61 rfl Try.hi61 Try.cz61 rfl) rfl ?_ | refine w_val (v_loadBA 3 rfl Try.underlying61 rfl Try.hi61 Try.cz61 rfl) rfl ?_ | refine w_val (v_loadBA 4 rfl Try.underlying61 rfl Try.hi61 Try.cz61 rfl) rfl ?_ | refine w_val (v_loadBA 5 rfl Try.underlying61 rfl Try.hi61 Try.cz61 rfl) rfl ?_ | refine w_val (v_loadBA 6 rfl Try.underlying61 rfl Try.hi61 Try.cz61 rfl) rfl ?_ | refine w_val (v_loadBA 7 rfl Try.underlying61 rfl Try.hi61 Try.cz61 rfl) rfl ?_ | refine w_val (v_loadBA 8 rfl Try.underlying61 rfl Try.hi61 Try.cz61 rfl) rfl ?_ | refine w_val (v_loadBA 9 rfl Try.underlying61 rfl Try.hi61 Try.cz61 rfl) rfl ?_ | refine w_val (v_loadBA 10 rfl Try.underlying61 rfl Try.hi61 Try.cz61 rfl) rfl ?_ | refine w_val (v_loadBA 11 rfl Try.underlying61 rfl Try.hi61 Try.cz61 rfl) rfl ?_ | refine w_val (v_loadBN 0 rfl Try.underlying61 rfl Try.hi61 Try.cz61 rfl rfl rfl) rfl ?_ | refine w_val (v_loadBN 1 rfl Try.underlying61 rfl Try.hi61 Try.cz61 rfl rfl rfl) rfl ?_ | refine w_val (v_loadBN 2 rfl Try.underlying61 rfl Try.hi61 Try.cz61 rfl rfl rfl) rfl ?_ | refine w_val (v_loadBN 3 rfl Try.underlying61 rfl Try.hi61 Try.cz61 rfl rfl rfl) rfl ?_ | refine w_val (v_loadBN 4 rfl Try.underlying61 rfl Try.hi61 Try.cz61 rfl rfl rfl) rfl ?_ | refine w_val (v_loadBN 5 rfl Try.underlying61 rfl Try.hi61 Try.cz61 rfl rfl rfl) rfl ?_ | refine w_val (v_loadBN 6 rfl Try.underlying61 rfl Try.hi61 Try.cz61 rfl rfl rfl) rfl ?_ | refine w_val (v_loadBN 7 rfl Try.underlying61 rfl Try.hi61 Try.cz61 rfl rfl rfl) rfl ?_ | refine w_val (v_loadBN 8 rfl Try.underlying61 rfl Try.hi61 Try.cz61 rfl rfl rfl) rfl ?_ | refine w_val (v_loadBN 9 rfl Try.underlying61 rfl Try.hi61 Try.cz61 rfl rfl rfl) rfl ?_ | refine w_val (v_loadBN 10 rfl Try.underlying61 rfl Try.hi61 Try.cz61 rfl rfl rfl) rfl ?_ | refine w_val (v_loadBN 11 rfl Try.underlying61 rfl Try.hi61 Try.cz61 rfl rfl rfl) rfl ?_
              refine w_want rfl rfl ?_
              refine w_op rfl ?_
              refine x_buildSlice _ (deedCells [o]) rfl (run_buildSlice Try.underlying52 Try.hi61 Try.cz61 Try.zeroValue61 rfl (by kernel_rfl)) rfl (fun b83 => ?_)
              refine w_want rfl rfl ?_
              refine w_op rfl ?_
              refine x_call0 (v := faultV (1, 0)) rfl rfl rfl Try.call30 rfl (fun w hw => by have := check_spec _ [o] w (blk_rds (hw.mem (i := 0) rfl) rfl); rwa [hck] at this) ?_
              refine w_want rfl rfl ?_
              refine w_op rfl ?_
              refine x_call0 (v := faultV (1, 0)) rfl rfl rfl Try.call34 rfl (fun w hw => F_spec _ _ w) ?_
              refine w_want rfl rfl ?_
              refine w_val (v_is (v' := .bool false) (v_neqTwo (o := (1, 0)) (o' := (1, 0)) (ti := 3) Try.underlying57 (by kernel_rfl) (by kernel_rfl) (by kernel_rfl) rfl rfl Try.underlying3 rfl rfl) (congrArg Value.bool (by decide))) rfl ?_
              refine w_want rfl rfl ?_
              first | refine w_val (v_pickT rfl rfl) rfl ?_ | refine w_val (v_pickF rfl rfl) rfl ?_
              first | refine w_val (v_pickT rfl rfl) rfl ?_ | refine w_val (v_pickF rfl rfl) rfl ?_
              refine w_nil ?_
              exact e_cutEnd (()) (trivial) (by repeat (first | exact Sub.nil _ | refine Sub.cons rfl ?_)) (fun _ hw => hw.sub (List.sublist_cons_self _ _))
            · have hck := check_one hop0 h9
              refine e_region ?_
              first | refine w_val (v_fieldAddrB (o := 0) Try.underlying61 rfl rfl Try.nz3 rfl) rfl ?_ | refine w_val (v_fieldAddr (o := 0) Try.underlying61 rfl rfl Try.nz3 rfl) rfl ?_
              first | refine w_val (v_loadB 0 rfl Try.underlying3 rfl rfl rfl) rfl ?_ | refine w_val (v_loadB 1 rfl Try.underlying3 rfl rfl rfl) rfl ?_ | refine w_val (v_loadB 2 rfl Try.underlying3 rfl rfl rfl) rfl ?_ | refine w_val (v_loadB 3 rfl Try.underlying3 rfl rfl rfl) rfl ?_ | refine w_val (v_loadB 4 rfl Try.underlying3 rfl rfl rfl) rfl ?_ | refine w_val (v_loadB 5 rfl Try.underlying3 rfl rfl rfl) rfl ?_ | refine w_val (v_loadB 6 rfl Try.underlying3 rfl rfl rfl) rfl ?_ | refine w_val (v_loadB 7 rfl Try.underlying3 rfl rfl rfl) rfl ?_ | refine w_val (v_loadB 8 rfl Try.underlying3 rfl rfl rfl) rfl ?_ | refine w_val (v_loadB 9 rfl Try.underlying3 rfl rfl rfl) rfl ?_ | refine w_val (v_loadB 10 rfl Try.underlying3 rfl rfl rfl) rfl ?_ | refine w_val (v_loadB 11 rfl Try.underlying3 rfl rfl rfl) rfl ?_
              refine w_val (v_is (v' := .bool true) (v_neq rfl rfl) (by rw [decide_eq_true h9])) rfl ?_
              refine w_val (v_move rfl) rfl ?_
              refine w_want rfl rfl ?_
              first | refine w_val (v_loadBA 0 rfl Try.underlying61 rfl Try.hi61 Try.cz61 rfl) rfl ?_ | refine w_val (v_loadBA 1 rfl Try.underlying61 rfl Try.hi61 Try.cz61 rfl) rfl ?_ | refine w_val (v_loadBA 2 rfl Try.underlying61 rfl Try.hi61 Try.cz61 rfl) rfl ?_ | refine w_val (v_loadBA 3 rfl Try.underlying61 rfl Try.hi61 Try.cz61 rfl) rfl ?_ | refine w_val (v_loadBA 4 rfl Try.underlying61 rfl Try.hi61 Try.cz61 rfl) rfl ?_ | refine w_val (v_loadBA 5 rfl Try.underlying61 rfl Try.hi61 Try.cz61 rfl) rfl ?_ | refine w_val (v_loadBA 6 rfl Try.underlying61 rfl Try.hi61 Try.cz61 rfl) rfl ?_ | refine w_val (v_loadBA 7 rfl Try.underlying61 rfl Try.hi61 Try.cz61 rfl) rfl ?_ | refine w_val (v_loadBA 8 rfl Try.underlying61 rfl Try.hi61 Try.cz61 rfl) rfl ?_ | refine w_val (v_loadBA 9 rfl Try.underlying61 rfl Try.hi61 Try.cz61 rfl) rfl ?_ | refine w_val (v_loadBA 10 rfl Try.underlying61 rfl Try.hi61 Try.cz61 rfl) rfl ?_ | refine w_val (v_loadBA 11 rfl Try.underlying61 rfl Try.hi61 Try.cz61 rfl) rfl ?_ | refine w_val (v_loadBN 0 rfl Try.underlying61 rfl Try.hi61 Try.cz61 rfl rfl rfl) rfl ?_ | refine w_val (v_loadBN 1 rfl Try.underlying61 rfl Try.hi61 Try.cz61 rfl rfl rfl) rfl ?_ | refine w_val (v_loadBN 2 rfl Try.underlying61 rfl Try.hi61 Try.cz61 rfl rfl rfl) rfl ?_ | refine w_val (v_loadBN 3 rfl Try.underlying61 rfl Try.hi61 Try.cz61 rfl rfl rfl) rfl ?_ | refine w_val (v_loadBN 4 rfl Try.underlying61 rfl Try.hi61 Try.cz61 rfl rfl rfl) rfl ?_ | refine w_val (v_loadBN 5 rfl Try.underlying61 rfl Try.hi61 Try.cz61 rfl rfl rfl) rfl ?_ | refine w_val (v_loadBN 6 rfl Try.underlying61 rfl Try.hi61 Try.cz61 rfl rfl rfl) rfl ?_ | refine w_val (v_loadBN 7 rfl Try.underlying61 rfl Try.hi61 Try.cz61 rfl rfl rfl) rfl ?_ | refine w_val (v_loadBN 8 rfl Try.underlying61 rfl Try.hi61 Try.cz61 rfl rfl rfl) rfl ?_ | refine w_val (v_loadBN 9 rfl Try.underlying61 rfl Try.hi61 Try.cz61 rfl rfl rfl) rfl ?_ | refine w_val (v_loadBN 10 rfl Try.underlying61 rfl Try.hi61 Try.cz61 rfl rfl rfl) rfl ?_ | refine w_val (v_loadBN 11 rfl Try.underlying61 rfl Try.hi61 Try.cz61 rfl rfl rfl) rfl ?_
              refine w_want rfl rfl ?_
              refine w_op rfl ?_
              refine x_buildSlice _ (deedCells [o]) rfl (run_buildSlice Try.underlying52 Try.hi61 Try.cz61 Try.zeroValue61 rfl (by kernel_rfl)) rfl (fun b72 => ?_)
              refine w_want rfl rfl ?_
              refine w_op rfl ?_
              refine x_call0 (v := faultV (checkL [o])) rfl rfl rfl Try.call30 rfl (fun w hw => check_spec _ [o] w (blk_rds (hw.mem (i := 0) rfl) rfl)) ?_
              refine w_want rfl rfl ?_
              refine w_val (v_field Try.underlying57 rfl (by kernel_rfl) rfl rfl) rfl ?_
              refine w_want rfl rfl ?_
              refine w_val (v_is (v' := .bool false) (v_neq rfl rfl) (by rw [decide_eq_false (fun h => h hck)])) rfl ?_
              first | refine w_val (v_pickT rfl rfl) rfl ?_ | refine w_val (v_pickF rfl rfl) rfl ?_
              refine w_val (v_move rfl) rfl ?_
              refine w_want rfl rfl ?_
              first | refine w_val (v_fieldAddrB (o := 0) Try.underlying61 rfl rfl Try.nz3 rfl) rfl ?_ | refine w_val (v_fieldAddr (o := 0) Try.underlying61 rfl rfl Try.nz3 rfl) rfl ?_
              refine w_want rfl rfl ?_
              first | refine w_val (v_loadB 0 rfl Try.underlying3 rfl rfl rfl) rfl ?_ | refine w_val (v_loadB 1 rfl Try.underlying3 rfl rfl rfl) rfl ?_ | refine w_val (v_loadB 2 rfl Try.underlying3 rfl rfl rfl) rfl ?_ | refine w_val (v_loadB 3 rfl Try.underlying3 rfl rfl rfl) rfl ?_ | refine w_val (v_loadB 4 rfl Try.underlying3 rfl rfl rfl) rfl ?_ | refine w_val (v_loadB 5 rfl Try.underlying3 rfl rfl rfl) rfl ?_ | refine w_val (v_loadB 6 rfl Try.underlying3 rfl rfl rfl) rfl ?_ | refine w_val (v_loadB 7 rfl Try.underlying3 rfl rfl rfl) rfl ?_ | refine w_val (v_loadB 8 rfl Try.underlying3 rfl rfl rfl) rfl ?_ | refine w_val (v_loadB 9 rfl Try.underlying3 rfl rfl rfl) rfl ?_ | refine w_val (v_loadB 10 rfl Try.underlying3 rfl rfl rfl) rfl ?_ | refine w_val (v_loadB 11 rfl Try.underlying3 rfl rfl rfl) rfl ?_
              refine w_want rfl rfl ?_
              refine w_val (v_is (v' := .bool false) (v_eql rfl rfl) (by rw [decide_eq_false h9])) rfl ?_
              refine w_want rfl rfl ?_
              refine w_val (v_move rfl) rfl ?_
              refine w_skip rfl rfl rfl rfl ?_
              refine w_skip rfl rfl rfl rfl ?_
              refine w_skip rfl rfl rfl rfl ?_
              refine w_skip rfl rfl rfl rfl ?_
              refine w_skip rfl rfl rfl rfl ?_
              refine w_want rfl rfl ?_
              first | refine w_val (v_pickT rfl rfl) rfl ?_ | refine w_val (v_pickF rfl rfl) rfl ?_
              first | refine w_val (v_pickT rfl rfl) rfl ?_ | refine w_val (v_pickF rfl rfl) rfl ?_
              refine w_nil ?_
              exact e_cutEnd (()) (trivial) (by repeat (first | exact Sub.nil _ | refine Sub.cons rfl ?_)) (fun _ hw => hw.sub (List.sublist_cons_self _ _))
          · rintro - -
            refine e_condF rfl ?_
            refine e_skip ?_
            refine e_blk ?_
            refine e_region ?_
            refine w_val (v_move rfl) rfl ?_
            first | refine w_val (v_add rfl rfl (by omega)) rfl ?_ | refine w_val (v_addw rfl rfl) rfl ?_
            refine w_val (v_assign rfl) rfl ?_
            refine w_nil ?_
            exact e_round (k + 1) (by omega) (by omega) (by repeat (first | exact Sub.nil _ | refine Sub.cons rfl ?_)) (fun _ hw => hw.sub (List.sublist_cons_self _ _))
        · refine e_exit rfl ?_
          refine e_seq ?_
          refine e_region ?_
          refine w_val (v_assign rfl) rfl ?_
          refine w_nil ?_
          refine e_retQ (q_ret1 rfl (.tmp rfl) ?_)
          exact fun w' hw' => ⟨rfl, hw'.res.nil⟩
    · refine e_skip ?_
      refine e_seq ?_
      refine e_seq ?_
      refine e_region ?_
      refine w_val (v_move rfl) rfl ?_
      refine w_op rfl ?_
      refine x_call0 (v := .bool false) rfl rfl rfl Try.call32 rfl (fun w hw => by have := great_spec _ r w (hs.mono hw.off) hb; rwa [hg] at this) ?_
      refine w_val (v_move rfl) rfl ?_
      refine w_want rfl rfl ?_
      refine w_val (v_move rfl) rfl ?_
      refine w_want rfl rfl ?_
      refine w_op rfl ?_
      refine x_call0 (v := .int .i64 (roundFaultL r)) rfl rfl rfl Try.call33 rfl (fun w hw => codeRound_spec _ r w (hs.mono hw.off)) ?_
      refine w_want rfl rfl ?_
      refine w_val (v_is (v' := .bool true) (v_neq rfl rfl) (by rw [decide_eq_true hf])) rfl ?_
      first | refine w_val (v_pickT rfl rfl) rfl ?_ | refine w_val (v_pickF rfl rfl) rfl ?_
      refine w_val (v_move rfl) rfl ?_
      refine w_skip rfl rfl rfl rfl ?_
      refine w_skip rfl rfl rfl rfl ?_
      refine w_skip rfl rfl rfl rfl ?_
      first | refine w_val (v_pickT rfl rfl) rfl ?_ | refine w_val (v_pickF rfl rfl) rfl ?_
      refine w_nil ?_
      first | refine e_condDT rfl (by omega) ?_ | refine e_condT rfl ?_
      refine e_seq ?_
      refine e_region ?_
      refine w_val (v_assign rfl) rfl ?_
      refine w_nil ?_
      refine e_retQ (q_ret1 rfl (.tmp rfl) ?_)
      exact fun w' hw' => ⟨rfl, hw'.res.nil⟩
end Go.SL

