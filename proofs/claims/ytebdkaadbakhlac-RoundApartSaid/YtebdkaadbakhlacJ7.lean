/- Ytebdkaadbakhlac: part J7 of this seat's own texts. -/
import Derived.Test.YtebdkaadbakhlacJ6
set_option linter.unusedVariables false
set_option linter.unusedSimpArgs false

open Go Go.Proofs Go.SL
set_option maxRecDepth 100000
set_option maxHeartbeats 4000000
namespace Go.SL
theorem g_deedsB {C : Cx} {l : Fr} {m : Hp} {Φ : Act → World → Prop} {G0 : Nat → Prop} {vs : List Value} {r : RoundL} (i : Nat) (hm : m[i]? = some (Blob G0 (DeedsB vs r))) (h : vs.length = r.length → (∀ j (h : j < r.length), ∃ A k, vs[j]? = some (.slice A r[j].length k)) → G C l m Φ) : G C l m Φ := fun a w ha hw =>
  h (hw.mem hm).2.1.1 (fun j hj => let ⟨A, k, h1, _⟩ := (hw.mem hm).2.2.2 j hj; ⟨A, k, h1⟩) a w ha hw
theorem res_put {a : ResL} {i : Nat} {c : Int} {g : List Int} (ha : ∀ x ∈ a, x.2.length = 4) (hg : g.length = 4) (hi : i < a.length) :
    (resL a).take (0 + ((i : Nat) : Int).toNat * 5) ++ (Value.agg (resCells c g).toArray).cells.toList ++ (resL a).drop (0 + ((i : Nat) : Int).toNat * 5 + (Value.agg (resCells c g).toArray).cells.size) = resL (a.set i (c, g)) := by
  have e : (Value.agg (resCells c g).toArray).cells.size = 5 := by simp [Value.cells, resCells, intCells, hg]
  rw [e, ← resL_set a i c g ha hi, Nat.zero_add, Int.toNat_natCast]
  rfl
theorem regs_set {a : ResL} {i : Nat} {x : Int × List Int} (ha : ∀ x ∈ a, x.2.length = 4) (hx : x.2.length = 4) : ∀ y ∈ a.set i x, y.2.length = 4 := fun y hy => by
  rcases List.mem_or_eq_of_mem_set hy with h | h
  · exact ha y h
  · rw [h]; exact hx
theorem own_resB {w : World} {g n k e : Nat} {a : ResL} (h : (Own (.slice (some ⟨g, 0, none⟩) n k) e 5 n (resL a)).holds w) (ha : ∀ x ∈ a, x.2.length = 4) (hl : a.length = n) {i : Nat} (hi : i < n) {x : Int × List Int} (hx : a[i]? = some x) : Cells w.cell? ⟨g, 0 + ((i : Nat) : Int).toNat * 5, none⟩ (resCells x.1 x.2) := by
  have := own_res h ha hl hi hx
  rwa [add_mk] at this
theorem RoundApart_spec (s : List Int) (v vp : Value) (r : RoundL) (p : List Int) (k : Int) (w : World) (h : IsRound w.cell? v r) (hb : ∀ d ∈ r, d.length ≤ 4398046511104) (hs10 : s.length = 10) (hp : IsInts w.cell? vp p) :
    Calls Try.prog 4 #[intsV s, v, vp, .int .i64 k] w fun e w' => e = .returned (.bool true) ∧ Res w [] [] w' := by
  have hsr := h
  rw [← off_none w] at hsr hp
  obtain ⟨A, ka, rfl, hle, hvc⟩ := hsr.form
  obtain ⟨Ap, kp, rfl, hlep, hpc⟩ := hp.form
  have hlz : (intCells s).length = 10 := by rw [intCells, List.length_map]; exact hs10
  refine enter0 (N := 165) Try.func4 rfl rfl rfl ?_
  refine e_seq ?_
  refine e_region ?_
  refine w_op rfl ?_
  refine x_box rfl rfl (fun b4 => ?_)
  refine w_val (v_assign rfl) rfl ?_
  refine w_nil ?_
  refine e_seq ?_
  refine e_seq ?_
  refine e_region ?_
  refine w_op rfl ?_
  refine x_call0 (v := .bool true) rfl rfl rfl Try.call23 rfl (fun w hw => roundBegun_spec w) ?_
  refine w_val (v_not rfl) rfl ?_
  refine w_nil ?_
  refine e_condF rfl ?_
  by_cases hg : greatL r = true
  · refine e_skip ?_
    refine e_seq ?_
    refine e_seq ?_
    refine e_region ?_
    refine w_val (v_move rfl) rfl ?_
    refine w_op rfl ?_
    refine x_call0 (v := .bool true) rfl rfl rfl Try.call24 rfl (fun w hw => by have := great_spec _ r w (hsr.mono hw.off) hb; rwa [hg] at this) ?_
    refine w_val (v_move rfl) rfl ?_
    refine w_skip rfl rfl rfl rfl ?_
    refine w_skip rfl rfl rfl rfl ?_
    refine w_skip rfl rfl rfl rfl ?_
    refine w_val (v_pickT rfl rfl) rfl ?_
    refine w_val (v_move rfl) rfl ?_
    refine w_skip rfl rfl rfl rfl ?_
    refine w_skip rfl rfl rfl rfl ?_
    refine w_skip rfl rfl rfl rfl ?_
    refine w_val (v_pickT rfl rfl) rfl ?_
    refine w_val (v_move rfl) rfl ?_
    refine w_skip rfl rfl rfl rfl ?_
    refine w_skip rfl rfl rfl rfl ?_
    refine w_skip rfl rfl rfl rfl ?_
    refine w_val (v_pickT rfl rfl) rfl ?_
    refine w_nil ?_
    refine e_condT rfl ?_
    refine e_seq ?_
    refine e_region ?_
    refine w_val (v_assign rfl) rfl ?_
    refine w_nil ?_
    refine e_retQ (q_ret1 rfl (.tmp rfl) ?_)
    exact fun w' hw' => ⟨rfl, hw'.res.nil⟩
  · have hg : greatL r = false := by cases h : greatL r with | true => exact absurd h hg | false => rfl
    by_cases h300 : 300 < p.length
    · refine e_skip ?_
      refine e_seq ?_
      refine e_seq ?_
      refine e_region ?_
      refine w_val (v_move rfl) rfl ?_
      refine w_op rfl ?_
      refine x_call0 (v := .bool false) rfl rfl rfl Try.call24 rfl (fun w hw => by have := great_spec _ r w (hsr.mono hw.off) hb; rwa [hg] at this) ?_
      refine w_val (v_move rfl) rfl ?_
      refine w_want rfl rfl ?_
      refine w_val (v_move rfl) rfl ?_
      refine w_want rfl rfl ?_
      refine w_val (v_lenS Try.underlying51 rfl) rfl ?_
      refine w_want rfl rfl ?_
      refine w_val (v_is (v' := .bool true) (v_gtr rfl rfl) (by rw [decide_eq_true (by omega)])) rfl ?_
      refine w_val (v_pickF rfl rfl) rfl ?_
      refine w_val (v_move rfl) rfl ?_
      refine w_skip rfl rfl rfl rfl ?_
      refine w_skip rfl rfl rfl rfl ?_
      refine w_skip rfl rfl rfl rfl ?_
      refine w_val (v_pickT rfl rfl) rfl ?_
      refine w_val (v_move rfl) rfl ?_
      refine w_skip rfl rfl rfl rfl ?_
      refine w_skip rfl rfl rfl rfl ?_
      refine w_skip rfl rfl rfl rfl ?_
      refine w_val (v_pickT rfl rfl) rfl ?_
      refine w_nil ?_
      refine e_condT rfl ?_
      refine e_seq ?_
      refine e_region ?_
      refine w_val (v_assign rfl) rfl ?_
      refine w_nil ?_
      refine e_retQ (q_ret1 rfl (.tmp rfl) ?_)
      exact fun w' hw' => ⟨rfl, hw'.res.nil⟩
    · by_cases h2 : r.length < 2
      · refine e_skip ?_
        refine e_seq ?_
        refine e_seq ?_
        refine e_region ?_
        refine w_val (v_move rfl) rfl ?_
        refine w_op rfl ?_
        refine x_call0 (v := .bool false) rfl rfl rfl Try.call24 rfl (fun w hw => by have := great_spec _ r w (hsr.mono hw.off) hb; rwa [hg] at this) ?_
        refine w_val (v_move rfl) rfl ?_
        refine w_want rfl rfl ?_
        refine w_val (v_move rfl) rfl ?_
        refine w_want rfl rfl ?_
        refine w_val (v_lenS Try.underlying51 rfl) rfl ?_
        refine w_want rfl rfl ?_
        refine w_val (v_is (v' := .bool false) (v_gtr rfl rfl) (by rw [decide_eq_false (by omega)])) rfl ?_
        refine w_val (v_pickF rfl rfl) rfl ?_
        refine w_val (v_move rfl) rfl ?_
        refine w_want rfl rfl ?_
        refine w_val (v_move rfl) rfl ?_
        refine w_want rfl rfl ?_
        refine w_val (v_lenS Try.underlying38 rfl) rfl ?_
        refine w_want rfl rfl ?_
        refine w_val (v_is (v' := .bool true) (v_lss rfl rfl) (by rw [decide_eq_true (by omega)])) rfl ?_
        refine w_val (v_pickF rfl rfl) rfl ?_
        refine w_val (v_move rfl) rfl ?_
        refine w_skip rfl rfl rfl rfl ?_
        refine w_skip rfl rfl rfl rfl ?_
        refine w_skip rfl rfl rfl rfl ?_
        refine w_val (v_pickT rfl rfl) rfl ?_
        refine w_nil ?_
        refine e_condT rfl ?_
        refine e_seq ?_
        refine e_region ?_
        refine w_val (v_assign rfl) rfl ?_
        refine w_nil ?_
        refine e_retQ (q_ret1 rfl (.tmp rfl) ?_)
        exact fun w' hw' => ⟨rfl, hw'.res.nil⟩
      · by_cases hf : roundFaultL r = 0
        · refine e_skip ?_
          refine e_seq ?_
          refine e_seq ?_
          refine e_region ?_
          refine w_val (v_move rfl) rfl ?_
          refine w_op rfl ?_
          refine x_call0 (v := .bool false) rfl rfl rfl Try.call24 rfl (fun w hw => by have := great_spec _ r w (hsr.mono hw.off) hb; rwa [hg] at this) ?_
          refine w_val (v_move rfl) rfl ?_
          refine w_want rfl rfl ?_
          refine w_val (v_move rfl) rfl ?_
          refine w_want rfl rfl ?_
          refine w_val (v_lenS Try.underlying51 rfl) rfl ?_
          refine w_want rfl rfl ?_
          refine w_val (v_is (v' := .bool false) (v_gtr rfl rfl) (by rw [decide_eq_false (by omega)])) rfl ?_
          refine w_val (v_pickF rfl rfl) rfl ?_
          refine w_val (v_move rfl) rfl ?_
          refine w_want rfl rfl ?_
          refine w_val (v_move rfl) rfl ?_
          refine w_want rfl rfl ?_
          refine w_val (v_lenS Try.underlying38 rfl) rfl ?_
          refine w_want rfl rfl ?_
          refine w_val (v_is (v' := .bool false) (v_lss rfl rfl) (by rw [decide_eq_false (by omega)])) rfl ?_
          refine w_val (v_pickF rfl rfl) rfl ?_
          refine w_val (v_move rfl) rfl ?_
          refine w_want rfl rfl ?_
          refine w_val (v_move rfl) rfl ?_
          refine w_want rfl rfl ?_
          refine w_op rfl ?_
          refine x_call0 (v := .int .i64 (roundFaultL r)) rfl rfl rfl Try.call25 rfl (fun w hw => RoundFault_spec _ r w (hsr.mono hw.off)) ?_
          refine w_want rfl rfl ?_
          refine w_val (v_is (v' := .bool false) (v_neq rfl rfl) (by rw [decide_eq_false (fun h => h hf)])) rfl ?_
          refine w_val (v_pickF rfl rfl) rfl ?_
          refine w_nil ?_
          refine e_condF rfl ?_
          obtain ⟨h8, hck⟩ := roundFault_ok hf
          obtain ⟨n1, hn1⟩ : ∃ n1, r.length = n1 + 1 := ⟨r.length - 1, by omega⟩
          obtain ⟨kk, hkk, hkm⟩ := u64_rem' k (show 0 < n1 by omega)
          have hk0 : kk < r.length := by omega
          have hk1 : kk + 1 < r.length := by omega
          obtain ⟨ad, u0, rfl, hcell0, hud0⟩ := hvc kk hk0
          obtain ⟨ad', u1, hA', hcell1, hud1⟩ := hvc (kk + 1) hk1
          injection hA' with hA'
          subst hA'
          have hck0 := hck _ (List.getElem_mem hk0)
          have hck1 := hck _ (List.getElem_mem hk1)
          have hb0 := hb _ (List.getElem_mem hk0)
          have hb1 := hb _ (List.getElem_mem hk1)
          have hga : r.getD kk [] = r[kk] := by simp [List.getD, hk0]
          have hgb : r.getD (kk + 1) [] = r[kk + 1] := by simp [List.getD, hk1]
          generalize r[kk] = da at *
          generalize r[kk + 1] = db at *
          refine e_skip ?_
          refine e_seq ?_
          refine e_region ?_
          refine w_val (v_move rfl) rfl ?_
          refine w_val (v_conv Try.underlying54 (by rw [Try.underlying3]; rfl) rfl) rfl ?_
          refine w_val (v_move rfl) rfl ?_
          refine w_val (v_lenS Try.underlying38 rfl) rfl ?_
          refine w_val (v_is (v' := .int .i64 ((n1 : Nat) : Int)) (v_sub rfl rfl (by omega)) (by rw [show ((r.length : Nat) : Int) - 1 = ((n1 : Nat) : Int) from by omega])) rfl ?_
          refine w_val (v_is (v' := .int .u64 ((n1 : Nat) : Int)) (v_conv Try.underlying54 (by rw [Try.underlying3]; rfl) rfl) (by rw [wrap_u64 (by omega) (by omega)])) rfl ?_
          refine w_val (v_is (v' := .int .u64 (kk : Int)) (v_rem rfl rfl (by omega)) (by rw [hkm])) rfl ?_
          refine w_val (v_is (v' := .int .i64 (kk : Int)) (v_conv Try.underlying3 (by rw [Try.underlying54]; rfl) rfl) (by rw [wrap_i64 (by omega) (by omega)])) rfl ?_
          refine w_val (v_assign rfl) rfl ?_
          refine w_nil ?_
          refine e_seq ?_
          refine e_seq ?_
          refine e_region ?_
          refine w_val (v_assign rfl) rfl ?_
          refine w_nil ?_
          refine e_block ?_
          refine e_loopK (σ := Nat) [1, 2, 3, 4] (.cons rfl (.cons rfl (.cons rfl (.cons rfl .nil)))) (fun i => [(9, .int .i64 (i : Int))]) (fun i => i ≤ 10 ∧ ∀ j : Nat, j < i → apartK da db j) (fun i => 10 - i) 0 ⟨Nat.zero_le _, fun j hj => by omega⟩ (by repeat (first | exact Sub.nil _ | refine Sub.cons rfl ?_)) ?_
          rintro i ⟨hi, hap⟩
          refine e_seq ?_
          refine e_seq ?_
          refine e_region ?_
          refine w_val (v_move rfl) rfl ?_
          refine w_val (v_lss rfl rfl) rfl ?_
          refine w_nil ?_
          refine e_condD rfl (fun hlt => ?_) (fun hlt => ?_)
          · have hi' : i < 10 := by omega
            have hnext : apartK da db i → ∀ j : Nat, j < i + 1 → apartK da db j := fun h j hj => by
              by_cases e : j = i
              · subst e; exact h
              · exact hap j (by omega)
            refine e_skip ?_
            refine e_seq ?_
            refine e_block ?_
            refine e_seq ?_
            refine e_draw ([]) Try.mixed ?_
            refine a_take 0 pan_cx (by kernel_rfl) (fun _ hw => hw.sub (by repeat (first | exact List.Sublist.slnil | exact List.Sublist.refl _ | apply List.Sublist.cons_cons | apply List.Sublist.cons))) rfl (by kernel_rfl) (by kernel_rfl) (v_move rfl) rfl ?_
            refine a_take 1 pan_cx (by kernel_rfl) (fun _ hw => hw.sub (by repeat (first | exact List.Sublist.slnil | exact List.Sublist.refl _ | apply List.Sublist.cons_cons | apply List.Sublist.cons))) rfl (by kernel_rfl) (by kernel_rfl) (v_move rfl) rfl ?_
            refine a_take 2 pan_cx (by kernel_rfl) (fun _ hw => hw.sub (by repeat (first | exact List.Sublist.slnil | exact List.Sublist.refl _ | apply List.Sublist.cons_cons | apply List.Sublist.cons))) rfl (by kernel_rfl) (by kernel_rfl) (v_indexS Try.underlying38 Try.hi25 Try.cz25 rfl rfl (by first | omega | decide)) rfl ?_
            refine a_take 3 pan_cx (by kernel_rfl) (fun _ hw => hw.sub (by repeat (first | exact List.Sublist.slnil | exact List.Sublist.refl _ | apply List.Sublist.cons_cons | apply List.Sublist.cons))) rfl (by kernel_rfl) (by kernel_rfl) (v_loadO Try.underlying25 rfl rfl (hcell0)) rfl ?_
            refine a_take 4 pan_cx (by kernel_rfl) (fun _ hw => hw.sub (by repeat (first | exact List.Sublist.slnil | exact List.Sublist.refl _ | apply List.Sublist.cons_cons | apply List.Sublist.cons))) rfl (by kernel_rfl) (by kernel_rfl) (v_move rfl) rfl ?_
            refine a_take 6 pan_cx (by kernel_rfl) (fun _ hw => hw.sub (by repeat (first | exact List.Sublist.slnil | exact List.Sublist.refl _ | apply List.Sublist.cons_cons | apply List.Sublist.cons))) rfl (by kernel_rfl) (by kernel_rfl) (v_move rfl) rfl ?_
            refine a_take 7 pan_cx (by kernel_rfl) (fun _ hw => hw.sub (by repeat (first | exact List.Sublist.slnil | exact List.Sublist.refl _ | apply List.Sublist.cons_cons | apply List.Sublist.cons))) rfl (by kernel_rfl) (by kernel_rfl) (v_move rfl) rfl ?_
            refine a_take 8 pan_cx (by kernel_rfl) (fun _ hw => hw.sub (by repeat (first | exact List.Sublist.slnil | exact List.Sublist.refl _ | apply List.Sublist.cons_cons | apply List.Sublist.cons))) rfl (by kernel_rfl) (by kernel_rfl) (v_is (v' := .int .i64 ((kk + 1 : Nat) : Int)) (v_add rfl rfl (by omega)) rfl) rfl ?_
            refine a_take 9 pan_cx (by kernel_rfl) (fun _ hw => hw.sub (by repeat (first | exact List.Sublist.slnil | exact List.Sublist.refl _ | apply List.Sublist.cons_cons | apply List.Sublist.cons))) rfl (by kernel_rfl) (by kernel_rfl) (v_indexS Try.underlying38 Try.hi25 Try.cz25 rfl rfl (by first | omega | decide)) rfl ?_
            refine a_take 10 pan_cx (by kernel_rfl) (fun _ hw => hw.sub (by repeat (first | exact List.Sublist.slnil | exact List.Sublist.refl _ | apply List.Sublist.cons_cons | apply List.Sublist.cons))) rfl (by kernel_rfl) (by kernel_rfl) (v_loadO Try.underlying25 rfl rfl (hcell1)) rfl ?_
            refine a_take 11 pan_cx (by kernel_rfl) (fun _ hw => hw.sub (by repeat (first | exact List.Sublist.slnil | exact List.Sublist.refl _ | apply List.Sublist.cons_cons | apply List.Sublist.cons))) rfl (by kernel_rfl) (by kernel_rfl) (v_move rfl) rfl ?_
            refine a_one 5 (by kernel_rfl) rfl rfl ?_
            refine x_call0 (v := .bool (storesL da i)) rfl rfl rfl Try.call26 rfl (fun w hw => stores_spec u0 da i w (hud0.mono hw.off) hb0) ?_
            refine a_and (fun _ hw => hw.sub (by repeat (first | exact List.Sublist.slnil | exact List.Sublist.refl _ | apply List.Sublist.cons_cons | apply List.Sublist.cons))) ?_
            refine a_one 12 (by kernel_rfl) rfl rfl ?_
            refine x_call0 (v := .bool (storesL db i)) rfl rfl rfl Try.call26 rfl (fun w hw => stores_spec u1 db i w (hud1.mono hw.off) hb1) ?_
            refine a_and (fun _ hw => hw.sub (by repeat (first | exact List.Sublist.slnil | exact List.Sublist.refl _ | apply List.Sublist.cons_cons | apply List.Sublist.cons))) ?_
            refine a_take 13 pan_cx (by kernel_rfl) (fun _ hw => hw.sub (by repeat (first | exact List.Sublist.slnil | exact List.Sublist.refl _ | apply List.Sublist.cons_cons | apply List.Sublist.cons))) rfl (by kernel_rfl) (by kernel_rfl) (v_assign rfl) rfl ?_
            refine a_take 14 pan_cx (by kernel_rfl) (fun _ hw => hw.sub (by repeat (first | exact List.Sublist.slnil | exact List.Sublist.refl _ | apply List.Sublist.cons_cons | apply List.Sublist.cons))) rfl (by kernel_rfl) (by kernel_rfl) (v_assign rfl) rfl ?_
            refine a_done (by kernel_rfl) ?_
            cases hsa : storesL da i with
            | true =>
              cases hsb : storesL db i with
              | true =>
                refine e_seq ?_
                refine e_region ?_
                refine w_val (v_move rfl) rfl ?_
                refine w_val (v_move rfl) rfl ?_
                refine w_want rfl rfl ?_
                refine w_val (v_move rfl) rfl ?_
                refine w_want rfl rfl ?_
                refine w_val (v_move rfl) rfl ?_
                refine w_skip rfl rfl rfl rfl ?_
                refine w_skip rfl rfl rfl rfl ?_
                refine w_skip rfl rfl rfl rfl ?_
                refine w_skip rfl rfl rfl rfl ?_
                refine w_skip rfl rfl rfl rfl ?_
                refine w_skip rfl rfl rfl rfl ?_
                refine w_skip rfl rfl rfl rfl ?_
                refine w_want rfl rfl ?_
                refine w_val (v_pickT rfl rfl) rfl ?_
                refine w_val (v_pickT rfl rfl) rfl ?_
                refine w_val (v_move rfl) rfl ?_
                refine w_skip rfl rfl rfl rfl ?_
                refine w_skip rfl rfl rfl rfl ?_
                refine w_skip rfl rfl rfl rfl ?_
                refine w_skip rfl rfl rfl rfl ?_
                refine w_skip rfl rfl rfl rfl ?_
                refine w_skip rfl rfl rfl rfl ?_
                refine w_skip rfl rfl rfl rfl ?_
                refine w_skip rfl rfl rfl rfl ?_
                refine w_skip rfl rfl rfl rfl ?_
                refine w_val (v_pickT rfl rfl) rfl ?_
                refine w_nil ?_
                refine e_condT rfl ?_
                refine e_seq ?_
                refine e_region ?_
                refine w_val (v_assign rfl) rfl ?_
                refine w_nil ?_
                refine e_retQ (q_ret1 rfl (.tmp rfl) ?_)
                exact fun w' hw' => ⟨rfl, hw'.res.nil⟩
              | false =>
                cases hlb : loadsL db i with
                | true =>
                  refine e_seq ?_
                  refine e_region ?_
                  refine w_val (v_move rfl) rfl ?_
                  refine w_val (v_move rfl) rfl ?_
                  refine w_want rfl rfl ?_
                  refine w_val (v_move rfl) rfl ?_
                  refine w_want rfl rfl ?_
                  refine w_val (v_move rfl) rfl ?_
                  refine w_want rfl rfl ?_
                  refine w_val (v_move rfl) rfl ?_
                  refine w_want rfl rfl ?_
                  refine w_val (v_move rfl) rfl ?_
                  refine w_want rfl rfl ?_
                  refine w_val (v_is (v' := .int .i64 ((kk + 1 : Nat) : Int)) (v_add rfl rfl (by omega)) rfl) rfl ?_
                  refine w_want rfl rfl ?_
                  refine w_val (v_indexS Try.underlying38 Try.hi25 Try.cz25 rfl rfl (by first | omega | decide)) rfl ?_
                  refine w_want rfl rfl ?_
                  refine w_val (v_loadO Try.underlying25 rfl rfl (hcell1)) rfl ?_
                  refine w_want rfl rfl ?_
                  refine w_val (v_move rfl) rfl ?_
                  refine w_want rfl rfl ?_
                  refine w_op rfl ?_
                  refine x_call0 (v := .bool true) rfl rfl rfl Try.call27 rfl (fun w hw => by have := loads_spec u1 db i w (hud1.mono hw.off) hb1; rwa [hlb] at this) ?_
                  refine w_want rfl rfl ?_
                  refine w_val (v_pickF rfl rfl) rfl ?_
                  refine w_val (v_pickT rfl rfl) rfl ?_
                  refine w_val (v_move rfl) rfl ?_
                  refine w_skip rfl rfl rfl rfl ?_
                  refine w_skip rfl rfl rfl rfl ?_
                  refine w_skip rfl rfl rfl rfl ?_
                  refine w_skip rfl rfl rfl rfl ?_
                  refine w_skip rfl rfl rfl rfl ?_
                  refine w_skip rfl rfl rfl rfl ?_
                  refine w_skip rfl rfl rfl rfl ?_
                  refine w_skip rfl rfl rfl rfl ?_
                  refine w_skip rfl rfl rfl rfl ?_
                  refine w_val (v_pickT rfl rfl) rfl ?_
                  refine w_nil ?_
                  refine e_condT rfl ?_
                  refine e_seq ?_
                  refine e_region ?_
                  refine w_val (v_assign rfl) rfl ?_
                  refine w_nil ?_
                  refine e_retQ (q_ret1 rfl (.tmp rfl) ?_)
                  exact fun w' hw' => ⟨rfl, hw'.res.nil⟩
                | false =>
                  refine e_seq ?_
                  refine e_region ?_
                  refine w_val (v_move rfl) rfl ?_
                  refine w_val (v_move rfl) rfl ?_
                  refine w_want rfl rfl ?_
                  refine w_val (v_move rfl) rfl ?_
                  refine w_want rfl rfl ?_
                  refine w_val (v_move rfl) rfl ?_
                  refine w_want rfl rfl ?_
                  refine w_val (v_move rfl) rfl ?_
                  refine w_want rfl rfl ?_
                  refine w_val (v_move rfl) rfl ?_
                  refine w_want rfl rfl ?_
                  refine w_val (v_is (v' := .int .i64 ((kk + 1 : Nat) : Int)) (v_add rfl rfl (by omega)) rfl) rfl ?_
                  refine w_want rfl rfl ?_
                  refine w_val (v_indexS Try.underlying38 Try.hi25 Try.cz25 rfl rfl (by first | omega | decide)) rfl ?_
                  refine w_want rfl rfl ?_
                  refine w_val (v_loadO Try.underlying25 rfl rfl (hcell1)) rfl ?_
                  refine w_want rfl rfl ?_
                  refine w_val (v_move rfl) rfl ?_
                  refine w_want rfl rfl ?_
                  refine w_op rfl ?_
                  refine x_call0 (v := .bool false) rfl rfl rfl Try.call27 rfl (fun w hw => by have := loads_spec u1 db i w (hud1.mono hw.off) hb1; rwa [hlb] at this) ?_
                  refine w_want rfl rfl ?_
                  refine w_val (v_pickF rfl rfl) rfl ?_
                  refine w_val (v_pickT rfl rfl) rfl ?_
                  refine w_val (v_move rfl) rfl ?_
                  refine w_want rfl rfl ?_
                  refine w_val (v_move rfl) rfl ?_
                  refine w_want rfl rfl ?_
                  refine w_val (v_move rfl) rfl ?_
                  refine w_skip rfl rfl rfl rfl ?_
                  refine w_skip rfl rfl rfl rfl ?_
                  refine w_skip rfl rfl rfl rfl ?_
                  refine w_skip rfl rfl rfl rfl ?_
                  refine w_skip rfl rfl rfl rfl ?_
                  refine w_skip rfl rfl rfl rfl ?_
                  refine w_want rfl rfl ?_
                  refine w_val (v_pickF rfl rfl) rfl ?_
                  refine w_val (v_pickF rfl rfl) rfl ?_
                  refine w_nil ?_
                  refine e_condF rfl ?_
                  refine e_skip ?_
                  refine e_blk ?_
                  refine e_region ?_
                  refine w_val (v_move rfl) rfl ?_
                  refine w_val (v_add rfl rfl (by omega)) rfl ?_
                  refine w_val (v_assign rfl) rfl ?_
                  refine w_nil ?_
                  exact e_round (i + 1) (⟨by omega, hnext ⟨fun h => by rw [hsb, hlb] at h; simp at h, fun h => by rw [hsb] at h; simp at h⟩⟩) (by omega) (by repeat (first | exact Sub.nil _ | refine Sub.cons rfl ?_)) (fun _ hw => hw)
            | false =>
              cases hsb : storesL db i with
              | true =>
                cases hla : loadsL da i with
                | true =>
                  refine e_seq ?_
                  refine e_region ?_
                  refine w_val (v_move rfl) rfl ?_
                  refine w_val (v_move rfl) rfl ?_
                  refine w_skip rfl rfl rfl rfl ?_
                  refine w_skip rfl rfl rfl rfl ?_
                  refine w_skip rfl rfl rfl rfl ?_
                  refine w_skip rfl rfl rfl rfl ?_
                  refine w_skip rfl rfl rfl rfl ?_
                  refine w_skip rfl rfl rfl rfl ?_
                  refine w_skip rfl rfl rfl rfl ?_
                  refine w_skip rfl rfl rfl rfl ?_
                  refine w_skip rfl rfl rfl rfl ?_
                  refine w_skip rfl rfl rfl rfl ?_
                  refine w_val (v_pickF rfl rfl) rfl ?_
                  refine w_val (v_move rfl) rfl ?_
                  refine w_want rfl rfl ?_
                  refine w_val (v_move rfl) rfl ?_
                  refine w_want rfl rfl ?_
                  refine w_val (v_move rfl) rfl ?_
                  refine w_want rfl rfl ?_
                  refine w_val (v_move rfl) rfl ?_
                  refine w_want rfl rfl ?_
                  refine w_val (v_move rfl) rfl ?_
                  refine w_want rfl rfl ?_
                  refine w_val (v_indexS Try.underlying38 Try.hi25 Try.cz25 rfl rfl (by first | omega | decide)) rfl ?_
                  refine w_want rfl rfl ?_
                  refine w_val (v_loadO Try.underlying25 rfl rfl (hcell0)) rfl ?_
                  refine w_want rfl rfl ?_
                  refine w_val (v_move rfl) rfl ?_
                  refine w_want rfl rfl ?_
                  refine w_op rfl ?_
                  refine x_call0 (v := .bool true) rfl rfl rfl Try.call27 rfl (fun w hw => by have := loads_spec u0 da i w (hud0.mono hw.off) hb0; rwa [hla] at this) ?_
                  refine w_want rfl rfl ?_
                  refine w_val (v_pickT rfl rfl) rfl ?_
                  refine w_val (v_pickF rfl rfl) rfl ?_
                  refine w_nil ?_
                  refine e_condT rfl ?_
                  refine e_seq ?_
                  refine e_region ?_
                  refine w_val (v_assign rfl) rfl ?_
                  refine w_nil ?_
                  refine e_retQ (q_ret1 rfl (.tmp rfl) ?_)
                  exact fun w' hw' => ⟨rfl, hw'.res.nil⟩
                | false =>
                  refine e_seq ?_
                  refine e_region ?_
                  refine w_val (v_move rfl) rfl ?_
                  refine w_val (v_move rfl) rfl ?_
                  refine w_skip rfl rfl rfl rfl ?_
                  refine w_skip rfl rfl rfl rfl ?_
                  refine w_skip rfl rfl rfl rfl ?_
                  refine w_skip rfl rfl rfl rfl ?_
                  refine w_skip rfl rfl rfl rfl ?_
                  refine w_skip rfl rfl rfl rfl ?_
                  refine w_skip rfl rfl rfl rfl ?_
                  refine w_skip rfl rfl rfl rfl ?_
                  refine w_skip rfl rfl rfl rfl ?_
                  refine w_skip rfl rfl rfl rfl ?_
                  refine w_val (v_pickF rfl rfl) rfl ?_
                  refine w_val (v_move rfl) rfl ?_
                  refine w_want rfl rfl ?_
                  refine w_val (v_move rfl) rfl ?_
                  refine w_want rfl rfl ?_
                  refine w_val (v_move rfl) rfl ?_
                  refine w_want rfl rfl ?_
                  refine w_val (v_move rfl) rfl ?_
                  refine w_want rfl rfl ?_
                  refine w_val (v_move rfl) rfl ?_
                  refine w_want rfl rfl ?_
                  refine w_val (v_indexS Try.underlying38 Try.hi25 Try.cz25 rfl rfl (by first | omega | decide)) rfl ?_
                  refine w_want rfl rfl ?_
                  refine w_val (v_loadO Try.underlying25 rfl rfl (hcell0)) rfl ?_
                  refine w_want rfl rfl ?_
                  refine w_val (v_move rfl) rfl ?_
                  refine w_want rfl rfl ?_
                  refine w_op rfl ?_
                  refine x_call0 (v := .bool false) rfl rfl rfl Try.call27 rfl (fun w hw => by have := loads_spec u0 da i w (hud0.mono hw.off) hb0; rwa [hla] at this) ?_
                  refine w_want rfl rfl ?_
                  refine w_val (v_pickT rfl rfl) rfl ?_
                  refine w_val (v_pickF rfl rfl) rfl ?_
                  refine w_nil ?_
                  refine e_condF rfl ?_
                  refine e_skip ?_
                  refine e_blk ?_
                  refine e_region ?_
                  refine w_val (v_move rfl) rfl ?_
                  refine w_val (v_add rfl rfl (by omega)) rfl ?_
                  refine w_val (v_assign rfl) rfl ?_
                  refine w_nil ?_
                  exact e_round (i + 1) (⟨by omega, hnext ⟨fun h => by rw [hsa] at h; simp at h, fun h => by rw [hla] at h; simp at h⟩⟩) (by omega) (by repeat (first | exact Sub.nil _ | refine Sub.cons rfl ?_)) (fun _ hw => hw)
              | false =>
                refine e_seq ?_
                refine e_region ?_
                refine w_val (v_move rfl) rfl ?_
                refine w_val (v_move rfl) rfl ?_
                refine w_skip rfl rfl rfl rfl ?_
                refine w_skip rfl rfl rfl rfl ?_
                refine w_skip rfl rfl rfl rfl ?_
                refine w_skip rfl rfl rfl rfl ?_
                refine w_skip rfl rfl rfl rfl ?_
                refine w_skip rfl rfl rfl rfl ?_
                refine w_skip rfl rfl rfl rfl ?_
                refine w_skip rfl rfl rfl rfl ?_
                refine w_skip rfl rfl rfl rfl ?_
                refine w_skip rfl rfl rfl rfl ?_
                refine w_val (v_pickF rfl rfl) rfl ?_
                refine w_val (v_move rfl) rfl ?_
                refine w_want rfl rfl ?_
                refine w_val (v_move rfl) rfl ?_
                refine w_want rfl rfl ?_
                refine w_val (v_move rfl) rfl ?_
                refine w_skip rfl rfl rfl rfl ?_
                refine w_skip rfl rfl rfl rfl ?_
                refine w_skip rfl rfl rfl rfl ?_
                refine w_skip rfl rfl rfl rfl ?_
                refine w_skip rfl rfl rfl rfl ?_
                refine w_skip rfl rfl rfl rfl ?_
                refine w_want rfl rfl ?_
                refine w_val (v_pickF rfl rfl) rfl ?_
                refine w_val (v_pickF rfl rfl) rfl ?_
                refine w_nil ?_
                refine e_condF rfl ?_
                refine e_skip ?_
                refine e_blk ?_
                refine e_region ?_
                refine w_val (v_move rfl) rfl ?_
                refine w_val (v_add rfl rfl (by omega)) rfl ?_
                refine w_val (v_assign rfl) rfl ?_
                refine w_nil ?_
                exact e_round (i + 1) (⟨by omega, hnext ⟨fun h => by rw [hsa] at h; simp at h, fun h => by rw [hsb] at h; simp at h⟩⟩) (by omega) (by repeat (first | exact Sub.nil _ | refine Sub.cons rfl ?_)) (fun _ hw => hw)
          · have hapart := apart_all hck0 hck1 (fun j hj => hap j (by omega))
            rw [← hga, ← hgb] at hapart
            obtain ⟨hstw, _, _, _⟩ := stAt_swap hs10 hf hk1 hapart
            have hras := resAll_swap hs10 hf hk1 hapart
            have hf2 := swap_fault hk1 hf
            have hst2 : stAt s (swapL r kk) (swapL r kk).length = stAt s r r.length := by rw [swap_len]; exact hstw _ (by omega)
            have hzl := stAt_len (r := r) hs10 r.length
            have hrar := resAll_regs hs10 r
            have hral := resAll_len s r
            obtain ⟨h60, h500⟩ := great_not hg
            have hrun := fun (w1 : World) (hl : Le (off w (feet [])) w1.cell?) => rdRun_ok s _ _ r p w1 (hsr.mono hl) hs10 (Rds.mono hl hp) hf (by omega)
            have hrun2 := fun (w1 : World) (hl : Le (off w (feet [])) w1.cell?) (v1 : Value) (hv1 : IsRound w1.cell? v1 (swapL r kk)) => rdRun_ok s v1 _ (swapL r kk) p w1 hv1 hs10 (Rds.mono hl hp) hf2 (by omega)
            rw [hst2, swap_len, hras] at hrun2
            generalize stAt s r r.length = z at *
            obtain ⟨z0, z1, z2, z3, z4, z5, z6, z7, z8, z9, rfl⟩ := list10 hzl
            refine e_exit rfl ?_
            refine e_seq ?_
            refine e_region ?_
            refine w_val (v_move rfl) rfl ?_
            refine w_op rfl ?_
            refine x_call (dst := some 88) (mc := []) (σ := (Option Addr × Nat) × List Value × (Nat → Prop)) (fun _ => True) (fun s => .slice s.1.1 r.length s.1.2) (fun s => [Own (.slice s.1.1 r.length s.1.2) 25 1 r.length s.2.1, Blob s.2.2 (DeedsB s.2.1 r)]) rfl rfl rfl Try.call28 (fun w hw => refOwnW_spec _ r w (hsr.mono hw.off) h60 h500) rfl (fun so _ => ?_)
            obtain ⟨⟨Ao, ko⟩, us, Gb⟩ := so
            dsimp only
            refine g_shapeW 0 rfl (by omega) fun gm km hvm hkm2 => ?_
            injection hvm with e1 _ e2
            subst e1
            subst e2
            refine g_deedsB 1 rfl fun hul hud => ?_
            obtain ⟨Ax, kx, hux⟩ := hud kk hk0
            obtain ⟨Ay, ky, huy⟩ := hud (kk + 1) hk1
            generalize r[kk].length = lx at *
            generalize r[kk + 1].length = ly at *
            refine w_val (v_assign rfl) rfl ?_
            refine w_nil ?_
            refine e_seq ?_
            refine e_cutH (σ := Unit) [1, 2, 3, 4, 12] (.cons rfl (.cons rfl (.cons rfl (.cons rfl (.cons rfl .nil))))) (fun _ => []) (fun _ => [Own (.slice (some ⟨gm, 0, none⟩) r.length ko) 25 1 r.length (swapL us kk), Blob Gb (DeedsB us r), .blk b4 23 (intCells s)]) (fun _ => True) ?_ ?_
            · refine e_draw ([]) Try.mixed ?_
              refine a_take 0 pan_cx (by kernel_rfl) (fun _ hw => hw.sub (by repeat (first | exact List.Sublist.slnil | exact List.Sublist.refl _ | apply List.Sublist.cons_cons | apply List.Sublist.cons))) rfl (by kernel_rfl) (by kernel_rfl) (v_move rfl) rfl ?_
              refine a_take 1 pan_cx (by kernel_rfl) (fun _ hw => hw.sub (by repeat (first | exact List.Sublist.slnil | exact List.Sublist.refl _ | apply List.Sublist.cons_cons | apply List.Sublist.cons))) rfl (by kernel_rfl) (by kernel_rfl) (v_move rfl) rfl ?_
              refine a_take 2 pan_cx (by kernel_rfl) (fun _ hw => hw.sub (by repeat (first | exact List.Sublist.slnil | exact List.Sublist.refl _ | apply List.Sublist.cons_cons | apply List.Sublist.cons))) rfl (by kernel_rfl) (by kernel_rfl) (v_move rfl) rfl ?_
              refine a_take 3 pan_cx (by kernel_rfl) (fun _ hw => hw.sub (by repeat (first | exact List.Sublist.slnil | exact List.Sublist.refl _ | apply List.Sublist.cons_cons | apply List.Sublist.cons))) rfl (by kernel_rfl) (by kernel_rfl) (v_move rfl) rfl ?_
              refine a_take 4 pan_cx (by kernel_rfl) (fun _ hw => hw.sub (by repeat (first | exact List.Sublist.slnil | exact List.Sublist.refl _ | apply List.Sublist.cons_cons | apply List.Sublist.cons))) rfl (by kernel_rfl) (by kernel_rfl) (v_is (v' := .int .i64 ((kk + 1 : Nat) : Int)) (v_add rfl rfl (by omega)) rfl) rfl ?_
              refine a_take 5 pan_cx (by kernel_rfl) (fun _ hw => hw.sub (by repeat (first | exact List.Sublist.slnil | exact List.Sublist.refl _ | apply List.Sublist.cons_cons | apply List.Sublist.cons))) rfl (by kernel_rfl) (by kernel_rfl) (v_move rfl) rfl ?_
              refine a_take 6 pan_cx (by kernel_rfl) (fun _ hw => hw.sub (by repeat (first | exact List.Sublist.slnil | exact List.Sublist.refl _ | apply List.Sublist.cons_cons | apply List.Sublist.cons))) rfl (by kernel_rfl) (by kernel_rfl) (v_move rfl) rfl ?_
              refine a_take 7 pan_cx (by kernel_rfl) (fun _ hw => hw.sub (by repeat (first | exact List.Sublist.slnil | exact List.Sublist.refl _ | apply List.Sublist.cons_cons | apply List.Sublist.cons))) rfl (by kernel_rfl) (by kernel_rfl) (v_is (v' := .int .i64 ((kk + 1 : Nat) : Int)) (v_add rfl rfl (by omega)) rfl) rfl ?_
              refine a_take 8 pan_cx (by kernel_rfl) (fun _ hw => hw.sub (by repeat (first | exact List.Sublist.slnil | exact List.Sublist.refl _ | apply List.Sublist.cons_cons | apply List.Sublist.cons))) rfl (by kernel_rfl) (by kernel_rfl) (v_indexSB Try.underlying38 Try.hi25 Try.cz25 rfl rfl (by first | omega | decide)) rfl ?_
              refine a_take 10 pan_cx (by kernel_rfl) (fun _ hw => hw.sub (by repeat (first | exact List.Sublist.slnil | exact List.Sublist.refl _ | apply List.Sublist.cons_cons | apply List.Sublist.cons))) rfl (by kernel_rfl) (by kernel_rfl) (v_move rfl) rfl ?_
              refine a_take 11 pan_cx (by kernel_rfl) (fun _ hw => hw.sub (by repeat (first | exact List.Sublist.slnil | exact List.Sublist.refl _ | apply List.Sublist.cons_cons | apply List.Sublist.cons))) rfl (by kernel_rfl) (by kernel_rfl) (v_move rfl) rfl ?_
              refine a_take 12 pan_cx (by kernel_rfl) (fun _ hw => hw.sub (by repeat (first | exact List.Sublist.slnil | exact List.Sublist.refl _ | apply List.Sublist.cons_cons | apply List.Sublist.cons))) rfl (by kernel_rfl) (by kernel_rfl) (v_indexSB Try.underlying38 Try.hi25 Try.cz25 rfl rfl (by first | omega | decide)) rfl ?_
              refine a_all [9, 13] (by kernel_rfl) rfl ?_
              intro i hi
              simp only [List.mem_cons, List.not_mem_nil, or_false] at hi
              rcases hi with rfl | rfl
              · refine a_op rfl rfl ?_
                refine x_val (v_loadW2 (j := 0 + ((kk + 1 : Nat) : Int).toNat * 1) 0 rfl (by rw [Int.toNat_natCast, Nat.mul_one, Nat.zero_add]; exact huy) Try.underlying25 rfl rfl) rfl ?_
                refine a_and (fun _ hw => hw.sub (by repeat (first | exact List.Sublist.slnil | exact List.Sublist.refl _ | apply List.Sublist.cons_cons | apply List.Sublist.cons))) ?_
                refine a_one 13 (by kernel_rfl) rfl rfl ?_
                refine x_val (v_loadW2 (j := 0 + ((kk : Nat) : Int).toNat * 1) 0 rfl (by rw [Int.toNat_natCast, Nat.mul_one, Nat.zero_add]; exact hux) Try.underlying25 rfl rfl) rfl ?_
                refine a_and (fun _ hw => hw.sub (by repeat (first | exact List.Sublist.slnil | exact List.Sublist.refl _ | apply List.Sublist.cons_cons | apply List.Sublist.cons))) ?_
                refine a_take 14 pan_cx (by kernel_rfl) (fun _ hw => hw.sub (by repeat (first | exact List.Sublist.slnil | exact List.Sublist.refl _ | apply List.Sublist.cons_cons | apply List.Sublist.cons))) rfl (by kernel_rfl) (by kernel_rfl) (v_indexSB Try.underlying38 Try.hi25 Try.cz25 rfl rfl (by first | omega | decide)) rfl ?_
                refine a_one 15 (by kernel_rfl) rfl rfl ?_
                refine x_storeW (v := .slice Ay ly ky) (o := 0 + ((kk : Nat) : Int).toNat * 1) 0 rfl rfl rfl Try.hi25 Try.cz25 (by simp [Value.cells]; omega) (by simp [Value.cells, Value.oneCell']) _ (take_set_drop rfl (by simp; omega)) ?_
                refine a_and (fun _ hw => hw.sub (by repeat (first | exact List.Sublist.slnil | exact List.Sublist.refl _ | apply List.Sublist.cons_cons | apply List.Sublist.cons))) ?_
                refine a_take 16 pan_cx (by kernel_rfl) (fun _ hw => hw.sub (by repeat (first | exact List.Sublist.slnil | exact List.Sublist.refl _ | apply List.Sublist.cons_cons | apply List.Sublist.cons))) rfl (by kernel_rfl) (by kernel_rfl) (v_indexSB Try.underlying38 Try.hi25 Try.cz25 rfl rfl (by first | omega | decide)) rfl ?_
                refine a_one 17 (by kernel_rfl) rfl rfl ?_
                refine x_storeW (v := .slice Ax lx kx) (o := 0 + ((kk + 1 : Nat) : Int).toNat * 1) 0 rfl rfl rfl Try.hi25 Try.cz25 (by simp [Value.cells]; omega) (by simp [Value.cells, Value.oneCell']) _ (take_set_drop rfl (by simp; omega)) ?_
                refine a_and (fun _ hw => hw.sub (by repeat (first | exact List.Sublist.slnil | exact List.Sublist.refl _ | apply List.Sublist.cons_cons | apply List.Sublist.cons))) ?_
                refine a_done (by kernel_rfl) ?_
                exact e_cutEnd () trivial (by repeat (first | exact Sub.nil _ | refine Sub.cons rfl ?_)) (fun _ hw => by simp only [Nat.zero_add, Nat.mul_one, Int.toNat_natCast, List.set_cons_zero] at hw; first | (rw [swap_eq hux huy] at hw; exact hw) | (rw [swap_eq2 hux huy] at hw; exact hw))
              · refine a_op rfl rfl ?_
                refine x_val (v_loadW2 (j := 0 + ((kk : Nat) : Int).toNat * 1) 0 rfl (by rw [Int.toNat_natCast, Nat.mul_one, Nat.zero_add]; exact hux) Try.underlying25 rfl rfl) rfl ?_
                refine a_and (fun _ hw => hw.sub (by repeat (first | exact List.Sublist.slnil | exact List.Sublist.refl _ | apply List.Sublist.cons_cons | apply List.Sublist.cons))) ?_
                refine a_one 9 (by kernel_rfl) rfl rfl ?_
                refine x_val (v_loadW2 (j := 0 + ((kk + 1 : Nat) : Int).toNat * 1) 0 rfl (by rw [Int.toNat_natCast, Nat.mul_one, Nat.zero_add]; exact huy) Try.underlying25 rfl rfl) rfl ?_
                refine a_and (fun _ hw => hw.sub (by repeat (first | exact List.Sublist.slnil | exact List.Sublist.refl _ | apply List.Sublist.cons_cons | apply List.Sublist.cons))) ?_
                refine a_take 14 pan_cx (by kernel_rfl) (fun _ hw => hw.sub (by repeat (first | exact List.Sublist.slnil | exact List.Sublist.refl _ | apply List.Sublist.cons_cons | apply List.Sublist.cons))) rfl (by kernel_rfl) (by kernel_rfl) (v_indexSB Try.underlying38 Try.hi25 Try.cz25 rfl rfl (by first | omega | decide)) rfl ?_
                refine a_one 15 (by kernel_rfl) rfl rfl ?_
                refine x_storeW (v := .slice Ay ly ky) (o := 0 + ((kk : Nat) : Int).toNat * 1) 0 rfl rfl rfl Try.hi25 Try.cz25 (by simp [Value.cells]; omega) (by simp [Value.cells, Value.oneCell']) _ (take_set_drop rfl (by simp; omega)) ?_
                refine a_and (fun _ hw => hw.sub (by repeat (first | exact List.Sublist.slnil | exact List.Sublist.refl _ | apply List.Sublist.cons_cons | apply List.Sublist.cons))) ?_
                refine a_take 16 pan_cx (by kernel_rfl) (fun _ hw => hw.sub (by repeat (first | exact List.Sublist.slnil | exact List.Sublist.refl _ | apply List.Sublist.cons_cons | apply List.Sublist.cons))) rfl (by kernel_rfl) (by kernel_rfl) (v_indexSB Try.underlying38 Try.hi25 Try.cz25 rfl rfl (by first | omega | decide)) rfl ?_
                refine a_one 17 (by kernel_rfl) rfl rfl ?_
                refine x_storeW (v := .slice Ax lx kx) (o := 0 + ((kk + 1 : Nat) : Int).toNat * 1) 0 rfl rfl rfl Try.hi25 Try.cz25 (by simp [Value.cells]; omega) (by simp [Value.cells, Value.oneCell']) _ (take_set_drop rfl (by simp; omega)) ?_
                refine a_and (fun _ hw => hw.sub (by repeat (first | exact List.Sublist.slnil | exact List.Sublist.refl _ | apply List.Sublist.cons_cons | apply List.Sublist.cons))) ?_
                refine a_done (by kernel_rfl) ?_
                exact e_cutEnd () trivial (by repeat (first | exact Sub.nil _ | refine Sub.cons rfl ?_)) (fun _ hw => by simp only [Nat.zero_add, Nat.mul_one, Int.toNat_natCast, List.set_cons_zero] at hw; first | (rw [swap_eq hux huy] at hw; exact hw) | (rw [swap_eq2 hux huy] at hw; exact hw))
            · rintro _ -
              refine e_seq ?_
              refine e_region ?_
              refine w_val (v_loadBA 2 rfl Try.underlying23 rfl Try.hi23 (Try.cz23.trans hlz.symm) rfl) rfl ?_
              refine w_val (v_move rfl) rfl ?_
              refine w_val (v_move rfl) rfl ?_
              refine w_op rfl ?_
              refine x_call (dst := some 109) (mc := []) (σ := Option Addr × Nat) (fun x => r.length ≤ x.2) (fun x => .tuple #[intsV [z0, z1, z2, z3, z4, z5, z6, z7, z8, z9], .slice x.1 r.length r.length, .int .i64 0]) (fun x => [Own (.slice x.1 r.length x.2) 30 5 r.length (resL (resAll s r))]) rfl rfl rfl Try.call29 (fun w hw => hrun w hw.off) rfl (fun x hx => ?_); obtain ⟨A1, k1⟩ := x; dsimp only at hx; dsimp only
              refine w_val (v_move rfl) rfl ?_
              refine w_val (v_extract rfl rfl) rfl ?_
              refine w_val (v_extract rfl rfl) rfl ?_
              refine w_val (v_extract rfl rfl) rfl ?_
              refine w_op rfl ?_
              refine x_alloc (z := .agg #[.int .i64 0, .int .i64 0, .int .i64 0, .int .i64 0, .int .i64 0, .int .i64 0, .int .i64 0, .int .i64 0, .int .i64 0, .int .i64 0]) (by intro w; exact Try.zeroValue23 w) rfl (fun b13 => ?_)
              refine w_op rfl ?_
              refine x_storeA 0 rfl rfl rfl Try.hi23 (Try.cz23.trans (by simp [Value.cells, intsV, resCells, intCells, hs10])) (by simp [Value.cells, intsV, resCells, intCells, hs10]) (by first | exact one_intCells _ | exact one_resCells _ _) ?_
              refine w_val (v_assign rfl) rfl ?_
              refine w_val (v_assign rfl) rfl ?_
              refine w_nil ?_
              refine e_seq ?_
              refine e_region ?_
              refine w_val (v_loadBA 4 rfl Try.underlying23 rfl Try.hi23 (Try.cz23.trans hlz.symm) rfl) rfl ?_
              refine w_val (v_move rfl) rfl ?_
              refine w_val (v_move rfl) rfl ?_
              refine w_op rfl ?_
              refine x_call (dst := some 117) (mc := []) (σ := Option Addr × Nat) (fun x => r.length ≤ x.2) (fun x => .tuple #[intsV [z0, z1, z2, z3, z4, z5, z6, z7, z8, z9], .slice x.1 r.length r.length, .int .i64 0]) (fun x => [Own (.slice x.1 r.length x.2) 30 5 r.length (resL (swapL (resAll s r) kk))]) rfl rfl rfl Try.call29 (fun w hw => hrun2 w hw.off _ (swapped hk1 (hw.mem (i := 2) rfl) (hw.mem (i := 3) rfl))) rfl (fun x hx2 => ?_); obtain ⟨A2, k2⟩ := x; dsimp only at hx2; dsimp only
              refine w_val (v_move rfl) rfl ?_
              refine w_val (v_extract rfl rfl) rfl ?_
              refine w_val (v_extract rfl rfl) rfl ?_
              refine w_val (v_extract rfl rfl) rfl ?_
              refine w_op rfl ?_
              refine x_alloc (z := .agg #[.int .i64 0, .int .i64 0, .int .i64 0, .int .i64 0, .int .i64 0, .int .i64 0, .int .i64 0, .int .i64 0, .int .i64 0, .int .i64 0]) (by intro w; exact Try.zeroValue23 w) rfl (fun b16 => ?_)
              refine w_op rfl ?_
              refine x_storeA 0 rfl rfl rfl Try.hi23 (Try.cz23.trans (by simp [Value.cells, intsV, resCells, intCells, hs10])) (by simp [Value.cells, intsV, resCells, intCells, hs10]) (by first | exact one_intCells _ | exact one_resCells _ _) ?_
              refine w_val (v_assign rfl) rfl ?_
              refine w_val (v_assign rfl) rfl ?_
              refine w_nil ?_
              refine e_seq ?_
              refine e_seq ?_
              refine e_region ?_
              refine w_val (v_move rfl) rfl ?_
              refine w_val (v_is (v' := .bool false) (v_neq rfl rfl) (by rfl)) rfl ?_
              refine w_val (v_move rfl) rfl ?_
              refine w_want rfl rfl ?_
              refine w_val (v_move rfl) rfl ?_
              refine w_want rfl rfl ?_
              refine w_val (v_is (v' := .bool false) (v_neq rfl rfl) (by rfl)) rfl ?_
              refine w_val (v_pickF rfl rfl) rfl ?_
              refine w_val (v_move rfl) rfl ?_
              refine w_want rfl rfl ?_
              refine w_val (v_move rfl) rfl ?_
              refine w_want rfl rfl ?_
              refine w_val (v_lenS Try.underlying57 rfl) rfl ?_
              refine w_want rfl rfl ?_
              refine w_val (v_move rfl) rfl ?_
              refine w_want rfl rfl ?_
              refine w_val (v_lenS Try.underlying38 rfl) rfl ?_
              refine w_want rfl rfl ?_
              refine w_val (v_is (v' := .bool false) (v_neq rfl rfl) (by rw [decide_eq_false (fun h => h rfl)])) rfl ?_
              refine w_val (v_pickF rfl rfl) rfl ?_
              refine w_val (v_move rfl) rfl ?_
              refine w_want rfl rfl ?_
              refine w_val (v_move rfl) rfl ?_
              refine w_want rfl rfl ?_
              refine w_val (v_lenS Try.underlying57 rfl) rfl ?_
              refine w_want rfl rfl ?_
              refine w_val (v_move rfl) rfl ?_
              refine w_want rfl rfl ?_
              refine w_val (v_lenS Try.underlying38 rfl) rfl ?_
              refine w_want rfl rfl ?_
              refine w_val (v_is (v' := .bool false) (v_neq rfl rfl) (by rw [decide_eq_false (fun h => h rfl)])) rfl ?_
              refine w_val (v_pickF rfl rfl) rfl ?_
              refine w_nil ?_
              refine e_condF rfl ?_
              refine g_shapeW 1 rfl (by omega) fun g2 k2' hv2 hk22 => ?_
              injection hv2 with e1 _ e2
              subst e1
              subst e2
              have hra : (resAll s r)[kk]? = some (rsAt s r kk) := resAll_at hk0
              have hrb : (resAll s r)[kk + 1]? = some (rsAt s r (kk + 1)) := resAll_at hk1
              have hra4 : (rsAt s r kk).2.length = 4 := hrar _ (List.mem_of_getElem? hra)
              have hrb4 : (rsAt s r (kk + 1)).2.length = 4 := hrar _ (List.mem_of_getElem? hrb)
              generalize resAll s r = ra at *
              generalize rsAt s r kk = xa at *
              generalize rsAt s r (kk + 1) = xb at *
              obtain ⟨ca, ga⟩ := xa
              obtain ⟨cb, gb⟩ := xb
              dsimp only at hra4 hrb4
              have hk1a : kk + 1 < ra.length := by omega
              have hsx : (swapL ra kk)[kk]? = some (cb, gb) := by rw [swap_get hk1a, if_pos rfl]; exact hrb
              have hsy : (swapL ra kk)[kk + 1]? = some (ca, ga) := by rw [swap_get hk1a, if_neg (by omega), if_pos rfl]; exact hra
              have hsl : (swapL ra kk).length = r.length := by rw [swap_len]; exact hral
              have hsr4 : ∀ x ∈ swapL ra kk, x.2.length = 4 := fun x hx => by
                obtain ⟨j, hj⟩ := List.getElem?_of_mem hx
                rw [swap_get hk1a] at hj
                split at hj
                · exact hrar _ (List.mem_of_getElem? hj)
                · split at hj
                  · exact hrar _ (List.mem_of_getElem? hj)
                  · exact hrar _ (List.mem_of_getElem? hj)
              have hss : swapL (swapL ra kk) kk = ra := swap_self hk1a
              have hc5a : (resCells ca ga).length = 5 := by simp [resCells, intCells, hra4]
              have hc5b : (resCells cb gb).length = 5 := by simp [resCells, intCells, hrb4]
              have hr5 : (resL (swapL ra kk)).length = r.length * 5 := by rw [resL_len hsr4, hsl]
              refine e_skip ?_
              refine e_seq ?_
              generalize swapL ra kk = rb at *
              refine e_cutH (σ := Unit) [1, 3, 13, 14, 16, 17] (.cons rfl (.cons rfl (.cons rfl (.cons rfl (.cons rfl (.cons rfl .nil)))))) (fun _ => []) (fun _ => [.blk b16 23 (intCells [z0, z1, z2, z3, z4, z5, z6, z7, z8, z9]), Own (.slice (some ⟨g2, 0, none⟩) r.length k2) 30 5 r.length (resL ra), .blk b13 23 (intCells [z0, z1, z2, z3, z4, z5, z6, z7, z8, z9]), Own (.slice A1 r.length k1) 30 5 r.length (resL ra)]) (fun _ => True) ?_ ?_
              · refine e_draw ([]) Try.mixed ?_
                refine a_take 0 pan_cx (by kernel_rfl) (fun _ hw => hw.sub (by repeat (first | exact List.Sublist.slnil | exact List.Sublist.refl _ | apply List.Sublist.cons_cons | apply List.Sublist.cons))) rfl (by kernel_rfl) (by kernel_rfl) (v_move rfl) rfl ?_
                refine a_take 1 pan_cx (by kernel_rfl) (fun _ hw => hw.sub (by repeat (first | exact List.Sublist.slnil | exact List.Sublist.refl _ | apply List.Sublist.cons_cons | apply List.Sublist.cons))) rfl (by kernel_rfl) (by kernel_rfl) (v_move rfl) rfl ?_
                refine a_take 2 pan_cx (by kernel_rfl) (fun _ hw => hw.sub (by repeat (first | exact List.Sublist.slnil | exact List.Sublist.refl _ | apply List.Sublist.cons_cons | apply List.Sublist.cons))) rfl (by kernel_rfl) (by kernel_rfl) (v_move rfl) rfl ?_
                refine a_take 3 pan_cx (by kernel_rfl) (fun _ hw => hw.sub (by repeat (first | exact List.Sublist.slnil | exact List.Sublist.refl _ | apply List.Sublist.cons_cons | apply List.Sublist.cons))) rfl (by kernel_rfl) (by kernel_rfl) (v_move rfl) rfl ?_
                refine a_take 4 pan_cx (by kernel_rfl) (fun _ hw => hw.sub (by repeat (first | exact List.Sublist.slnil | exact List.Sublist.refl _ | apply List.Sublist.cons_cons | apply List.Sublist.cons))) rfl (by kernel_rfl) (by kernel_rfl) (v_is (v' := .int .i64 ((kk + 1 : Nat) : Int)) (v_add rfl rfl (by omega)) rfl) rfl ?_
                refine a_take 5 pan_cx (by kernel_rfl) (fun _ hw => hw.sub (by repeat (first | exact List.Sublist.slnil | exact List.Sublist.refl _ | apply List.Sublist.cons_cons | apply List.Sublist.cons))) rfl (by kernel_rfl) (by kernel_rfl) (v_move rfl) rfl ?_
                refine a_take 6 pan_cx (by kernel_rfl) (fun _ hw => hw.sub (by repeat (first | exact List.Sublist.slnil | exact List.Sublist.refl _ | apply List.Sublist.cons_cons | apply List.Sublist.cons))) rfl (by kernel_rfl) (by kernel_rfl) (v_move rfl) rfl ?_
                refine a_take 7 pan_cx (by kernel_rfl) (fun _ hw => hw.sub (by repeat (first | exact List.Sublist.slnil | exact List.Sublist.refl _ | apply List.Sublist.cons_cons | apply List.Sublist.cons))) rfl (by kernel_rfl) (by kernel_rfl) (v_is (v' := .int .i64 ((kk + 1 : Nat) : Int)) (v_add rfl rfl (by omega)) rfl) rfl ?_
                refine a_take 8 pan_cx (by kernel_rfl) (fun _ hw => hw.sub (by repeat (first | exact List.Sublist.slnil | exact List.Sublist.refl _ | apply List.Sublist.cons_cons | apply List.Sublist.cons))) rfl (by kernel_rfl) (by kernel_rfl) (v_indexSB Try.underlying57 Try.hi30 Try.cz30 rfl rfl (by first | omega | decide)) rfl ?_
                refine a_take 10 pan_cx (by kernel_rfl) (fun _ hw => hw.sub (by repeat (first | exact List.Sublist.slnil | exact List.Sublist.refl _ | apply List.Sublist.cons_cons | apply List.Sublist.cons))) rfl (by kernel_rfl) (by kernel_rfl) (v_move rfl) rfl ?_
                refine a_take 11 pan_cx (by kernel_rfl) (fun _ hw => hw.sub (by repeat (first | exact List.Sublist.slnil | exact List.Sublist.refl _ | apply List.Sublist.cons_cons | apply List.Sublist.cons))) rfl (by kernel_rfl) (by kernel_rfl) (v_move rfl) rfl ?_
                refine a_take 12 pan_cx (by kernel_rfl) (fun _ hw => hw.sub (by repeat (first | exact List.Sublist.slnil | exact List.Sublist.refl _ | apply List.Sublist.cons_cons | apply List.Sublist.cons))) rfl (by kernel_rfl) (by kernel_rfl) (v_indexSB Try.underlying57 Try.hi30 Try.cz30 rfl rfl (by first | omega | decide)) rfl ?_
                refine a_all [9, 13] (by kernel_rfl) rfl ?_
                intro i hi
                simp only [List.mem_cons, List.not_mem_nil, or_false] at hi
                rcases hi with rfl | rfl
                · refine a_op rfl rfl ?_
                  refine x_val (v_loadN (cs := resCells ca ga) Try.underlying30 rfl Try.hi30 (Try.cz30.trans hc5a.symm) rfl (fun w hw => own_resB (x := (ca, ga)) (i := kk + 1) (hw.mem (i := 1) rfl) hsr4 hsl hk1 hsy)) rfl ?_
                  refine a_and (fun _ hw => hw.sub (by repeat (first | exact List.Sublist.slnil | exact List.Sublist.refl _ | apply List.Sublist.cons_cons | apply List.Sublist.cons))) ?_
                  refine a_one 13 (by kernel_rfl) rfl rfl ?_
                  refine x_val (v_loadN (cs := resCells cb gb) Try.underlying30 rfl Try.hi30 (Try.cz30.trans hc5b.symm) rfl (fun w hw => own_resB (x := (cb, gb)) (i := kk) (hw.mem (i := 1) rfl) hsr4 hsl hk0 hsx)) rfl ?_
                  refine a_and (fun _ hw => hw.sub (by repeat (first | exact List.Sublist.slnil | exact List.Sublist.refl _ | apply List.Sublist.cons_cons | apply List.Sublist.cons))) ?_
                  refine a_take 14 pan_cx (by kernel_rfl) (fun _ hw => hw.sub (by repeat (first | exact List.Sublist.slnil | exact List.Sublist.refl _ | apply List.Sublist.cons_cons | apply List.Sublist.cons))) rfl (by kernel_rfl) (by kernel_rfl) (v_indexSB Try.underlying57 Try.hi30 Try.cz30 rfl rfl (by first | omega | decide)) rfl ?_
                  refine a_one 15 (by kernel_rfl) rfl rfl ?_
                  refine x_storeW (v := .agg (resCells ca ga).toArray) (o := 0 + ((kk : Nat) : Int).toNat * 5) 1 rfl rfl rfl Try.hi30 (Try.cz30.trans (by simp [Value.cells, resCells, intCells, hra4])) (by simp [Value.cells, resL_len hsr4, resL_len (regs_set hsr4 (x := (cb, gb)) hrb4), hc5a, hsl]; omega) (one_resCells _ _) _ (res_put (by first | exact hsr4 | exact regs_set hsr4 hrb4) hra4 (by simp [hsl]; omega)) ?_
                  refine a_and (fun _ hw => hw.sub (by repeat (first | exact List.Sublist.slnil | exact List.Sublist.refl _ | apply List.Sublist.cons_cons | apply List.Sublist.cons))) ?_
                  refine a_take 16 pan_cx (by kernel_rfl) (fun _ hw => hw.sub (by repeat (first | exact List.Sublist.slnil | exact List.Sublist.refl _ | apply List.Sublist.cons_cons | apply List.Sublist.cons))) rfl (by kernel_rfl) (by kernel_rfl) (v_indexSB Try.underlying57 Try.hi30 Try.cz30 rfl rfl (by first | omega | decide)) rfl ?_
                  refine a_one 17 (by kernel_rfl) rfl rfl ?_
                  refine x_storeW (v := .agg (resCells cb gb).toArray) (o := 0 + ((kk + 1 : Nat) : Int).toNat * 5) 1 rfl rfl rfl Try.hi30 (Try.cz30.trans (by simp [Value.cells, resCells, intCells, hrb4])) (by simp [Value.cells, resL_len hsr4, resL_len (regs_set hsr4 (x := (ca, ga)) hra4), hc5b, hsl]; omega) (one_resCells _ _) _ (res_put (by first | exact hsr4 | exact regs_set hsr4 hra4) hrb4 (by simp [hsl]; omega)) ?_
                  refine a_and (fun _ hw => hw.sub (by repeat (first | exact List.Sublist.slnil | exact List.Sublist.refl _ | apply List.Sublist.cons_cons | apply List.Sublist.cons))) ?_
                  refine a_done (by kernel_rfl) ?_
                  exact e_cutEnd () trivial (by repeat (first | exact Sub.nil _ | refine Sub.cons rfl ?_)) (fun _ hw => by simp only [List.set_cons_zero, List.set_cons_succ] at hw; first | (rw [swap_eq hsx hsy, hss] at hw; exact hw.pick [0, 1, 2, 3] (by decide)) | (rw [swap_eq2 hsx hsy, hss] at hw; exact hw.pick [0, 1, 2, 3] (by decide)))
                · refine a_op rfl rfl ?_
                  refine x_val (v_loadN (cs := resCells cb gb) Try.underlying30 rfl Try.hi30 (Try.cz30.trans hc5b.symm) rfl (fun w hw => own_resB (x := (cb, gb)) (i := kk) (hw.mem (i := 1) rfl) hsr4 hsl hk0 hsx)) rfl ?_
                  refine a_and (fun _ hw => hw.sub (by repeat (first | exact List.Sublist.slnil | exact List.Sublist.refl _ | apply List.Sublist.cons_cons | apply List.Sublist.cons))) ?_
                  refine a_one 9 (by kernel_rfl) rfl rfl ?_
                  refine x_val (v_loadN (cs := resCells ca ga) Try.underlying30 rfl Try.hi30 (Try.cz30.trans hc5a.symm) rfl (fun w hw => own_resB (x := (ca, ga)) (i := kk + 1) (hw.mem (i := 1) rfl) hsr4 hsl hk1 hsy)) rfl ?_
                  refine a_and (fun _ hw => hw.sub (by repeat (first | exact List.Sublist.slnil | exact List.Sublist.refl _ | apply List.Sublist.cons_cons | apply List.Sublist.cons))) ?_
                  refine a_take 14 pan_cx (by kernel_rfl) (fun _ hw => hw.sub (by repeat (first | exact List.Sublist.slnil | exact List.Sublist.refl _ | apply List.Sublist.cons_cons | apply List.Sublist.cons))) rfl (by kernel_rfl) (by kernel_rfl) (v_indexSB Try.underlying57 Try.hi30 Try.cz30 rfl rfl (by first | omega | decide)) rfl ?_
                  refine a_one 15 (by kernel_rfl) rfl rfl ?_
                  refine x_storeW (v := .agg (resCells ca ga).toArray) (o := 0 + ((kk : Nat) : Int).toNat * 5) 1 rfl rfl rfl Try.hi30 (Try.cz30.trans (by simp [Value.cells, resCells, intCells, hra4])) (by simp [Value.cells, resL_len hsr4, resL_len (regs_set hsr4 (x := (cb, gb)) hrb4), hc5a, hsl]; omega) (one_resCells _ _) _ (res_put (by first | exact hsr4 | exact regs_set hsr4 hrb4) hra4 (by simp [hsl]; omega)) ?_
                  refine a_and (fun _ hw => hw.sub (by repeat (first | exact List.Sublist.slnil | exact List.Sublist.refl _ | apply List.Sublist.cons_cons | apply List.Sublist.cons))) ?_
                  refine a_take 16 pan_cx (by kernel_rfl) (fun _ hw => hw.sub (by repeat (first | exact List.Sublist.slnil | exact List.Sublist.refl _ | apply List.Sublist.cons_cons | apply List.Sublist.cons))) rfl (by kernel_rfl) (by kernel_rfl) (v_indexSB Try.underlying57 Try.hi30 Try.cz30 rfl rfl (by first | omega | decide)) rfl ?_
                  refine a_one 17 (by kernel_rfl) rfl rfl ?_
                  refine x_storeW (v := .agg (resCells cb gb).toArray) (o := 0 + ((kk + 1 : Nat) : Int).toNat * 5) 1 rfl rfl rfl Try.hi30 (Try.cz30.trans (by simp [Value.cells, resCells, intCells, hrb4])) (by simp [Value.cells, resL_len hsr4, resL_len (regs_set hsr4 (x := (ca, ga)) hra4), hc5b, hsl]; omega) (one_resCells _ _) _ (res_put (by first | exact hsr4 | exact regs_set hsr4 hra4) hrb4 (by simp [hsl]; omega)) ?_
                  refine a_and (fun _ hw => hw.sub (by repeat (first | exact List.Sublist.slnil | exact List.Sublist.refl _ | apply List.Sublist.cons_cons | apply List.Sublist.cons))) ?_
                  refine a_done (by kernel_rfl) ?_
                  exact e_cutEnd () trivial (by repeat (first | exact Sub.nil _ | refine Sub.cons rfl ?_)) (fun _ hw => by simp only [List.set_cons_zero, List.set_cons_succ] at hw; first | (rw [swap_eq hsx hsy, hss] at hw; exact hw.pick [0, 1, 2, 3] (by decide)) | (rw [swap_eq2 hsx hsy, hss] at hw; exact hw.pick [0, 1, 2, 3] (by decide)))
              · rintro _ -
                try dsimp only
                refine e_seq ?_
                refine e_region ?_
                refine w_val (v_loadBN 2 rfl Try.underlying23 rfl Try.hi23 Try.cz23 rfl (cs' := intCells [z0, z1, z2, z3, z4, z5, z6, z7, z8, z9]) rfl rfl) rfl ?_
                refine w_val (v_loadBN 0 rfl Try.underlying23 rfl Try.hi23 Try.cz23 rfl (cs' := intCells [z0, z1, z2, z3, z4, z5, z6, z7, z8, z9]) rfl rfl) rfl ?_
                refine w_val (v_is (v' := .bool true) (v_eqlInts Try.underlying23 (by kernel_rfl) Try.underlying2 Try.hi2 Try.cz2 (by first | rfl | assumption | (simp; omega)) (by first | rfl | assumption | (simp; omega)) rfl rfl) (by rw [decide_eq_true rfl])) rfl ?_
                refine w_val (v_move rfl) rfl ?_
                refine w_want rfl rfl ?_
                refine w_val (v_move rfl) rfl ?_
                refine w_want rfl rfl ?_
                refine w_val (v_move rfl) rfl ?_
                refine w_want rfl rfl ?_
                refine w_op rfl ?_
                refine x_call0 (v := .bool true) rfl rfl rfl Try.call30 rfl (fun w hw => by have := sameResults_spec (.slice A1 r.length r.length) (.slice (some ⟨g2, 0, none⟩) r.length r.length) ra ra w (by rw [hral]; exact rds_clip (own_rds (hw.mem (i := 3) rfl))) (by rw [hral]; exact rds_clip (own_rds (hw.mem (i := 1) rfl))) hrar hrar (by omega); rwa [decide_eq_true rfl] at this) ?_
                refine w_val (v_pickT rfl rfl) rfl ?_
                refine w_val (v_assign rfl) rfl ?_
                refine w_nil ?_
                refine e_retQ (q_ret1 rfl (.tmp rfl) ?_)
                exact fun w' hw' => ⟨rfl, hw'.res.nil⟩
        · refine e_skip ?_
          refine e_seq ?_
          refine e_seq ?_
          refine e_region ?_
          refine w_val (v_move rfl) rfl ?_
          refine w_op rfl ?_
          refine x_call0 (v := .bool false) rfl rfl rfl Try.call24 rfl (fun w hw => by have := great_spec _ r w (hsr.mono hw.off) hb; rwa [hg] at this) ?_
          refine w_val (v_move rfl) rfl ?_
          refine w_want rfl rfl ?_
          refine w_val (v_move rfl) rfl ?_
          refine w_want rfl rfl ?_
          refine w_val (v_lenS Try.underlying51 rfl) rfl ?_
          refine w_want rfl rfl ?_
          refine w_val (v_is (v' := .bool false) (v_gtr rfl rfl) (by rw [decide_eq_false (by omega)])) rfl ?_
          refine w_val (v_pickF rfl rfl) rfl ?_
          refine w_val (v_move rfl) rfl ?_
          refine w_want rfl rfl ?_
          refine w_val (v_move rfl) rfl ?_
          refine w_want rfl rfl ?_
          refine w_val (v_lenS Try.underlying38 rfl) rfl ?_
          refine w_want rfl rfl ?_
          refine w_val (v_is (v' := .bool false) (v_lss rfl rfl) (by rw [decide_eq_false (by omega)])) rfl ?_
          refine w_val (v_pickF rfl rfl) rfl ?_
          refine w_val (v_move rfl) rfl ?_
          refine w_want rfl rfl ?_
          refine w_val (v_move rfl) rfl ?_
          refine w_want rfl rfl ?_
          refine w_op rfl ?_
          refine x_call0 (v := .int .i64 (roundFaultL r)) rfl rfl rfl Try.call25 rfl (fun w hw => RoundFault_spec _ r w (hsr.mono hw.off)) ?_
          refine w_want rfl rfl ?_
          refine w_val (v_is (v' := .bool true) (v_neq rfl rfl) (by rw [decide_eq_true hf])) rfl ?_
          refine w_val (v_pickF rfl rfl) rfl ?_
          refine w_nil ?_
          refine e_condT rfl ?_
          refine e_seq ?_
          refine e_region ?_
          refine w_val (v_assign rfl) rfl ?_
          refine w_nil ?_
          refine e_retQ (q_ret1 rfl (.tmp rfl) ?_)
          exact fun w' hw' => ⟨rfl, hw'.res.nil⟩
end Go.SL

