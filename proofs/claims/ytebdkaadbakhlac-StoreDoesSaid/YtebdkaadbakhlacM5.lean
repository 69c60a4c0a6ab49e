/- Ytebdkaadbakhlac: part M5 of this seat's own texts. -/
import Derived.Test.YtebdkaadbakhlacM4
set_option linter.unusedVariables false
set_option linter.unusedSimpArgs false

open Go Go.Proofs Go.SL
set_option maxRecDepth 100000
set_option maxHeartbeats 4000000
namespace Go.SL
theorem StV.at {w0 w : World} {F : Nat → Prop} {m : Hp} {y : StP} {q : QL} (h : St w0 F m w) (i : Nat) (h0 : m[i]? = some (stB y q)) (h1 : m[i + 1]? = some (stO y q)) (h2 : m[i + 2]? = some (lgB y.pl y.bv y.ev q.L q.k)) (h3 : m[i + 3]? = some (Rw y.bv 5 1 (bytesOf q.L).length (byteCells (bytesOf q.L)))) (h4 : m[i + 4]? = some (Rw y.ev 3 1 q.L.length (intCells (endsOf q.L)))) : StV w.cell? y q := by
  refine StV.of h (fun c hc => ?_)
  simp only [List.mem_append, List.mem_cons, List.not_mem_nil, or_false] at hc
  rcases hc with (rfl | rfl) | rfl | rfl | rfl
  · exact List.mem_of_getElem? h0
  · exact List.mem_of_getElem? h1
  · exact List.mem_of_getElem? h2
  · exact List.mem_of_getElem? h3
  · exact List.mem_of_getElem? h4
theorem greatSteps_spec (v : Value) (l : List SStepL) (w : World) (h : IsSSteps w.cell? v l) (hl : ∀ x ∈ l, ∀ d ∈ x.round, d.length ≤ 4398046511104) : Calls Try.prog 49 #[v] w fun e w' => ∃ b : Bool, True ∧ e = .returned (.bool b) ∧ Res w [] [] w' := by
  rw [← off_none w] at h
  obtain ⟨A, kp, rfl, hle, hc⟩ := h
  refine enter0 (N := 59) Try.func49 rfl rfl rfl ?_
  refine e_seq ?_
  refine e_region ?_
  refine w_val (v_assign rfl) rfl ?_
  refine w_nil ?_
  refine e_seq ?_
  refine e_region ?_
  refine w_val (v_assign rfl) rfl ?_
  refine w_nil ?_
  refine e_seq ?_
  refine e_seq ?_
  refine e_region ?_
  refine w_val (v_assign rfl) rfl ?_
  refine w_nil ?_
  refine e_block ?_
  refine e_loopK (σ := Nat × Int) [0] (.cons rfl .nil) (fun x => [(3, .int .i64 x.2), (4, .int .i64 (x.1 : Int))]) (fun x => x.1 ≤ l.length) (fun x => l.length - x.1) (0, 0) (by dsimp only; omega) (by repeat (first | exact Sub.nil _ | refine Sub.cons rfl ?_)) ?_
  rintro ⟨i, n⟩ hi
  dsimp only at hi ⊢
  refine e_seq ?_
  refine e_seq ?_
  by_cases hlt : i < l.length ∧ i < 200
  · obtain ⟨ad, u, pv, rfl, hcs, hr, hpp⟩ := hc i hlt.1
    obtain ⟨A2, kp2, rfl, hle2, hc2⟩ := hr.form
    obtain ⟨Ap, kpp, rfl, _, _⟩ := hpp.form
    have hd := hl l[i] (List.getElem_mem _)
    have hc3 : off w (feet []) ((ad.add (((i : Int)).toNat * 4)).add 1) = some (.slice A2 l[i].round.length kp2) := by
      rw [Int.toNat_natCast]; exact hcs 1 _ rfl
    have hc4 : off w (feet []) ((ad.add (((i : Int)).toNat * 4)).add 2) = some (.slice Ap l[i].picks.length kpp) := by
      rw [Int.toNat_natCast]; exact hcs 2 _ rfl
    generalize l[i].round = r at *
    generalize l[i].picks = p at *
    refine e_region ?_
    refine w_val (v_move rfl) rfl ?_
    refine w_val (v_move rfl) rfl ?_
    refine w_val (v_lenS Try.underlying88 rfl) rfl ?_
    refine w_val (v_is (v' := .bool true) (v_lss rfl rfl) (by rw [decide_eq_true (by omega)])) rfl ?_
    refine w_val (v_move rfl) rfl ?_
    refine w_want rfl rfl ?_
    refine w_val (v_move rfl) rfl ?_
    refine w_want rfl rfl ?_
    refine w_val (v_is (v' := .bool true) (v_lss rfl rfl) (by rw [decide_eq_true (by omega)])) rfl ?_
    refine w_val (v_pickT rfl rfl) rfl ?_
    refine w_nil ?_
    refine e_condT rfl ?_
    refine e_skip ?_
    refine e_seq ?_
    refine e_block ?_
    refine e_seq ?_
    refine e_seq ?_
    cases hg : greatL r with
    | true =>
      refine e_region ?_
      refine w_val (v_move rfl) rfl ?_
      refine w_val (v_move rfl) rfl ?_
      refine w_val (v_indexS Try.underlying88 Try.hi100 Try.cz100 rfl rfl (by first | omega | decide)) rfl ?_
      refine w_val (v_fieldAddr (o := 1) Try.underlying100 rfl rfl Try.nz38 rfl) rfl ?_
      refine w_val (v_loadO Try.underlying38 rfl rfl (hc3)) rfl ?_
      refine w_op rfl ?_
      refine x_call0 (v := .bool true) rfl rfl rfl Try.call24 rfl (fun w hw => by have := great_spec _ r w (hr.mono hw.off) hd; rwa [hg] at this) ?_
      refine w_val (v_move rfl) rfl ?_
      refine w_skip rfl rfl rfl rfl ?_
      refine w_skip rfl rfl rfl rfl ?_
      refine w_skip rfl rfl rfl rfl ?_
      refine w_skip rfl rfl rfl rfl ?_
      refine w_skip rfl rfl rfl rfl ?_
      refine w_skip rfl rfl rfl rfl ?_
      refine w_skip rfl rfl rfl rfl ?_
      refine w_val (v_pickT rfl rfl) rfl ?_
      refine w_nil ?_
      refine e_condT rfl ?_
      refine e_seq ?_
      refine e_region ?_
      refine w_val (v_assign rfl) rfl ?_
      refine w_nil ?_
      refine e_retQ (q_ret1 rfl (.tmp rfl) ?_)
      exact fun w' hw' => ⟨true, trivial, rfl, hw'.res.nil⟩
    | false =>
      by_cases h500 : 500 < p.length
      · -- at: region 5
        refine e_region ?_
        refine w_val (v_move rfl) rfl ?_
        refine w_val (v_move rfl) rfl ?_
        refine w_val (v_indexS Try.underlying88 Try.hi100 Try.cz100 rfl rfl (by first | omega | decide)) rfl ?_
        refine w_val (v_fieldAddr (o := 1) Try.underlying100 rfl rfl Try.nz38 rfl) rfl ?_
        refine w_val (v_loadO Try.underlying38 rfl rfl (hc3)) rfl ?_
        refine w_op rfl ?_
        refine x_call0 (v := .bool false) rfl rfl rfl Try.call24 rfl (fun w hw => by have := great_spec _ r w (hr.mono hw.off) hd; rwa [hg] at this) ?_
        refine w_val (v_move rfl) rfl ?_
        refine w_want rfl rfl ?_
        refine w_val (v_move rfl) rfl ?_
        refine w_want rfl rfl ?_
        refine w_val (v_move rfl) rfl ?_
        refine w_want rfl rfl ?_
        refine w_val (v_indexS Try.underlying88 Try.hi100 Try.cz100 rfl rfl (by first | omega | decide)) rfl ?_
        refine w_want rfl rfl ?_
        refine w_val (v_fieldAddr (o := 2) Try.underlying100 rfl rfl Try.nz51 rfl) rfl ?_
        refine w_want rfl rfl ?_
        refine w_val (v_loadO Try.underlying51 rfl rfl (hc4)) rfl ?_
        refine w_want rfl rfl ?_
        refine w_val (v_lenS Try.underlying51 rfl) rfl ?_
        refine w_want rfl rfl ?_
        refine w_val (v_is (v' := .bool true) (v_gtr rfl rfl) (by rw [decide_eq_true (by omega)])) rfl ?_
        refine w_val (v_pickF rfl rfl) rfl ?_
        refine w_nil ?_
        refine e_condT rfl ?_
        refine e_seq ?_
        refine e_region ?_
        refine w_val (v_assign rfl) rfl ?_
        refine w_nil ?_
        refine e_retQ (q_ret1 rfl (.tmp rfl) ?_)
        exact fun w' hw' => ⟨true, trivial, rfl, hw'.res.nil⟩
      · -- at: region 5
        refine e_region ?_
        refine w_val (v_move rfl) rfl ?_
        refine w_val (v_move rfl) rfl ?_
        refine w_val (v_indexS Try.underlying88 Try.hi100 Try.cz100 rfl rfl (by first | omega | decide)) rfl ?_
        refine w_val (v_fieldAddr (o := 1) Try.underlying100 rfl rfl Try.nz38 rfl) rfl ?_
        refine w_val (v_loadO Try.underlying38 rfl rfl (hc3)) rfl ?_
        refine w_op rfl ?_
        refine x_call0 (v := .bool false) rfl rfl rfl Try.call24 rfl (fun w hw => by have := great_spec _ r w (hr.mono hw.off) hd; rwa [hg] at this) ?_
        refine w_val (v_move rfl) rfl ?_
        refine w_want rfl rfl ?_
        refine w_val (v_move rfl) rfl ?_
        refine w_want rfl rfl ?_
        refine w_val (v_move rfl) rfl ?_
        refine w_want rfl rfl ?_
        refine w_val (v_indexS Try.underlying88 Try.hi100 Try.cz100 rfl rfl (by first | omega | decide)) rfl ?_
        refine w_want rfl rfl ?_
        refine w_val (v_fieldAddr (o := 2) Try.underlying100 rfl rfl Try.nz51 rfl) rfl ?_
        refine w_want rfl rfl ?_
        refine w_val (v_loadO Try.underlying51 rfl rfl (hc4)) rfl ?_
        refine w_want rfl rfl ?_
        refine w_val (v_lenS Try.underlying51 rfl) rfl ?_
        refine w_want rfl rfl ?_
        refine w_val (v_is (v' := .bool false) (v_gtr rfl rfl) (by rw [decide_eq_false (by omega)])) rfl ?_
        refine w_val (v_pickF rfl rfl) rfl ?_
        refine w_nil ?_
        refine e_condF rfl ?_
        have h60 := (great_not hg).1
        refine e_skip ?_
        refine e_seq ?_
        refine e_region ?_
        refine w_val (v_assign rfl) rfl ?_
        refine w_nil ?_
        refine e_block ?_
        refine e_loopK (σ := Nat × Int) [0, 4] (.cons rfl (.cons rfl .nil)) (fun x => [(3, .int .i64 x.2), (5, .int .i64 (x.1 : Int))]) (fun x => x.1 ≤ r.length) (fun x => r.length - x.1) (0, n) (by dsimp only; omega) (by repeat (first | exact Sub.nil _ | refine Sub.cons rfl ?_)) ?_
        rintro ⟨j, n⟩ hj
        dsimp only at hj ⊢
        refine e_seq ?_
        refine e_seq ?_
        refine e_region ?_
        refine w_val (v_move rfl) rfl ?_
        refine w_val (v_move rfl) rfl ?_
        refine w_val (v_move rfl) rfl ?_
        refine w_val (v_indexS Try.underlying88 Try.hi100 Try.cz100 rfl rfl (by first | omega | decide)) rfl ?_
        refine w_val (v_fieldAddr (o := 1) Try.underlying100 rfl rfl Try.nz38 rfl) rfl ?_
        refine w_val (v_loadO Try.underlying38 rfl rfl (hc3)) rfl ?_
        refine w_val (v_lenS Try.underlying38 rfl) rfl ?_
        refine w_val (v_lss rfl rfl) rfl ?_
        refine w_nil ?_
        refine e_condD rfl (fun hlt2 => ?_) (fun hlt2 => ?_)
        · have hlt2' : j < r.length := by omega
          obtain ⟨ad2, u2, rfl, hcell2, hd2⟩ := hc2 j hlt2'
          obtain ⟨A3, kp3, rfl, _, _⟩ := hd2.form
          generalize r[j] = d at *
          refine e_skip ?_
          refine e_seq ?_
          refine e_block ?_
          refine e_region ?_
          refine w_val (v_move rfl) rfl ?_
          refine w_val (v_move rfl) rfl ?_
          refine w_val (v_move rfl) rfl ?_
          refine w_val (v_indexS Try.underlying88 Try.hi100 Try.cz100 rfl rfl (by first | omega | decide)) rfl ?_
          refine w_val (v_fieldAddr (o := 1) Try.underlying100 rfl rfl Try.nz38 rfl) rfl ?_
          refine w_val (v_loadO Try.underlying38 rfl rfl (hc3)) rfl ?_
          refine w_val (v_move rfl) rfl ?_
          refine w_val (v_indexS Try.underlying38 Try.hi25 Try.cz25 rfl rfl (by first | omega | decide)) rfl ?_
          refine w_val (v_loadO Try.underlying25 rfl rfl (hcell2)) rfl ?_
          refine w_val (v_lenS Try.underlying25 rfl) rfl ?_
          refine w_val (v_addw rfl rfl) rfl ?_
          refine w_val (v_assign rfl) rfl ?_
          refine w_nil ?_
          refine e_blk ?_
          refine e_region ?_
          refine w_val (v_move rfl) rfl ?_
          refine w_val (v_add rfl rfl (by omega)) rfl ?_
          refine w_val (v_assign rfl) rfl ?_
          refine w_nil ?_
          exact e_round ((j + 1, IntKind.i64.wrap (n + d.length))) (by dsimp only; omega) (by dsimp only; omega) (by repeat (first | exact Sub.nil _ | refine Sub.cons rfl ?_)) (fun _ hw => hw)
        · refine e_exit rfl ?_
          refine e_blk ?_
          refine e_region ?_
          refine w_val (v_move rfl) rfl ?_
          refine w_val (v_add rfl rfl (by omega)) rfl ?_
          refine w_val (v_assign rfl) rfl ?_
          refine w_nil ?_
          exact e_round ((i + 1, n)) (by dsimp only; omega) (by dsimp only; omega) (by repeat (first | exact Sub.nil _ | refine Sub.cons rfl ?_)) (fun _ hw => hw)
  · have hlen : i < l.length → ¬ i < 200 := fun h h2 => hlt ⟨h, h2⟩
    refine e_cutK (σ := Unit) [0, 3, 4] (.cons rfl (.cons rfl (.cons rfl .nil))) (fun _ => [(13, .bool false)]) (fun _ => True) ?_ ?_
    · by_cases h1 : i < l.length
      · refine e_region ?_
        refine w_val (v_move rfl) rfl ?_
        refine w_val (v_move rfl) rfl ?_
        refine w_val (v_lenS Try.underlying88 rfl) rfl ?_
        refine w_val (v_is (v' := .bool true) (v_lss rfl rfl) (by rw [decide_eq_true (by omega)])) rfl ?_
        refine w_val (v_move rfl) rfl ?_
        refine w_want rfl rfl ?_
        refine w_val (v_move rfl) rfl ?_
        refine w_want rfl rfl ?_
        refine w_val (v_is (v' := .bool false) (v_lss rfl rfl) (by rw [decide_eq_false (by omega)])) rfl ?_
        refine w_val (v_pickT rfl rfl) rfl ?_
        refine w_nil ?_
        exact e_cutEnd (()) (trivial) (by repeat (first | exact Sub.nil _ | refine Sub.cons rfl ?_)) (fun _ hw => hw)
      · refine e_region ?_
        refine w_val (v_move rfl) rfl ?_
        refine w_val (v_move rfl) rfl ?_
        refine w_val (v_lenS Try.underlying88 rfl) rfl ?_
        refine w_val (v_is (v' := .bool false) (v_lss rfl rfl) (by rw [decide_eq_false (by omega)])) rfl ?_
        refine w_val (v_move rfl) rfl ?_
        refine w_skip rfl rfl rfl rfl ?_
        refine w_skip rfl rfl rfl rfl ?_
        refine w_val (v_pickF rfl rfl) rfl ?_
        refine w_nil ?_
        exact e_cutEnd (()) (trivial) (by repeat (first | exact Sub.nil _ | refine Sub.cons rfl ?_)) (fun _ hw => hw)
    · rintro - -
      refine e_condF rfl ?_
      refine e_exit rfl ?_
      refine e_seq ?_
      by_cases h100 : 100 < l.length
      · refine e_region ?_
        refine w_val (v_move rfl) rfl ?_
        refine w_val (v_lenS Try.underlying88 rfl) rfl ?_
        refine w_val (v_is (v' := .bool true) (v_gtr rfl rfl) (by rw [decide_eq_true (by omega)])) rfl ?_
        refine w_val (v_move rfl) rfl ?_
        refine w_skip rfl rfl rfl rfl ?_
        refine w_skip rfl rfl rfl rfl ?_
        refine w_val (v_pickT rfl rfl) rfl ?_
        refine w_val (v_assign rfl) rfl ?_
        refine w_nil ?_
        refine e_retQ (q_ret1 rfl (.tmp rfl) ?_)
        exact fun w' hw' => ⟨_, trivial, rfl, hw'.res.nil⟩
      · refine e_region ?_
        refine w_val (v_move rfl) rfl ?_
        refine w_val (v_lenS Try.underlying88 rfl) rfl ?_
        refine w_val (v_is (v' := .bool false) (v_gtr rfl rfl) (by rw [decide_eq_false (by omega)])) rfl ?_
        refine w_val (v_move rfl) rfl ?_
        refine w_want rfl rfl ?_
        refine w_val (v_move rfl) rfl ?_
        refine w_want rfl rfl ?_
        refine w_val (v_gtr rfl rfl) rfl ?_
        refine w_val (v_pickF rfl rfl) rfl ?_
        refine w_val (v_assign rfl) rfl ?_
        refine w_nil ?_
        refine e_retQ (q_ret1 rfl (.tmp rfl) ?_)
        exact fun w' hw' => ⟨_, trivial, rfl, hw'.res.nil⟩
end Go.SL

