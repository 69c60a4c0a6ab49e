/- Ytebdkaadbakhlac: part Y3 of this seat's own texts. -/
import Derived.Test.YtebdkaadbakhlacY2
set_option linter.unusedVariables false
set_option linter.unusedSimpArgs false

open Go Go.Proofs Go.SL
set_option maxRecDepth 100000
set_option maxHeartbeats 4000000
namespace Go.SL
theorem ScV.at {w0 w : World} {F : Nat → Prop} {m : Hp} {y : ChP} {q : QL} (h : St w0 F m w) (i : Nat) (h0 : m[i]? = some (chB y q)) (h1 : m[i + 1]? = some (chW y q)) (h2 : m[i + 2]? = some (chK y q)) : ScV w.cell? y.c y.lv q.L q.k y.vs := by
  refine ScV.ofX (e0 := 97) (tl := chT q.dn (stL q.L q.dn) y.lw) (G := y.G) (fun d hd => ?_)
  simp only [List.mem_cons, List.not_mem_nil, or_false] at hd
  rcases hd with rfl | rfl | rfl
  · exact h.mem h0
  · exact h.mem h1
  · exact h.mem h2
theorem thenL_len (L : List RoundL) (n : Int) : (thenL L n).1.length = 10 := by
  unfold thenL
  split
  · rfl
  · exact stL_len _ _
theorem StoreDoes_spec (v : Value) (l : List SStepL) (n : Int)  (w : World) (h : IsSSteps w.cell? v l) (hin : ∀ x ∈ l, ∀ d ∈ x.round, ∀ o ∈ d, OpIn o) (hl : ∀ x ∈ l, ∀ d ∈ x.round, d.length ≤ 4398046511104) (hmax : l.length ≤ maxLen) :
    Calls Try.prog 10 #[v, .int .i64 n] w fun e w' => e = .returned (.bool true) ∧ Res w [] [] w' := by
  have hs := h
  simp only [maxLen] at hmax
  rw [← off_none w] at h hs
  obtain ⟨A, kp, rfl, hle, hc⟩ := h
  refine enter0 (N := 113) Try.func10 rfl rfl rfl ?_
  refine e_seq ?_
  refine e_region ?_
  refine w_val (v_assign rfl) rfl ?_
  refine w_nil ?_
  refine e_seq ?_
  refine e_seq ?_
  refine e_region ?_
  refine w_op rfl ?_
  refine x_call0 (v := .bool true) rfl rfl rfl Try.call48 rfl (fun w hw => storeBegun_spec w) ?_
  refine w_val (v_not rfl) rfl ?_
  refine w_nil ?_
  refine e_condF rfl ?_
  refine e_skip ?_
  refine e_seq ?_
  refine e_seq ?_
  refine e_region ?_
  refine w_val (v_move rfl) rfl ?_
  refine w_op rfl ?_
  refine x_call (dst := some 15) (mc := []) (mr := []) (σ := Bool) (fun _ => True) (fun b => .bool b) (fun _ => []) rfl rfl rfl Try.call49 (fun w hw => greatSteps_spec _ l w (hs.mono hw.off) hl) rfl (fun b _ => ?_)
  refine w_nil ?_
  cases b with
  | true =>
    refine e_condDT rfl (by omega) ?_
    refine e_seq ?_
    refine e_region ?_
    refine w_val (v_assign rfl) rfl ?_
    refine w_nil ?_
    refine e_retQ (q_ret1 rfl (.tmp rfl) ?_)
    exact fun w' hw' => ⟨rfl, hw'.res.nil⟩
  | false =>
    refine e_condF rfl ?_
    refine e_skip ?_
    refine e_seq ?_
    refine e_region ?_
    refine w_op rfl ?_
    refine x_call (dst := some 16) (mc := []) (σ := StP) (fun _ => True) (fun y => .pointer (some ⟨y.p, 0, none⟩)) (fun y => stH y ⟨[], 0, 0⟩) rfl rfl rfl Try.call50 (fun w _ => stNew_spec w) rfl (fun y _ => ?_); obtain ⟨p, pl, bv0, ev0, A0, k0⟩ := y; dsimp only
    refine w_val (v_build (v := .agg (chR (.slice none 0 0) 0 0 zero10 (.slice none 0 0)).toArray) _ rfl (by intro _; simp [Instr.build, Instr.fill, Try.zeroValue97, chR, chT, intCells, go_sem]; rfl)) rfl ?_
    refine w_op rfl ?_
    refine x_box rfl rfl (fun b18 => ?_)
    refine w_val (v_assign rfl) rfl ?_
    refine w_val (v_assign rfl) rfl ?_
    refine w_nil ?_
    refine e_seq ?_
    refine e_seq ?_
    refine e_region ?_
    refine w_val (v_assign rfl) rfl ?_
    refine w_nil ?_
    refine e_block ?_
    refine e_loopH (σ := Nat × QL × ((Value × Value) × Option Addr × Nat) × (Value × List Value × (Nat → Prop) × Value)) [0, 1, 5, 6] (.cons rfl (.cons rfl (.cons rfl (.cons rfl .nil)))) (fun x => [(7, .int .i64 (x.1 : Int))]) (fun x => chH ⟨b18, x.2.2.2.1, x.2.2.2.2.1, x.2.2.2.2.2.1, x.2.2.2.2.2.2⟩ x.2.1 ++ stH ⟨p, pl, x.2.2.1.1.1, x.2.2.1.1.2, x.2.2.1.2.1, x.2.2.1.2.2⟩ x.2.1) (fun x => x.1 ≤ l.length ∧ x.2.1.Ok) (fun x => l.length - x.1) (0, ⟨[], 0, 0⟩, ((bv0, ev0), A0, k0), (.slice none 0 0, [], feet [], .slice none 0 0)) ⟨Nat.zero_le _, q0_ok⟩ (by repeat (first | exact Sub.nil _ | refine Sub.cons rfl ?_)) (fun _ hw => (((hw.keep0 (Rounds [] []) Rounds.nil).rowNil 38 1).ownNil 30 5).pick [3, 1, 2, 0, 4, 5, 6, 7, 8] (by decide)) ?_
    generalize b18 = c
    rintro ⟨i, q, ⟨⟨bv, ev⟩, A1, k1⟩, ⟨lv, vs, G, lw⟩⟩ ⟨hi, hok⟩
    dsimp only at hi hok ⊢
    refine e_seq ?_
    refine e_seq ?_
    refine e_region ?_
    refine w_val (v_move rfl) rfl ?_
    refine w_val (v_move rfl) rfl ?_
    refine w_val (v_lenS Try.underlying88 rfl) rfl ?_
    refine w_val (v_lss rfl rfl) rfl ?_
    refine w_nil ?_
    refine e_condD rfl (fun hlt => ?_) (fun hlt => ?_)
    · have hi' : i < l.length := by omega
      obtain ⟨ad, u, pv, rfl, hcs, hr, hpp⟩ := hc i hi'
      have hxi := hin _ (List.getElem_mem hi')
      have hok' := doQ_ok hok hxi
      have hcs2 : Cells (off w (feet [])) (ad.add (((i : Nat) : Int).toNat * 4)) (sstC l[i] u pv) := by rw [Int.toNat_natCast]; exact hcs
      generalize l[i] = x at *
      generalize hqc : doQ q x = qc at *
      obtain ⟨q2, c2⟩ := qc
      dsimp only at hok'
      have hz2 := stL_len q2.L q2.dn
      have h8 := hok'.last8 hok'.len
      refine e_skip ?_
      refine e_seq ?_
      refine e_block ?_
      refine e_seq ?_
      refine e_draw (([] : Hp)) Try.mixed ?_
      refine a_take 0 pan_cx (by kernel_rfl) (fun _ hw => hw.sub (by repeat (first | exact List.Sublist.slnil | exact List.Sublist.refl _ | apply List.Sublist.cons_cons | apply List.Sublist.cons))) rfl (by kernel_rfl) (by kernel_rfl) (v_move rfl) rfl ?_
      refine a_take 1 pan_cx (by kernel_rfl) (fun _ hw => hw.sub (by repeat (first | exact List.Sublist.slnil | exact List.Sublist.refl _ | apply List.Sublist.cons_cons | apply List.Sublist.cons))) rfl (by kernel_rfl) (by kernel_rfl) (v_move rfl) rfl ?_
      refine a_take 2 pan_cx (by kernel_rfl) (fun _ hw => hw.sub (by repeat (first | exact List.Sublist.slnil | exact List.Sublist.refl _ | apply List.Sublist.cons_cons | apply List.Sublist.cons))) rfl (by kernel_rfl) (by kernel_rfl) (v_move rfl) rfl ?_
      refine a_take 3 pan_cx (by kernel_rfl) (fun _ hw => hw.sub (by repeat (first | exact List.Sublist.slnil | exact List.Sublist.refl _ | apply List.Sublist.cons_cons | apply List.Sublist.cons))) rfl (by kernel_rfl) (by kernel_rfl) (v_indexS Try.underlying88 Try.hi100 Try.cz100 rfl rfl (by first | omega | decide)) rfl ?_
      refine a_take 4 pan_cx (by kernel_rfl) (fun _ hw => hw.sub (by repeat (first | exact List.Sublist.slnil | exact List.Sublist.refl _ | apply List.Sublist.cons_cons | apply List.Sublist.cons))) rfl (by kernel_rfl) (by kernel_rfl) (v_loadON Try.underlying100 rfl Try.hi100 rfl (hcs2) Try.cz100) rfl ?_
      refine a_take 6 pan_cx (by kernel_rfl) (fun _ hw => hw.sub (by repeat (first | exact List.Sublist.slnil | exact List.Sublist.refl _ | apply List.Sublist.cons_cons | apply List.Sublist.cons))) rfl (by kernel_rfl) (by kernel_rfl) (v_move rfl) rfl ?_
      refine a_take 7 pan_cx (by kernel_rfl) (fun _ hw => hw.sub (by repeat (first | exact List.Sublist.slnil | exact List.Sublist.refl _ | apply List.Sublist.cons_cons | apply List.Sublist.cons))) rfl (by kernel_rfl) (by kernel_rfl) (v_move rfl) rfl ?_
      refine a_take 8 pan_cx (by kernel_rfl) (fun _ hw => hw.sub (by repeat (first | exact List.Sublist.slnil | exact List.Sublist.refl _ | apply List.Sublist.cons_cons | apply List.Sublist.cons))) rfl (by kernel_rfl) (by kernel_rfl) (v_move rfl) rfl ?_
      refine a_take 9 pan_cx (by kernel_rfl) (fun _ hw => hw.sub (by repeat (first | exact List.Sublist.slnil | exact List.Sublist.refl _ | apply List.Sublist.cons_cons | apply List.Sublist.cons))) rfl (by kernel_rfl) (by kernel_rfl) (v_indexS Try.underlying88 Try.hi100 Try.cz100 rfl rfl (by first | omega | decide)) rfl ?_
      refine a_take 10 pan_cx (by kernel_rfl) (fun _ hw => hw.sub (by repeat (first | exact List.Sublist.slnil | exact List.Sublist.refl _ | apply List.Sublist.cons_cons | apply List.Sublist.cons))) rfl (by kernel_rfl) (by kernel_rfl) (v_loadON Try.underlying100 rfl Try.hi100 rfl (hcs2) Try.cz100) rfl ?_
      refine a_one 5 (by kernel_rfl) rfl rfl ?_
      refine x_callM (dst := some 30) (stH ⟨p, pl, bv, ev, A1, k1⟩ q) (chH ⟨c, lv, vs, G, lw⟩ q) (σ := (Value × Value) × Option Addr × Nat) (fun _ => True) (fun _ => .int .i64 c2) (fun z => stH ⟨p, pl, z.1.1, z.1.2, z.2.1, z.2.2⟩ q2) (List.perm_append_comm (l₁ := [_, _, _, _])) rfl rfl rfl Try.call51 (fun w hw => by have := stDo_spec ⟨p, pl, bv, ev, A1, k1⟩ q x u pv w (res_part hw).1 (res_part hw).2 hok (hr.mono (hw.offm (fun c hc => List.mem_append_left _ hc))) (Rds.mono (hw.offm (fun c hc => List.mem_append_left _ hc)) hpp) hxi; rwa [hqc] at this) rfl (fun z _ => ?_); obtain ⟨⟨bv2, ev2⟩, A2, k2⟩ := z; dsimp only
      refine a_and (fun _ hw => hw.sub (by repeat (first | exact List.Sublist.slnil | exact List.Sublist.refl _ | apply List.Sublist.cons_cons | apply List.Sublist.cons))) ?_
      refine a_one 11 (by kernel_rfl) rfl rfl ?_
      refine x_callM (dst := some 36) (chH ⟨c, lv, vs, G, lw⟩ q) (stH ⟨p, pl, bv2, ev2, A2, k2⟩ q2) (σ := Value × List Value × (Nat → Prop) × Value) (fun _ => True) (fun _ => .int .i64 c2) (fun z => chH ⟨c, z.1, z.2.1, z.2.2.1, z.2.2.2⟩ q2) (List.perm_append_comm (l₁ := [_, _, _, _, _])) rfl rfl rfl Try.call52 (fun w hw => by have := chDo_spec ⟨c, lv, vs, G, lw⟩ q x u pv w (res_part hw).1 (res_part hw).2 hok (hr.mono (hw.offm (fun c hc => List.mem_append_left _ hc))) (Rds.mono (hw.offm (fun c hc => List.mem_append_left _ hc)) hpp) hxi; rwa [hqc] at this) rfl (fun z _ => ?_); obtain ⟨lv2, vs2, G2, lw2⟩ := z; dsimp only; refine g_shapeR 1 rfl fun Al kl hlv _ => ?_; subst hlv
      refine a_and (fun _ hw => hw.sub (by repeat (first | exact List.Sublist.slnil | exact List.Sublist.refl _ | apply List.Sublist.cons_cons | apply List.Sublist.cons))) ?_
      refine a_base (chH ⟨c, .slice Al q2.L.length kl, vs2, G2, lw2⟩ q2 ++ stH ⟨p, pl, bv2, ev2, A2, k2⟩ q2) (fun _ hw => hw.sub (by repeat (first | exact List.Sublist.slnil | exact List.Sublist.refl _ | apply List.Sublist.cons_cons | apply List.Sublist.cons))) ?_
      refine a_take 12 pan_cx (by kernel_rfl) (fun _ hw => hw.sub (by repeat (first | exact List.Sublist.slnil | exact List.Sublist.refl _ | apply List.Sublist.cons_cons | apply List.Sublist.cons))) rfl (by kernel_rfl) (by kernel_rfl) (v_is (v' := .bool false) (v_neq rfl rfl) (by rw [decide_eq_false (fun h => h rfl)])) rfl ?_
      refine a_take 13 pan_cx (by kernel_rfl) (fun _ hw => hw.sub (by repeat (first | exact List.Sublist.slnil | exact List.Sublist.refl _ | apply List.Sublist.cons_cons | apply List.Sublist.cons))) rfl (by kernel_rfl) (by kernel_rfl) (v_move rfl) rfl ?_
      refine a_want 14 pan_cx (by kernel_rfl) (fun _ hw => hw.sub (by repeat (first | exact List.Sublist.slnil | exact List.Sublist.refl _ | apply List.Sublist.cons_cons | apply List.Sublist.cons))) rfl (by kernel_rfl) (by kernel_rfl) rfl rfl (v_move rfl) rfl ?_
      refine a_want 16 pan_cx (by kernel_rfl) (fun _ hw => hw.sub (by repeat (first | exact List.Sublist.slnil | exact List.Sublist.refl _ | apply List.Sublist.cons_cons | apply List.Sublist.cons))) rfl (by kernel_rfl) (by kernel_rfl) rfl rfl (v_move rfl) rfl ?_
      refine a_want 17 pan_cx (by kernel_rfl) (fun _ hw => hw.sub (by repeat (first | exact List.Sublist.slnil | exact List.Sublist.refl _ | apply List.Sublist.cons_cons | apply List.Sublist.cons))) rfl (by kernel_rfl) (by kernel_rfl) rfl rfl (v_nilCheck rfl) rfl ?_
      refine a_want 18 pan_cx (by kernel_rfl) (fun _ hw => hw.sub (by repeat (first | exact List.Sublist.slnil | exact List.Sublist.refl _ | apply List.Sublist.cons_cons | apply List.Sublist.cons))) rfl (by kernel_rfl) (by kernel_rfl) rfl rfl (v_fieldAddrB (o := 2) Try.underlying97 rfl rfl Try.nz3 rfl) rfl ?_
      refine a_want 19 pan_cx (by kernel_rfl) (fun _ hw => hw.sub (by repeat (first | exact List.Sublist.slnil | exact List.Sublist.refl _ | apply List.Sublist.cons_cons | apply List.Sublist.cons))) rfl (by kernel_rfl) (by kernel_rfl) rfl rfl (v_loadB 0 rfl Try.underlying3 rfl rfl rfl) rfl ?_
      refine a_oneW 15 (by kernel_rfl) rfl rfl rfl ?_
      refine x_call0 (v := .int .i64 (q2.dn : Int)) rfl rfl rfl Try.call53 rfl (fun w hw => stDone_spec ⟨p, pl, bv2, ev2, A2, k2⟩ q2 w (StV.at (y := ⟨p, pl, bv2, ev2, A2, k2⟩) (q := q2) hw 4 rfl rfl rfl rfl rfl)) ?_
      refine a_and (fun _ hw => hw.sub (by repeat (first | exact List.Sublist.slnil | exact List.Sublist.refl _ | apply List.Sublist.cons_cons | apply List.Sublist.cons))) ?_
      refine a_want 20 pan_cx (by kernel_rfl) (fun _ hw => hw.sub (by repeat (first | exact List.Sublist.slnil | exact List.Sublist.refl _ | apply List.Sublist.cons_cons | apply List.Sublist.cons))) rfl (by kernel_rfl) (by kernel_rfl) rfl rfl (v_is (v' := .bool false) (v_neq rfl rfl) (by rw [decide_eq_false (fun h => h rfl)])) rfl ?_
      refine a_take 21 pan_cx (by kernel_rfl) (fun _ hw => hw.sub (by repeat (first | exact List.Sublist.slnil | exact List.Sublist.refl _ | apply List.Sublist.cons_cons | apply List.Sublist.cons))) rfl (by kernel_rfl) (by kernel_rfl) (v_pickF rfl rfl) rfl ?_
      refine a_take 22 pan_cx (by kernel_rfl) (fun _ hw => hw.sub (by repeat (first | exact List.Sublist.slnil | exact List.Sublist.refl _ | apply List.Sublist.cons_cons | apply List.Sublist.cons))) rfl (by kernel_rfl) (by kernel_rfl) (v_move rfl) rfl ?_
      refine a_want 23 pan_cx (by kernel_rfl) (fun _ hw => hw.sub (by repeat (first | exact List.Sublist.slnil | exact List.Sublist.refl _ | apply List.Sublist.cons_cons | apply List.Sublist.cons))) rfl (by kernel_rfl) (by kernel_rfl) rfl rfl (v_move rfl) rfl ?_
      refine a_want 25 pan_cx (by kernel_rfl) (fun _ hw => hw.sub (by repeat (first | exact List.Sublist.slnil | exact List.Sublist.refl _ | apply List.Sublist.cons_cons | apply List.Sublist.cons))) rfl (by kernel_rfl) (by kernel_rfl) rfl rfl (v_move rfl) rfl ?_
      refine a_want 26 pan_cx (by kernel_rfl) (fun _ hw => hw.sub (by repeat (first | exact List.Sublist.slnil | exact List.Sublist.refl _ | apply List.Sublist.cons_cons | apply List.Sublist.cons))) rfl (by kernel_rfl) (by kernel_rfl) rfl rfl (v_nilCheck rfl) rfl ?_
      refine a_want 27 pan_cx (by kernel_rfl) (fun _ hw => hw.sub (by repeat (first | exact List.Sublist.slnil | exact List.Sublist.refl _ | apply List.Sublist.cons_cons | apply List.Sublist.cons))) rfl (by kernel_rfl) (by kernel_rfl) rfl rfl (v_fieldAddrB (o := 3) Try.underlying97 rfl rfl Try.nz23 rfl) rfl ?_
      refine a_want 28 pan_cx (by kernel_rfl) (fun _ hw => hw.sub (by repeat (first | exact List.Sublist.slnil | exact List.Sublist.refl _ | apply List.Sublist.cons_cons | apply List.Sublist.cons))) rfl (by kernel_rfl) (by kernel_rfl) rfl rfl (v_loadBN (cs' := intCells (stL q2.L q2.dn)) 0 rfl Try.underlying23 rfl Try.hi23 Try.cz23 rfl (chR_st hz2) (by simp [intCells, hz2])) rfl ?_
      refine a_oneW 24 (by kernel_rfl) rfl rfl rfl ?_
      refine x_call0 (v := intsV (stL q2.L q2.dn)) rfl rfl rfl Try.call54 rfl (fun w hw => stState_spec ⟨p, pl, bv2, ev2, A2, k2⟩ q2 w (StV.at (y := ⟨p, pl, bv2, ev2, A2, k2⟩) (q := q2) hw 4 rfl rfl rfl rfl rfl)) ?_
      refine a_and (fun _ hw => hw.sub (by repeat (first | exact List.Sublist.slnil | exact List.Sublist.refl _ | apply List.Sublist.cons_cons | apply List.Sublist.cons))) ?_
      refine a_want 29 pan_cx (by kernel_rfl) (fun _ hw => hw.sub (by repeat (first | exact List.Sublist.slnil | exact List.Sublist.refl _ | apply List.Sublist.cons_cons | apply List.Sublist.cons))) rfl (by kernel_rfl) (by kernel_rfl) rfl rfl (v_is (v' := .bool false) (v_neqInts (p := stL q2.L q2.dn) (q := stL q2.L q2.dn) Try.underlying23 (by kernel_rfl) Try.underlying2 Try.hi2 Try.cz2 hz2 hz2 rfl rfl) (congrArg Value.bool (decide_eq_false (fun h => h rfl)))) rfl ?_
      refine a_take 30 pan_cx (by kernel_rfl) (fun _ hw => hw.sub (by repeat (first | exact List.Sublist.slnil | exact List.Sublist.refl _ | apply List.Sublist.cons_cons | apply List.Sublist.cons))) rfl (by kernel_rfl) (by kernel_rfl) (v_pickF rfl rfl) rfl ?_
      refine a_take 31 pan_cx (by kernel_rfl) (fun _ hw => hw.sub (by repeat (first | exact List.Sublist.slnil | exact List.Sublist.refl _ | apply List.Sublist.cons_cons | apply List.Sublist.cons))) rfl (by kernel_rfl) (by kernel_rfl) (v_move rfl) rfl ?_
      refine a_want 32 pan_cx (by kernel_rfl) (fun _ hw => hw.sub (by repeat (first | exact List.Sublist.slnil | exact List.Sublist.refl _ | apply List.Sublist.cons_cons | apply List.Sublist.cons))) rfl (by kernel_rfl) (by kernel_rfl) rfl rfl (v_move rfl) rfl ?_
      refine a_want 33 pan_cx (by kernel_rfl) (fun _ hw => hw.sub (by repeat (first | exact List.Sublist.slnil | exact List.Sublist.refl _ | apply List.Sublist.cons_cons | apply List.Sublist.cons))) rfl (by kernel_rfl) (by kernel_rfl) rfl rfl (v_nilCheck rfl) rfl ?_
      refine a_want 34 pan_cx (by kernel_rfl) (fun _ hw => hw.sub (by repeat (first | exact List.Sublist.slnil | exact List.Sublist.refl _ | apply List.Sublist.cons_cons | apply List.Sublist.cons))) rfl (by kernel_rfl) (by kernel_rfl) rfl rfl (v_fieldAddrB (o := 0) Try.underlying103 rfl rfl Try.nz101 rfl) rfl ?_
      refine a_want 35 pan_cx (by kernel_rfl) (fun _ hw => hw.sub (by repeat (first | exact List.Sublist.slnil | exact List.Sublist.refl _ | apply List.Sublist.cons_cons | apply List.Sublist.cons))) rfl (by kernel_rfl) (by kernel_rfl) rfl rfl (v_loadB 4 rfl Try.underlying101 rfl rfl rfl) rfl ?_
      refine a_want 37 pan_cx (by kernel_rfl) (fun _ hw => hw.sub (by repeat (first | exact List.Sublist.slnil | exact List.Sublist.refl _ | apply List.Sublist.cons_cons | apply List.Sublist.cons))) rfl (by kernel_rfl) (by kernel_rfl) rfl rfl (v_move rfl) rfl ?_
      refine a_want 38 pan_cx (by kernel_rfl) (fun _ hw => hw.sub (by repeat (first | exact List.Sublist.slnil | exact List.Sublist.refl _ | apply List.Sublist.cons_cons | apply List.Sublist.cons))) rfl (by kernel_rfl) (by kernel_rfl) rfl rfl (v_nilCheck rfl) rfl ?_
      refine a_want 39 pan_cx (by kernel_rfl) (fun _ hw => hw.sub (by repeat (first | exact List.Sublist.slnil | exact List.Sublist.refl _ | apply List.Sublist.cons_cons | apply List.Sublist.cons))) rfl (by kernel_rfl) (by kernel_rfl) rfl rfl (v_fieldAddrB (o := 0) Try.underlying97 rfl rfl Try.nz95 rfl) rfl ?_
      refine a_want 40 pan_cx (by kernel_rfl) (fun _ hw => hw.sub (by repeat (first | exact List.Sublist.slnil | exact List.Sublist.refl _ | apply List.Sublist.cons_cons | apply List.Sublist.cons))) rfl (by kernel_rfl) (by kernel_rfl) rfl rfl (v_fieldAddrB (o := 0) Try.underlying95 rfl rfl Try.nz93 rfl) rfl ?_
      refine a_want 41 pan_cx (by kernel_rfl) (fun _ hw => hw.sub (by repeat (first | exact List.Sublist.slnil | exact List.Sublist.refl _ | apply List.Sublist.cons_cons | apply List.Sublist.cons))) rfl (by kernel_rfl) (by kernel_rfl) rfl rfl (v_loadB 0 rfl Try.underlying93 rfl rfl rfl) rfl ?_
      refine a_want 42 pan_cx (by kernel_rfl) (fun _ hw => hw.sub (by repeat (first | exact List.Sublist.slnil | exact List.Sublist.refl _ | apply List.Sublist.cons_cons | apply List.Sublist.cons))) rfl (by kernel_rfl) (by kernel_rfl) rfl rfl (v_lenS Try.underlying93 rfl) rfl ?_
      refine a_oneW 36 (by kernel_rfl) rfl rfl rfl ?_
      refine x_call0 (v := .int .i64 (q2.L.length : Int)) rfl rfl rfl Try.call55 rfl (fun w hw => logLen_spec pl bv2 ev2 q2.L q2.k w (StV.at (y := ⟨p, pl, bv2, ev2, A2, k2⟩) (q := q2) hw 4 rfl rfl rfl rfl rfl).lg) ?_
      refine a_and (fun _ hw => hw.sub (by repeat (first | exact List.Sublist.slnil | exact List.Sublist.refl _ | apply List.Sublist.cons_cons | apply List.Sublist.cons))) ?_
      refine a_want 43 pan_cx (by kernel_rfl) (fun _ hw => hw.sub (by repeat (first | exact List.Sublist.slnil | exact List.Sublist.refl _ | apply List.Sublist.cons_cons | apply List.Sublist.cons))) rfl (by kernel_rfl) (by kernel_rfl) rfl rfl (v_is (v' := .bool false) (v_neq rfl rfl) (by rw [decide_eq_false (fun h => h rfl)])) rfl ?_
      refine a_take 44 pan_cx (by kernel_rfl) (fun _ hw => hw.sub (by repeat (first | exact List.Sublist.slnil | exact List.Sublist.refl _ | apply List.Sublist.cons_cons | apply List.Sublist.cons))) rfl (by kernel_rfl) (by kernel_rfl) (v_pickF rfl rfl) rfl ?_
      refine a_take 45 pan_cx (by kernel_rfl) (fun _ hw => hw.sub (by repeat (first | exact List.Sublist.slnil | exact List.Sublist.refl _ | apply List.Sublist.cons_cons | apply List.Sublist.cons))) rfl (by kernel_rfl) (by kernel_rfl) (v_move rfl) rfl ?_
      refine a_want 46 pan_cx (by kernel_rfl) (fun _ hw => hw.sub (by repeat (first | exact List.Sublist.slnil | exact List.Sublist.refl _ | apply List.Sublist.cons_cons | apply List.Sublist.cons))) rfl (by kernel_rfl) (by kernel_rfl) rfl rfl (v_move rfl) rfl ?_
      refine a_want 47 pan_cx (by kernel_rfl) (fun _ hw => hw.sub (by repeat (first | exact List.Sublist.slnil | exact List.Sublist.refl _ | apply List.Sublist.cons_cons | apply List.Sublist.cons))) rfl (by kernel_rfl) (by kernel_rfl) rfl rfl (v_nilCheck rfl) rfl ?_
      refine a_want 48 pan_cx (by kernel_rfl) (fun _ hw => hw.sub (by repeat (first | exact List.Sublist.slnil | exact List.Sublist.refl _ | apply List.Sublist.cons_cons | apply List.Sublist.cons))) rfl (by kernel_rfl) (by kernel_rfl) rfl rfl (v_fieldAddrB (o := 0) Try.underlying103 rfl rfl Try.nz101 rfl) rfl ?_
      refine a_want 49 pan_cx (by kernel_rfl) (fun _ hw => hw.sub (by repeat (first | exact List.Sublist.slnil | exact List.Sublist.refl _ | apply List.Sublist.cons_cons | apply List.Sublist.cons))) rfl (by kernel_rfl) (by kernel_rfl) rfl rfl (v_loadB 4 rfl Try.underlying101 rfl rfl rfl) rfl ?_
      refine a_want 51 pan_cx (by kernel_rfl) (fun _ hw => hw.sub (by repeat (first | exact List.Sublist.slnil | exact List.Sublist.refl _ | apply List.Sublist.cons_cons | apply List.Sublist.cons))) rfl (by kernel_rfl) (by kernel_rfl) rfl rfl (v_move rfl) rfl ?_
      refine a_want 52 pan_cx (by kernel_rfl) (fun _ hw => hw.sub (by repeat (first | exact List.Sublist.slnil | exact List.Sublist.refl _ | apply List.Sublist.cons_cons | apply List.Sublist.cons))) rfl (by kernel_rfl) (by kernel_rfl) rfl rfl (v_nilCheck rfl) rfl ?_
      refine a_want 53 pan_cx (by kernel_rfl) (fun _ hw => hw.sub (by repeat (first | exact List.Sublist.slnil | exact List.Sublist.refl _ | apply List.Sublist.cons_cons | apply List.Sublist.cons))) rfl (by kernel_rfl) (by kernel_rfl) rfl rfl (v_fieldAddrB (o := 0) Try.underlying97 rfl rfl Try.nz95 rfl) rfl ?_
      refine a_want 54 pan_cx (by kernel_rfl) (fun _ hw => hw.sub (by repeat (first | exact List.Sublist.slnil | exact List.Sublist.refl _ | apply List.Sublist.cons_cons | apply List.Sublist.cons))) rfl (by kernel_rfl) (by kernel_rfl) rfl rfl (v_fieldAddrB (o := 1) Try.underlying95 rfl rfl Try.nz3 rfl) rfl ?_
      refine a_want 55 pan_cx (by kernel_rfl) (fun _ hw => hw.sub (by repeat (first | exact List.Sublist.slnil | exact List.Sublist.refl _ | apply List.Sublist.cons_cons | apply List.Sublist.cons))) rfl (by kernel_rfl) (by kernel_rfl) rfl rfl (v_loadB 0 rfl Try.underlying3 rfl rfl rfl) rfl ?_
      refine a_oneW 50 (by kernel_rfl) rfl rfl rfl ?_
      refine x_call0 (v := .int .i64 (q2.k : Int)) rfl rfl rfl Try.call56 rfl (fun w hw => logSure_spec pl bv2 ev2 q2.L q2.k w (StV.at (y := ⟨p, pl, bv2, ev2, A2, k2⟩) (q := q2) hw 4 rfl rfl rfl rfl rfl).lg hok'.log.len hok'.log.sure) ?_
      refine a_and (fun _ hw => hw.sub (by repeat (first | exact List.Sublist.slnil | exact List.Sublist.refl _ | apply List.Sublist.cons_cons | apply List.Sublist.cons))) ?_
      refine a_want 56 pan_cx (by kernel_rfl) (fun _ hw => hw.sub (by repeat (first | exact List.Sublist.slnil | exact List.Sublist.refl _ | apply List.Sublist.cons_cons | apply List.Sublist.cons))) rfl (by kernel_rfl) (by kernel_rfl) rfl rfl (v_is (v' := .bool false) (v_neq rfl rfl) (by rw [decide_eq_false (fun h => h rfl)])) rfl ?_
      refine a_take 57 pan_cx (by kernel_rfl) (fun _ hw => hw.sub (by repeat (first | exact List.Sublist.slnil | exact List.Sublist.refl _ | apply List.Sublist.cons_cons | apply List.Sublist.cons))) rfl (by kernel_rfl) (by kernel_rfl) (v_pickF rfl rfl) rfl ?_
      refine a_take 58 pan_cx (by kernel_rfl) (fun _ hw => hw.sub (by repeat (first | exact List.Sublist.slnil | exact List.Sublist.refl _ | apply List.Sublist.cons_cons | apply List.Sublist.cons))) rfl (by kernel_rfl) (by kernel_rfl) (v_move rfl) rfl ?_
      refine a_want 59 pan_cx (by kernel_rfl) (fun _ hw => hw.sub (by repeat (first | exact List.Sublist.slnil | exact List.Sublist.refl _ | apply List.Sublist.cons_cons | apply List.Sublist.cons))) rfl (by kernel_rfl) (by kernel_rfl) rfl rfl (v_move rfl) rfl ?_
      refine a_want 61 pan_cx (by kernel_rfl) (fun _ hw => hw.sub (by repeat (first | exact List.Sublist.slnil | exact List.Sublist.refl _ | apply List.Sublist.cons_cons | apply List.Sublist.cons))) rfl (by kernel_rfl) (by kernel_rfl) rfl rfl (v_move rfl) rfl ?_
      refine a_want 62 pan_cx (by kernel_rfl) (fun _ hw => hw.sub (by repeat (first | exact List.Sublist.slnil | exact List.Sublist.refl _ | apply List.Sublist.cons_cons | apply List.Sublist.cons))) rfl (by kernel_rfl) (by kernel_rfl) rfl rfl (v_nilCheck rfl) rfl ?_
      refine a_want 63 pan_cx (by kernel_rfl) (fun _ hw => hw.sub (by repeat (first | exact List.Sublist.slnil | exact List.Sublist.refl _ | apply List.Sublist.cons_cons | apply List.Sublist.cons))) rfl (by kernel_rfl) (by kernel_rfl) rfl rfl (v_fieldAddrB (o := 13) Try.underlying97 rfl rfl Try.nz57 rfl) rfl ?_
      refine a_want 64 pan_cx (by kernel_rfl) (fun _ hw => hw.sub (by repeat (first | exact List.Sublist.slnil | exact List.Sublist.refl _ | apply List.Sublist.cons_cons | apply List.Sublist.cons))) rfl (by kernel_rfl) (by kernel_rfl) rfl rfl (v_loadB 0 rfl Try.underlying57 rfl rfl (chR_last hz2)) rfl ?_
      refine a_oneW 60 (by kernel_rfl) rfl rfl rfl ?_
      refine x_call (dst := some 85) (mc := []) (σ := Value) (fun _ => True) (fun sl => sl) (fun sl => [Own sl 30 5 (lastL q2.L q2.dn).length (resL (lastL q2.L q2.dn))]) rfl rfl rfl Try.call57 (fun w hw => stLast_spec ⟨p, pl, bv2, ev2, A2, k2⟩ q2 w (StV.at (y := ⟨p, pl, bv2, ev2, A2, k2⟩) (q := q2) hw 4 rfl rfl rfl rfl rfl) h8) rfl (fun ol _ => ?_)
      refine a_and (fun _ hw => hw.sub (by repeat (first | exact List.Sublist.slnil | exact List.Sublist.refl _ | apply List.Sublist.cons_cons | apply List.Sublist.cons))) ?_
      refine a_oneW 65 (by kernel_rfl) rfl rfl rfl ?_
      refine x_call0 (v := .bool true) rfl rfl rfl Try.call30 rfl (fun w hw => by have := sameResults_spec ol lw2 (lastL q2.L q2.dn) (lastL q2.L q2.dn) w (own_rds (hw.mem (i := 0) rfl)) (own_rds (hw.mem (i := 4) rfl)) (lastL_regs _ _) (lastL_regs _ _) (by omega); rwa [decide_eq_true rfl] at this) ?_
      refine a_and (fun _ hw => hw.sub (by repeat (first | exact List.Sublist.slnil | exact List.Sublist.refl _ | apply List.Sublist.cons_cons | apply List.Sublist.cons))) ?_
      refine a_want 66 pan_cx (by kernel_rfl) (fun _ hw => hw.sub (by repeat (first | exact List.Sublist.slnil | exact List.Sublist.refl _ | apply List.Sublist.cons_cons | apply List.Sublist.cons))) rfl (by kernel_rfl) (by kernel_rfl) rfl rfl (v_is (v' := .bool false) (v_not rfl) (by rfl)) rfl ?_
      refine a_take 67 pan_cx (by kernel_rfl) (fun _ hw => hw.sub (by repeat (first | exact List.Sublist.slnil | exact List.Sublist.refl _ | apply List.Sublist.cons_cons | apply List.Sublist.cons))) rfl (by kernel_rfl) (by kernel_rfl) (v_pickF rfl rfl) rfl ?_
      refine a_done (by kernel_rfl) ?_
      refine e_condF rfl ?_
      refine e_skip ?_
      refine e_blk ?_
      refine e_region ?_
      refine w_val (v_move rfl) rfl ?_
      refine w_val (v_add rfl rfl (by omega)) rfl ?_
      refine w_val (v_assign rfl) rfl ?_
      refine w_nil ?_
      exact e_round ((i + 1, q2, ((bv2, ev2), A2, k2), (.slice Al q2.L.length kl, vs2, G2, lw2))) (⟨by dsimp only; omega, hok'⟩) (by dsimp only; omega) (by repeat (first | exact Sub.nil _ | refine Sub.cons rfl ?_)) (fun _ hw => hw.pick [1, 2, 3, 4, 5, 6, 7, 8, 9] (by decide))
    · have hsth := fun (w1 : World) (hv : StV w1.cell? ⟨p, pl, bv, ev, A1, k1⟩ q) => stThen_spec ⟨p, pl, bv, ev, A1, k1⟩ q n w1 hv hok
      have hcth := fun (w1 : World) (hv : ScV w1.cell? c lv q.L q.k vs) => chThen_spec c lv vs q n w1 hv hok
      have hz := thenL_len q.L n
      generalize thenL q.L n = tn at *
      obtain ⟨z, bb⟩ := tn
      dsimp only at hsth hcth hz
      have hlz : (intCells z).length = 10 := by simp [intCells, hz]
      refine e_exit rfl ?_
      refine e_seq ?_
      refine e_region ?_
      refine w_val (v_move rfl) rfl ?_
      refine w_val (v_move rfl) rfl ?_
      refine w_op rfl ?_
      refine x_call0 (v := .tuple #[intsV z, .bool bb]) rfl rfl rfl Try.call58 rfl (fun w hw => hsth w (StV.at (y := ⟨p, pl, bv, ev, A1, k1⟩) (q := q) hw 4 rfl rfl rfl rfl rfl)) ?_
      refine w_val (v_move rfl) rfl ?_
      refine w_val (v_extract rfl rfl) rfl ?_
      refine w_val (v_extract rfl rfl) rfl ?_
      refine w_op rfl ?_
      refine x_alloc (z := .agg #[.int .i64 0, .int .i64 0, .int .i64 0, .int .i64 0, .int .i64 0, .int .i64 0, .int .i64 0, .int .i64 0, .int .i64 0, .int .i64 0]) (by intro w; exact Try.zeroValue23 w) rfl (fun b8 => ?_)
      refine w_op rfl ?_
      refine x_storeA 0 rfl rfl rfl Try.hi23 (Try.cz23.trans (by simp [Value.cells, intsV, resCells, intCells, hz])) (by simp [Value.cells, intsV, resCells, intCells, hz]) (by first | exact one_intCells _ | exact one_resCells _ _) ?_
      refine w_val (v_assign rfl) rfl ?_
      refine w_nil ?_
      refine e_seq ?_
      refine e_region ?_
      refine w_val (v_move rfl) rfl ?_
      refine w_val (v_move rfl) rfl ?_
      refine w_op rfl ?_
      refine x_call0 (v := .tuple #[intsV z, .bool bb]) rfl rfl rfl Try.call59 rfl (fun w hw => hcth w (ScV.at (y := ⟨c, lv, vs, G, lw⟩) (q := q) hw 1 rfl rfl rfl)) ?_
      refine w_val (v_move rfl) rfl ?_
      refine w_val (v_extract rfl rfl) rfl ?_
      refine w_val (v_extract rfl rfl) rfl ?_
      refine w_op rfl ?_
      refine x_alloc (z := .agg #[.int .i64 0, .int .i64 0, .int .i64 0, .int .i64 0, .int .i64 0, .int .i64 0, .int .i64 0, .int .i64 0, .int .i64 0, .int .i64 0]) (by intro w; exact Try.zeroValue23 w) rfl (fun b10 => ?_)
      refine w_op rfl ?_
      refine x_storeA 0 rfl rfl rfl Try.hi23 (Try.cz23.trans (by simp [Value.cells, intsV, resCells, intCells, hz])) (by simp [Value.cells, intsV, resCells, intCells, hz]) (by first | exact one_intCells _ | exact one_resCells _ _) ?_
      refine w_val (v_assign rfl) rfl ?_
      refine w_nil ?_
      refine e_seq ?_
      refine e_region ?_
      refine w_val (v_loadBA 1 rfl Try.underlying23 rfl Try.hi23 (Try.cz23.trans hlz.symm) rfl) rfl ?_
      refine w_val (v_loadBA 0 rfl Try.underlying23 rfl Try.hi23 (Try.cz23.trans hlz.symm) rfl) rfl ?_
      refine w_val (v_is (v' := .bool true) (v_eqlInts (p := z) (q := z) Try.underlying23 (by kernel_rfl) Try.underlying2 Try.hi2 Try.cz2 hz hz rfl rfl) (congrArg Value.bool (decide_eq_true rfl))) rfl ?_
      refine w_val (v_move rfl) rfl ?_
      refine w_want rfl rfl ?_
      refine w_val (v_move rfl) rfl ?_
      refine w_want rfl rfl ?_
      refine w_val (v_move rfl) rfl ?_
      refine w_want rfl rfl ?_
      refine w_val (v_is (v' := .bool true) (v_eqlBool Try.underlying4 rfl rfl) (by cases bb <;> rfl)) rfl ?_
      refine w_val (v_pickT rfl rfl) rfl ?_
      refine w_val (v_assign rfl) rfl ?_
      refine w_nil ?_
      refine e_retQ (q_ret1 rfl (.tmp rfl) ?_)
      exact fun w' hw' => ⟨rfl, hw'.res.nil⟩
end Go.SL

