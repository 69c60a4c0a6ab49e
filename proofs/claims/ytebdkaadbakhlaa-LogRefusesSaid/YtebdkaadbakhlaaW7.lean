/- Ytebdkaadbakhlaa: part W7 of this seat's own texts. -/
import Derived.Test.YtebdkaadbakhlaaW6
import Derived.Test.YtebdkaadbakhlaaP4
import Derived.Test.YtebdkaadbakhlaaP3
set_option linter.unusedVariables false
set_option linter.unusedSimpArgs false
section
open Go Go.Proofs Go.SL
set_option maxRecDepth 100000
namespace Go.SL
def stepLog (L : List RoundL) (k : Nat) (x : StepL) : List RoundL × Nat :=
  if x.do_ = 0 then ((putL L x.round).1, k) else if x.do_ = 1 then (L, L.length) else if x.do_ = 2 then (L.take (crashL L k x.keep), crashL L k x.keep) else (L, k)
theorem putL_logOk {L : List RoundL} {k : Nat} {r : RoundL} (h : LogOk L k) (hin : ∀ d ∈ r, ∀ o ∈ d, OpIn o) : LogOk (putL L r).1 k := by
  by_cases hf : roundFaultL r ≠ 0
  · rw [putL_bad hf]; exact h
  · by_cases h2 : L.length = 25 ∨ 4000 < (bytesOf L).length + (encL r).length
    · rw [putL_full hf h2]; exact h
    · rw [putL_ok hf h2]
      have := h.len
      refine ⟨by simp; omega, by rw [bytesOf_app, bytesOf_one, List.length_append]; omega, by have := h.sure; simp; omega, fun q hq => ?_⟩
      rcases List.mem_append.1 hq with hq | hq
      · exact h.all q hq
      · simp only [List.mem_singleton] at hq
        subst hq
        exact ⟨by omega, hin⟩
theorem takeL_logOk {L : List RoundL} {k n : Nat} (h : LogOk L k) (hn : n ≤ L.length) : LogOk (L.take n) n := by
  refine ⟨by have := h.len; simp; omega, ?_, by simp; omega, fun q hq => h.all q (List.mem_of_mem_take hq)⟩
  have h1 := endAt_le_all hn
  have h2 : (bytesOf (L.take n)).length = endAt L n := rfl
  have := h.bytes
  omega
theorem stepLog_ok {L : List RoundL} {k : Nat} {x : StepL} (h : LogOk L k) (hin : ∀ d ∈ x.round, ∀ o ∈ d, OpIn o) : LogOk (stepLog L k x).1 (stepLog L k x).2 := by
  unfold stepLog
  split
  · exact putL_logOk h hin
  · split
    · exact ⟨h.len, h.bytes, Nat.le_refl _, h.all⟩
    · split
      · exact takeL_logOk h (crashL_spec h.sure h.bytes).2.1
      · exact h
/-- the memory of both: what they hold -/
structure LS where
  bv : Value
  ev : Value
  lv : Value
  vs : List Value
  G : Nat → Prop
abbrev lsH (p s : Nat) (S : LS) (L : List RoundL) (k : Nat) : Hp := lgH p S.bv S.ev L k ++ scH s S.lv L k S.vs S.G
theorem perm_7 {α : Type} (a b c d e f g : α) : [a, b, c, d, e, f, g].Perm [d, e, f, a, b, c, g] := List.Perm.append_right [g] (List.perm_append_comm (l₁ := [a, b, c]) (l₂ := [d, e, f]))
theorem perm_6 {α : Type} (a b c d e f : α) : [a, b, c, d, e, f].Perm [d, e, f, a, b, c] := List.perm_append_comm (l₁ := [a, b, c]) (l₂ := [d, e, f])
theorem logStep_spec (p s : Nat) (S : LS) (L : List RoundL) (k : Nat) (x : StepL) (u : Value) (w : World) (h : ∀ c ∈ lsH p s S L k, c.holds w) (hsep : (lsH p s S L k).Pairwise Disj) (hok : LogOk L k)
    (hr : IsRound (off w (feet (lsH p s S L k))) u x.round) (hin : ∀ d ∈ x.round, ∀ o ∈ d, OpIn o) :
    Calls Try.prog 38 #[.pointer (some ⟨p, 0, none⟩), .pointer (some ⟨s, 0, none⟩), stepV x u] w fun e w' => ∃ S' : LS, True ∧ e = .returned (.bool true) ∧ Res w (lsH p s S L k) (lsH p s S' (stepLog L k x).1 (stepLog L k x).2) w' := by
  obtain ⟨bv, ev, lv, vs, G⟩ := S
  have hlen := hok.len
  refine enter (mc := lsH p s ⟨bv, ev, lv, vs, G⟩ L k) (N := 59) Try.func38 rfl rfl rfl ?_ ?_ ?_
  · exact h
  · exact hsep
  refine e_seq ?_
  refine e_region ?_
  refine w_op rfl ?_
  refine x_box rfl rfl (fun b5 => ?_)
  refine w_val (v_assign rfl) rfl ?_
  refine w_nil ?_
  refine e_seq ?_
  refine e_seq ?_
  refine e_region ?_
  refine w_heap (m' := lsH p s ⟨bv, ev, lv, vs, G⟩ L k ++ [Chunk.blk b5 80 [Value.int .i64 x.do_, Value.int .i64 x.keep, u]]) (fun _ hw => hw.perm (List.perm_append_comm (l₁ := [_]) (l₂ := lsH p s ⟨bv, ev, lv, vs, G⟩ L k))) ?_
  first | refine w_val (v_fieldAddrB (o := 0) Try.underlying80 rfl rfl Try.nz3 rfl) rfl ?_ | refine w_val (v_fieldAddr (o := 0) Try.underlying80 rfl rfl Try.nz3 rfl) rfl ?_
  first | refine w_val (v_loadB 0 rfl Try.underlying3 rfl rfl rfl) rfl ?_ | refine w_val (v_loadB 1 rfl Try.underlying3 rfl rfl rfl) rfl ?_ | refine w_val (v_loadB 2 rfl Try.underlying3 rfl rfl rfl) rfl ?_ | refine w_val (v_loadB 3 rfl Try.underlying3 rfl rfl rfl) rfl ?_ | refine w_val (v_loadB 4 rfl Try.underlying3 rfl rfl rfl) rfl ?_ | refine w_val (v_loadB 5 rfl Try.underlying3 rfl rfl rfl) rfl ?_ | refine w_val (v_loadB 6 rfl Try.underlying3 rfl rfl rfl) rfl ?_ | refine w_val (v_loadB 7 rfl Try.underlying3 rfl rfl rfl) rfl ?_
  refine w_nil ?_
  refine e_block ?_
  refine e_seq ?_
  refine e_region ?_
  refine w_val (v_eql rfl rfl) rfl ?_
  refine w_val (v_assign rfl) rfl ?_
  refine w_nil ?_
  by_cases h0 : x.do_ = 0
  · have hst : stepLog L k x = ((putL L x.round).1, k) := by unfold stepLog; rw [if_pos h0]
    rw [hst]
    dsimp only
    first | refine e_condDT rfl (by omega) ?_ | refine e_condT rfl ?_
    refine e_seq ?_
    refine e_region ?_
    refine w_val (v_move rfl) rfl ?_
    first | refine w_val (v_fieldAddrB (o := 2) Try.underlying80 rfl rfl Try.nz40 rfl) rfl ?_ | refine w_val (v_fieldAddr (o := 2) Try.underlying80 rfl rfl Try.nz40 rfl) rfl ?_
    first | refine w_val (v_loadB 0 rfl Try.underlying40 rfl rfl rfl) rfl ?_ | refine w_val (v_loadB 1 rfl Try.underlying40 rfl rfl rfl) rfl ?_ | refine w_val (v_loadB 2 rfl Try.underlying40 rfl rfl rfl) rfl ?_ | refine w_val (v_loadB 3 rfl Try.underlying40 rfl rfl rfl) rfl ?_ | refine w_val (v_loadB 4 rfl Try.underlying40 rfl rfl rfl) rfl ?_ | refine w_val (v_loadB 5 rfl Try.underlying40 rfl rfl rfl) rfl ?_ | refine w_val (v_loadB 6 rfl Try.underlying40 rfl rfl rfl) rfl ?_ | refine w_val (v_loadB 7 rfl Try.underlying40 rfl rfl rfl) rfl ?_
    refine w_op rfl ?_
    refine x_call (dst := some 19) (mc := lgH p bv ev L k) (mr := [_, _, _, _]) (σ := Value × Value) (fun _ => True) (fun _ => .tuple #[.int .i64 (putL L x.round).2.1, .int .i64 (putL L x.round).2.2]) (fun y => lgH p y.1 y.2 (putL L x.round).1 k) rfl rfl rfl Try.call43 (fun w hw => logPut_spec p bv ev L k u x.round w hw.part.1 hw.part.2 hok (hr.mono (hw.offm (fun c hc => List.mem_append_left _ hc))) hin) rfl (fun y _ => ?_)
    refine w_heap (fun _ hw => hw.perm (perm_7 _ _ _ _ _ _ _)) ?_
    refine w_val (v_move rfl) rfl ?_
    refine w_val (v_extract rfl rfl) rfl ?_
    refine w_val (v_extract rfl rfl) rfl ?_
    refine w_val (v_assign rfl) rfl ?_
    refine w_val (v_assign rfl) rfl ?_
    refine w_nil ?_
    refine e_seq ?_
    refine e_region ?_
    refine w_val (v_move rfl) rfl ?_
    first | refine w_val (v_fieldAddrB (o := 2) Try.underlying80 rfl rfl Try.nz40 rfl) rfl ?_ | refine w_val (v_fieldAddr (o := 2) Try.underlying80 rfl rfl Try.nz40 rfl) rfl ?_
    first | refine w_val (v_loadB 0 rfl Try.underlying40 rfl rfl rfl) rfl ?_ | refine w_val (v_loadB 1 rfl Try.underlying40 rfl rfl rfl) rfl ?_ | refine w_val (v_loadB 2 rfl Try.underlying40 rfl rfl rfl) rfl ?_ | refine w_val (v_loadB 3 rfl Try.underlying40 rfl rfl rfl) rfl ?_ | refine w_val (v_loadB 4 rfl Try.underlying40 rfl rfl rfl) rfl ?_ | refine w_val (v_loadB 5 rfl Try.underlying40 rfl rfl rfl) rfl ?_ | refine w_val (v_loadB 6 rfl Try.underlying40 rfl rfl rfl) rfl ?_ | refine w_val (v_loadB 7 rfl Try.underlying40 rfl rfl rfl) rfl ?_
    refine w_op rfl ?_
    refine x_call (dst := some 26) (mc := scH s lv L k vs G) (mr := [_, _, _, _]) (σ := Value × List Value × (Nat → Prop)) (fun _ => True) (fun _ => .tuple #[.int .i64 (putL L x.round).2.1, .int .i64 (putL L x.round).2.2]) (fun z => scH s z.1 (putL L x.round).1 k z.2.1 z.2.2) rfl rfl rfl Try.call55 (fun w hw => scPut_spec s lv L k vs G u x.round w hw.part.1 hw.part.2 hok (hr.mono (hw.offm (fun c hc => List.mem_append_left _ hc))) hin) rfl (fun z _ => ?_)
    refine w_val (v_move rfl) rfl ?_
    refine w_val (v_extract rfl rfl) rfl ?_
    refine w_val (v_extract rfl rfl) rfl ?_
    refine w_val (v_assign rfl) rfl ?_
    refine w_val (v_assign rfl) rfl ?_
    refine w_nil ?_
    refine e_seq ?_
    refine e_region ?_
    refine w_val (v_move rfl) rfl ?_
    refine w_val (v_move rfl) rfl ?_
    refine w_val (v_is (v' := .bool true) (v_eql rfl rfl) (by rw [decide_eq_true rfl])) rfl ?_
    refine w_val (v_move rfl) rfl ?_
    refine w_want rfl rfl ?_
    refine w_val (v_move rfl) rfl ?_
    refine w_want rfl rfl ?_
    refine w_val (v_move rfl) rfl ?_
    refine w_want rfl rfl ?_
    refine w_val (v_is (v' := .bool true) (v_eql rfl rfl) (by rw [decide_eq_true rfl])) rfl ?_
    first | refine w_val (v_pickT rfl rfl) rfl ?_ | refine w_val (v_pickF rfl rfl) rfl ?_
    refine w_val (v_assign rfl) rfl ?_
    refine w_nil ?_
    refine e_retQ (q_ret1 rfl (.tmp rfl) ?_)
    refine fun w' hw' => ⟨⟨y.1, y.2, z.1, z.2.1, z.2.2⟩, trivial, rfl, ?_⟩
    have h7 := hw'.perm (perm_7 _ _ _ _ _ _ _)
    exact (h7.sub (List.sublist_append_left (lsH p s ⟨y.1, y.2, z.1, z.2.1, z.2.2⟩ (putL L x.round).1 k) [_])).res
  · by_cases h1 : x.do_ = 1
    · have hst : stepLog L k x = (L, L.length) := by unfold stepLog; rw [if_neg h0, if_pos h1]
      rw [hst]
      dsimp only
      first | refine e_condDF rfl (by omega) ?_ | refine e_condF rfl ?_
      refine e_seq ?_
      refine e_region ?_
      refine w_val (v_is (v' := .bool true) (v_eql rfl rfl) (by rw [decide_eq_true h1])) rfl ?_
      refine w_val (v_assign rfl) rfl ?_
      refine w_nil ?_
      first | refine e_condDT rfl (by omega) ?_ | refine e_condT rfl ?_
      refine e_seq ?_
      refine e_region ?_
      refine w_val (v_move rfl) rfl ?_
      refine w_op rfl ?_
      refine x_call (dst := some 40) (mc := [lgB p bv ev L k]) (mr := [_, _, _, _, _, _]) (σ := Unit) (fun _ => True) (fun _ => .tuple #[]) (fun _ => [lgB p bv ev L L.length]) rfl rfl rfl Try.call56 (fun w hw => (logSync_spec p bv ev L k w (hw.mem (i := 0) rfl) (hw.mem (i := 1) rfl)).mono (fun e w' h => ⟨(), trivial, h.1, h.2⟩)) rfl (fun _ _ => ?_)
      refine w_nil ?_
      refine g_shapeR2 4 rfl fun Al kl hlv hkl _ => ?_
      subst hlv
      refine e_region ?_
      refine w_val (v_move rfl) rfl ?_
      refine w_val (v_move rfl) rfl ?_
      refine w_val (v_nilCheck rfl) rfl ?_
      first | refine w_val (v_fieldAddrB (o := 0) Try.underlying77 rfl rfl Try.nz75 rfl) rfl ?_ | refine w_val (v_fieldAddr (o := 0) Try.underlying77 rfl rfl Try.nz75 rfl) rfl ?_
      first | refine w_val (v_loadB 0 rfl Try.underlying75 rfl rfl rfl) rfl ?_ | refine w_val (v_loadB 1 rfl Try.underlying75 rfl rfl rfl) rfl ?_ | refine w_val (v_loadB 2 rfl Try.underlying75 rfl rfl rfl) rfl ?_ | refine w_val (v_loadB 3 rfl Try.underlying75 rfl rfl rfl) rfl ?_ | refine w_val (v_loadB 4 rfl Try.underlying75 rfl rfl rfl) rfl ?_ | refine w_val (v_loadB 5 rfl Try.underlying75 rfl rfl rfl) rfl ?_ | refine w_val (v_loadB 6 rfl Try.underlying75 rfl rfl rfl) rfl ?_ | refine w_val (v_loadB 7 rfl Try.underlying75 rfl rfl rfl) rfl ?_
      refine w_val (v_lenS Try.underlying75 rfl) rfl ?_
      refine w_val (v_nilCheck rfl) rfl ?_
      first | refine w_val (v_fieldAddrB (o := 1) Try.underlying77 rfl rfl Try.nz3 rfl) rfl ?_ | refine w_val (v_fieldAddr (o := 1) Try.underlying77 rfl rfl Try.nz3 rfl) rfl ?_
      refine w_op rfl ?_
      first | refine x_store1 0 rfl rfl rfl Try.hi3 Try.cz3 rfl (by first | (simp; done) | (simp [intCells_len]; omega) | exact Nat.zero_lt_succ _) rfl ?_ | refine x_store1 1 rfl rfl rfl Try.hi3 Try.cz3 rfl (by first | (simp; done) | (simp [intCells_len]; omega) | exact Nat.zero_lt_succ _) rfl ?_ | refine x_store1 2 rfl rfl rfl Try.hi3 Try.cz3 rfl (by first | (simp; done) | (simp [intCells_len]; omega) | exact Nat.zero_lt_succ _) rfl ?_ | refine x_store1 3 rfl rfl rfl Try.hi3 Try.cz3 rfl (by first | (simp; done) | (simp [intCells_len]; omega) | exact Nat.zero_lt_succ _) rfl ?_ | refine x_store1 4 rfl rfl rfl Try.hi3 Try.cz3 rfl (by first | (simp; done) | (simp [intCells_len]; omega) | exact Nat.zero_lt_succ _) rfl ?_ | refine x_store1 5 rfl rfl rfl Try.hi3 Try.cz3 rfl (by first | (simp; done) | (simp [intCells_len]; omega) | exact Nat.zero_lt_succ _) rfl ?_ | refine x_store1 6 rfl rfl rfl Try.hi3 Try.cz3 rfl (by first | (simp; done) | (simp [intCells_len]; omega) | exact Nat.zero_lt_succ _) rfl ?_ | refine x_store1 7 rfl rfl rfl Try.hi3 Try.cz3 rfl (by first | (simp; done) | (simp [intCells_len]; omega) | exact Nat.zero_lt_succ _) rfl ?_
      refine w_nil ?_
      refine e_blk ?_
      refine e_seq ?_
      refine e_region ?_
      refine w_val (v_assign rfl) rfl ?_
      refine w_nil ?_
      refine e_retQ (q_ret1 rfl (.tmp rfl) ?_)
      refine fun w' hw' => ⟨⟨bv, ev, .slice Al L.length kl, vs, G⟩, trivial, rfl, ?_⟩
      exact (hw'.sub (List.sublist_append_left (lsH p s ⟨bv, ev, .slice Al L.length kl, vs, G⟩ L L.length) [_])).res
    · by_cases h2 : x.do_ = 2
      · have hst : stepLog L k x = (L.take (crashL L k x.keep), crashL L k x.keep) := by unfold stepLog; rw [if_neg h0, if_neg h1, if_pos h2]
        rw [hst]
        dsimp only
        first | refine e_condDF rfl (by omega) ?_ | refine e_condF rfl ?_
        refine e_seq ?_
        refine e_region ?_
        refine w_val (v_is (v' := .bool false) (v_eql rfl rfl) (by rw [decide_eq_false h1])) rfl ?_
        refine w_val (v_assign rfl) rfl ?_
        refine w_nil ?_
        first | refine e_condDF rfl (by omega) ?_ | refine e_condF rfl ?_
        refine e_seq ?_
        refine e_region ?_
        refine w_val (v_is (v' := .bool true) (v_eql rfl rfl) (by rw [decide_eq_true h2])) rfl ?_
        refine w_val (v_assign rfl) rfl ?_
        refine w_nil ?_
        first | refine e_condDT rfl (by omega) ?_ | refine e_condT rfl ?_
        refine e_seq ?_
        refine e_region ?_
        refine w_val (v_move rfl) rfl ?_
        first | refine w_val (v_fieldAddrB (o := 1) Try.underlying80 rfl rfl Try.nz3 rfl) rfl ?_ | refine w_val (v_fieldAddr (o := 1) Try.underlying80 rfl rfl Try.nz3 rfl) rfl ?_
        first | refine w_val (v_loadB 0 rfl Try.underlying3 rfl rfl rfl) rfl ?_ | refine w_val (v_loadB 1 rfl Try.underlying3 rfl rfl rfl) rfl ?_ | refine w_val (v_loadB 2 rfl Try.underlying3 rfl rfl rfl) rfl ?_ | refine w_val (v_loadB 3 rfl Try.underlying3 rfl rfl rfl) rfl ?_ | refine w_val (v_loadB 4 rfl Try.underlying3 rfl rfl rfl) rfl ?_ | refine w_val (v_loadB 5 rfl Try.underlying3 rfl rfl rfl) rfl ?_ | refine w_val (v_loadB 6 rfl Try.underlying3 rfl rfl rfl) rfl ?_ | refine w_val (v_loadB 7 rfl Try.underlying3 rfl rfl rfl) rfl ?_
        refine w_op rfl ?_
        refine x_call (dst := some 54) (mc := lgH p bv ev L k) (mr := [_, _, _, _]) (σ := Value × Value) (fun _ => True) (fun _ => .tuple #[]) (fun y => lgH p y.1 y.2 (L.take (crashL L k x.keep)) (crashL L k x.keep)) rfl rfl rfl Try.call41 (fun w hw => logCrash_spec p bv ev L k x.keep w hw.part.1 hw.part.2 hok) rfl (fun y _ => ?_)
        refine w_nil ?_
        refine g_heap (fun _ hw => hw.perm (perm_7 _ _ _ _ _ _ _)) ?_
        refine e_region ?_
        refine w_val (v_move rfl) rfl ?_
        first | refine w_val (v_fieldAddrB (o := 1) Try.underlying80 rfl rfl Try.nz3 rfl) rfl ?_ | refine w_val (v_fieldAddr (o := 1) Try.underlying80 rfl rfl Try.nz3 rfl) rfl ?_
        first | refine w_val (v_loadB 0 rfl Try.underlying3 rfl rfl rfl) rfl ?_ | refine w_val (v_loadB 1 rfl Try.underlying3 rfl rfl rfl) rfl ?_ | refine w_val (v_loadB 2 rfl Try.underlying3 rfl rfl rfl) rfl ?_ | refine w_val (v_loadB 3 rfl Try.underlying3 rfl rfl rfl) rfl ?_ | refine w_val (v_loadB 4 rfl Try.underlying3 rfl rfl rfl) rfl ?_ | refine w_val (v_loadB 5 rfl Try.underlying3 rfl rfl rfl) rfl ?_ | refine w_val (v_loadB 6 rfl Try.underlying3 rfl rfl rfl) rfl ?_ | refine w_val (v_loadB 7 rfl Try.underlying3 rfl rfl rfl) rfl ?_
        refine w_op rfl ?_
        refine x_call (dst := some 58) (mc := scH s lv L k vs G) (mr := [_, _, _, _]) (σ := Value) (fun _ => True) (fun _ => .tuple #[]) (fun z => scH s z (L.take (crashL L k x.keep)) (crashL L k x.keep) (vs.take (crashL L k x.keep)) G) rfl rfl rfl Try.call57 (fun w hw => scCrash_spec s lv L k vs G x.keep w hw.part.1 hw.part.2 hok) rfl (fun z _ => ?_)
        refine w_nil ?_
        refine e_blk ?_
        refine e_seq ?_
        refine e_region ?_
        refine w_val (v_assign rfl) rfl ?_
        refine w_nil ?_
        refine e_retQ (q_ret1 rfl (.tmp rfl) ?_)
        refine fun w' hw' => ⟨⟨y.1, y.2, z, vs.take (crashL L k x.keep), G⟩, trivial, rfl, ?_⟩
        have h7 := hw'.perm (perm_7 _ _ _ _ _ _ _)
        exact (h7.sub (List.sublist_append_left (lsH p s ⟨y.1, y.2, z, vs.take (crashL L k x.keep), G⟩ (L.take (crashL L k x.keep)) (crashL L k x.keep)) [_])).res
      · have hst : stepLog L k x = (L, k) := by unfold stepLog; rw [if_neg h0, if_neg h1, if_neg h2]
        rw [hst]
        dsimp only
        first | refine e_condDF rfl (by omega) ?_ | refine e_condF rfl ?_
        refine e_seq ?_
        refine e_region ?_
        refine w_val (v_is (v' := .bool false) (v_eql rfl rfl) (by rw [decide_eq_false h1])) rfl ?_
        refine w_val (v_assign rfl) rfl ?_
        refine w_nil ?_
        first | refine e_condDF rfl (by omega) ?_ | refine e_condF rfl ?_
        refine e_seq ?_
        refine e_region ?_
        refine w_val (v_is (v' := .bool false) (v_eql rfl rfl) (by rw [decide_eq_false h2])) rfl ?_
        refine w_val (v_assign rfl) rfl ?_
        refine w_nil ?_
        first | refine e_condDF rfl (by omega) ?_ | refine e_condF rfl ?_
        refine e_skip ?_
        refine e_blk ?_
        refine e_seq ?_
        refine e_region ?_
        refine w_val (v_assign rfl) rfl ?_
        refine w_nil ?_
        refine e_retQ (q_ret1 rfl (.tmp rfl) ?_)
        refine fun w' hw' => ⟨⟨bv, ev, lv, vs, G⟩, trivial, rfl, ?_⟩
        exact (hw'.sub (List.sublist_append_left (lsH p s ⟨bv, ev, lv, vs, G⟩ L k) [_])).res
end Go.SL
end
section
open Go Go.Proofs Go.SL
set_option maxRecDepth 100000
namespace Go.SL
theorem lb1 : putL [] [[]] = ([[[]]], 0, 0) := by decide +kernel
theorem lb2 : putL [[[]]] [] = ([[[]], []], 1, 0) := by decide +kernel
theorem lb3 : crashL [[[]], []] 0 4 = 1 := by decide +kernel
theorem lb4 : bytesOf [[[]]] = [2, 0, 1, 0] := by decide +kernel
theorem lb5 : endAt [[[]]] 1 = 4 := by decide +kernel
theorem lbOk0 : LogOk [] 0 := ⟨by decide, by decide, by decide, fun r hr => by simp at hr⟩
theorem nil_in : ∀ r : RoundL, (∀ d ∈ r, d = []) → ∀ d ∈ r, ∀ o ∈ d, OpIn o := fun r h d hd o ho => by rw [h d hd] at ho; simp at ho
theorem lbOk1 : LogOk [[[]]] 0 := by
  have := putL_logOk (r := [[]]) lbOk0 (nil_in _ (fun d hd => by simpa using hd))
  rwa [lb1] at this
theorem lbOk2 : LogOk [[[]], []] 0 := by
  have := putL_logOk (r := []) lbOk1 (nil_in _ (fun d hd => by simp at hd))
  rwa [lb2] at this
theorem logBegun_spec (w : World) : Calls Try.prog 35 #[] w fun e w' => e = .returned (.bool true) ∧ Res w [] [] w' := by
  refine enter0 (N := 86) Try.func35 rfl rfl rfl ?_
  refine e_seq ?_
  refine e_region ?_
  refine w_val (v_assign rfl) rfl ?_
  refine w_nil ?_
  refine e_seq ?_
  refine e_region ?_
  refine w_op rfl ?_
  refine x_call (dst := some 11) (mc := []) (mr := []) (σ := Nat) (fun _ => True) (fun p => .pointer (some ⟨p, 0, none⟩)) (fun p => lgH p (.slice none 0 0) (.slice none 0 0) [] 0) rfl rfl rfl Try.call37 (fun w hw => logNew_spec w) rfl (fun p _ => ?_)
  refine w_val (v_assign rfl) rfl ?_
  refine w_nil ?_
  refine e_seq ?_
  refine e_seq ?_
  refine e_region ?_
  refine w_val (v_move rfl) rfl ?_
  refine w_val (v_is (v' := .bool false) (v_eqlPtr Try.underlying72 rfl rfl) (by rfl)) rfl ?_
  refine w_nil ?_
  refine e_condF rfl ?_
  refine e_skip ?_
  refine e_seq ?_
  refine e_region ?_
  refine w_val (v_move rfl) rfl ?_
  refine w_op rfl ?_
  refine x_buildSlice [] [] rfl (run_buildSlice0 Try.underlying25 Try.hi36 Try.cz36) rfl (fun b16 => ?_)
  refine w_op rfl ?_
  refine x_buildSlice _ ([.slice (some ⟨b16, 0, none⟩) 0 0]) rfl (run_buildSlice Try.underlying40 Try.hi25 Try.cz25 Try.zeroValue25 rfl (by kernel_rfl)) rfl (fun b17 => ?_)
  refine g_heap (m' := lgH p (.slice none 0 0) (.slice none 0 0) [] 0 ++ [Chunk.blk b17 25 [Value.slice (some ⟨b16, 0, none⟩) 0 0], Chunk.blk b16 36 []]) (fun _ hw => hw.perm (List.perm_append_comm (l₁ := [_, _]))) ?_
  have hp1 := fun (bv ev v : Value) (w : World) h hs hr => logPut_spec p bv ev [] 0 v [[]] w h hs lbOk0 hr (nil_in _ (fun d hd => by simpa using hd))
  rw [lb1] at hp1
  refine w_op rfl ?_
  refine x_call (dst := some 18) (mc := lgH p (.slice none 0 0) (.slice none 0 0) [] 0) (mr := [_, _]) (σ := Value × Value) (fun _ => True) (fun _ => .tuple #[.int .i64 0, .int .i64 0]) (fun y => lgH p y.1 y.2 [[[]]] 0) rfl rfl rfl Try.call43 (fun w hw => hp1 _ _ _ w hw.part.1 hw.part.2 (IsRound.mono hw.apart (lit_round (b12 := b17) (b11 := b16) (e := 25) (e' := 36) (d := []) (hw.partR _ (by simp)) (hw.partR _ (by simp [deedCells]))))) rfl (fun y _ => ?_)
  refine g_heap (m' := lgH p y.1 y.2 [[[]]] 0) (fun _ hw => hw.sub (List.sublist_append_left _ _)) ?_
  refine w_val (v_move rfl) rfl ?_
  refine w_val (v_extract rfl rfl) rfl ?_
  refine w_val (v_extract rfl rfl) rfl ?_
  refine w_val (v_assign rfl) rfl ?_
  refine w_val (v_assign rfl) rfl ?_
  refine w_nil ?_
  refine e_seq ?_
  refine e_region ?_
  refine w_val (v_move rfl) rfl ?_
  refine w_op rfl ?_
  refine x_buildSlice [] [] rfl (run_buildSlice0 Try.underlying40 Try.hi25 Try.cz25) rfl (fun b23 => ?_)
  refine g_heap (m' := lgH p y.1 y.2 [[[]]] 0) (fun _ hw => hw.sub (List.sublist_cons_self _ _)) ?_
  have hp2 := fun (bv ev v : Value) (w : World) h hs hr => logPut_spec p bv ev [[[]]] 0 v [] w h hs lbOk1 hr (nil_in _ (fun d hd => by simp at hd))
  rw [lb2] at hp2
  refine w_op rfl ?_
  refine x_call (dst := some 24) (mc := lgH p y.1 y.2 [[[]]] 0) (mr := []) (σ := Value × Value) (fun _ => True) (fun _ => .tuple #[.int .i64 1, .int .i64 0]) (fun y => lgH p y.1 y.2 [[[]], []] 0) rfl rfl rfl Try.call43 (fun w hw => hp2 _ _ _ w hw.part.1 hw.part.2 (isRound_none _ _ _)) rfl (fun z _ => ?_)
  refine w_val (v_move rfl) rfl ?_
  refine w_val (v_extract rfl rfl) rfl ?_
  refine w_val (v_extract rfl rfl) rfl ?_
  refine w_val (v_assign rfl) rfl ?_
  refine w_val (v_assign rfl) rfl ?_
  refine w_nil ?_
  refine e_seq ?_
  refine e_region ?_
  refine w_val (v_move rfl) rfl ?_
  refine w_op rfl ?_
  refine x_call (dst := some 29) (mc := []) (σ := Value × (Nat → Prop)) (fun _ => True) (fun s => .tuple #[s.1, .bool true]) (fun s => [Keep s.2 (fun c => IsRound c s.1 [])]) rfl rfl rfl Try.call44 (fun w hw => logRound_spec p _ _ [[[]], []] 0 1 w (LgV.of (fun c hc => hw.hold c (by simpa using hc))) lbOk2 (by decide)) rfl (fun s _ => ?_)
  obtain ⟨sl, G⟩ := s
  dsimp only
  refine g_round 0 rfl fun A2 k2 hsl hk2 => ?_
  subst hsl
  refine w_val (v_move rfl) rfl ?_
  refine w_val (v_extract rfl rfl) rfl ?_
  refine w_val (v_extract rfl rfl) rfl ?_
  refine w_val (v_assign rfl) rfl ?_
  refine w_val (v_assign rfl) rfl ?_
  refine w_nil ?_
  refine e_seq ?_
  refine e_region ?_
  refine w_val (v_move rfl) rfl ?_
  refine w_op rfl ?_
  refine x_call0 (v := .int .i64 2) rfl rfl rfl Try.call42 rfl (fun w hw => logLen_spec p z.1 z.2 [[[]], []] 0 w (LgV.of (fun c hc => hw.hold c (List.mem_cons_of_mem _ (by simpa using hc))))) ?_
  refine w_val (v_assign rfl) rfl ?_
  refine w_nil ?_
  refine e_seq ?_
  refine e_region ?_
  refine w_val (v_move rfl) rfl ?_
  refine g_heap (m' := lgH p z.1 z.2 [[[]], []] 0) (fun _ hw => hw.sub (.cons _ (by simp))) ?_
  have hcr := fun (w : World) h hs => logCrash_spec p z.1 z.2 [[[]], []] 0 4 w h hs lbOk2
  rw [lb3] at hcr
  refine w_op rfl ?_
  refine x_call (dst := some 35) (mc := lgH p z.1 z.2 [[[]], []] 0) (mr := []) (σ := Value × Value) (fun _ => True) (fun _ => .tuple #[]) (fun y => lgH p y.1 y.2 [[[]]] 1) rfl rfl rfl Try.call41 (fun w hw => hcr w hw.part.1 hw.part.2) rfl (fun q _ => ?_)
  refine w_nil ?_
  have hby := fun (w : World) h => logBytes_spec p q.1 q.2 [[[]]] 1 w h (by rw [lb4]; decide)
  rw [lb4, lb5] at hby
  refine e_seq ?_
  refine e_region ?_
  refine w_val (v_move rfl) rfl ?_
  refine w_op rfl ?_
  refine x_call (dst := some 38) (mc := []) (σ := Value) (fun _ => True) (fun s => .tuple #[s, .int .i64 4]) (fun s => [Own s 5 1 4 (byteCells [2, 0, 1, 0])]) rfl rfl rfl Try.call39 (fun w hw => hby w (LgV.of (fun c hc => hw.hold c (by simpa using hc)))) rfl (fun sb _ => ?_)
  refine w_val (v_move rfl) rfl ?_
  refine w_val (v_extract rfl rfl) rfl ?_
  refine w_val (v_extract rfl rfl) rfl ?_
  refine w_val (v_assign rfl) rfl ?_
  refine w_val (v_assign rfl) rfl ?_
  refine w_nil ?_
  refine e_seq ?_
  refine e_region ?_
  refine w_val (v_move rfl) rfl ?_
  refine w_val (v_is (v' := .bool true) (v_eql rfl rfl) (by rfl)) rfl ?_
  refine w_val (v_move rfl) rfl ?_
  refine w_want rfl rfl ?_
  refine w_val (v_move rfl) rfl ?_
  refine w_want rfl rfl ?_
  refine w_val (v_is (v' := .bool true) (v_eql rfl rfl) (by rfl)) rfl ?_
  first | refine w_val (v_pickT rfl rfl) rfl ?_ | refine w_val (v_pickF rfl rfl) rfl ?_
  refine w_val (v_move rfl) rfl ?_
  refine w_want rfl rfl ?_
  refine w_val (v_move rfl) rfl ?_
  refine w_want rfl rfl ?_
  refine w_val (v_is (v' := .bool true) (v_eql rfl rfl) (by rfl)) rfl ?_
  first | refine w_val (v_pickT rfl rfl) rfl ?_ | refine w_val (v_pickF rfl rfl) rfl ?_
  refine w_val (v_move rfl) rfl ?_
  refine w_want rfl rfl ?_
  refine w_val (v_move rfl) rfl ?_
  refine w_want rfl rfl ?_
  refine w_val (v_is (v' := .bool true) (v_eql rfl rfl) (by rfl)) rfl ?_
  first | refine w_val (v_pickT rfl rfl) rfl ?_ | refine w_val (v_pickF rfl rfl) rfl ?_
  refine w_val (v_move rfl) rfl ?_
  refine w_want rfl rfl ?_
  refine w_val (v_move rfl) rfl ?_
  first | refine w_val (v_pickT rfl rfl) rfl ?_ | refine w_val (v_pickF rfl rfl) rfl ?_
  refine w_val (v_move rfl) rfl ?_
  refine w_want rfl rfl ?_
  refine w_val (v_move rfl) rfl ?_
  refine w_want rfl rfl ?_
  refine w_val (v_lenS Try.underlying40 rfl) rfl ?_
  refine w_want rfl rfl ?_
  refine w_val (v_is (v' := .bool true) (v_eql rfl rfl) (by rfl)) rfl ?_
  first | refine w_val (v_pickT rfl rfl) rfl ?_ | refine w_val (v_pickF rfl rfl) rfl ?_
  refine w_val (v_move rfl) rfl ?_
  refine w_want rfl rfl ?_
  refine w_val (v_move rfl) rfl ?_
  refine w_want rfl rfl ?_
  refine w_val (v_is (v' := .bool true) (v_eql rfl rfl) (by rfl)) rfl ?_
  first | refine w_val (v_pickT rfl rfl) rfl ?_ | refine w_val (v_pickF rfl rfl) rfl ?_
  refine w_val (v_move rfl) rfl ?_
  refine w_want rfl rfl ?_
  refine w_val (v_move rfl) rfl ?_
  refine w_want rfl rfl ?_
  refine w_op rfl ?_
  refine x_call0 (v := .int .i64 1) rfl rfl rfl Try.call42 rfl (fun w hw => logLen_spec p q.1 q.2 [[[]]] 1 w (LgV.of (fun c hc => hw.hold c (List.mem_cons_of_mem _ (by simpa using hc))))) ?_
  refine w_want rfl rfl ?_
  refine w_val (v_is (v' := .bool true) (v_eql rfl rfl) (by rfl)) rfl ?_
  first | refine w_val (v_pickT rfl rfl) rfl ?_ | refine w_val (v_pickF rfl rfl) rfl ?_
  refine w_val (v_move rfl) rfl ?_
  refine w_want rfl rfl ?_
  refine w_val (v_move rfl) rfl ?_
  refine w_want rfl rfl ?_
  refine w_op rfl ?_
  refine x_call0 (v := .int .i64 1) rfl rfl rfl Try.call40 rfl (fun w hw => logSure_spec p q.1 q.2 [[[]]] 1 w (LgV.of (fun c hc => hw.hold c (List.mem_cons_of_mem _ (by simpa using hc)))) (by decide) (by decide)) ?_
  refine w_want rfl rfl ?_
  refine w_val (v_is (v' := .bool true) (v_eql rfl rfl) (by rfl)) rfl ?_
  first | refine w_val (v_pickT rfl rfl) rfl ?_ | refine w_val (v_pickF rfl rfl) rfl ?_
  refine w_val (v_move rfl) rfl ?_
  refine w_want rfl rfl ?_
  refine w_val (v_move rfl) rfl ?_
  refine w_want rfl rfl ?_
  refine w_val (v_bytesStr (b := [2, 0, 1, 0]) Try.underlying58 Try.underlying5 Try.underlying9 rfl (fun w hw => own_rds (hw.mem (i := 0) rfl))) rfl ?_
  refine w_want rfl rfl ?_
  refine w_val (v_is (v' := .bool true) (v_eqlStr rfl rfl) (congrArg Value.bool (by decide +kernel))) rfl ?_
  first | refine w_val (v_pickT rfl rfl) rfl ?_ | refine w_val (v_pickF rfl rfl) rfl ?_
  refine w_val (v_move rfl) rfl ?_
  refine w_want rfl rfl ?_
  refine w_val (v_move rfl) rfl ?_
  refine w_want rfl rfl ?_
  refine w_val (v_is (v' := .bool true) (v_eql rfl rfl) (by rfl)) rfl ?_
  first | refine w_val (v_pickT rfl rfl) rfl ?_ | refine w_val (v_pickF rfl rfl) rfl ?_
  refine w_val (v_assign rfl) rfl ?_
  refine w_nil ?_
  refine e_retQ (q_ret1 rfl (.tmp rfl) ?_)
  exact fun w' hw' => ⟨rfl, hw'.res.nil⟩
end Go.SL
end
section
open Go Go.Proofs Go.SL
set_option maxRecDepth 100000
namespace Go.SL
/-- a new log, a new scroll -/
theorem St.newLog {w0 w : World} {F : Nat → Prop} {p s : Nat} (h : St w0 F (scB s (.slice none 0 0) 0 :: lgH p (.slice none 0 0) (.slice none 0 0) [] 0) w) :
    St w0 F (lsH p s ⟨.slice none 0 0, .slice none 0 0, .slice none 0 0, [], feet []⟩ [] 0) w := by
  have h1 := (h.keep0 (Rounds [] []) Rounds.nil).rowNil 40 1
  refine h1.perm ?_
  refine (List.perm_append_comm (l₁ := [_, _, _]) (l₂ := [_, _, _])).trans ?_
  exact .cons _ (.cons _ (.cons _ (List.perm_append_comm (l₁ := [_, _]) (l₂ := [_]))))
theorem LgV.at {w0 w : World} {F : Nat → Prop} {m : Hp} {p : Nat} {bv ev : Value} {L : List RoundL} {k : Nat} (hw : St w0 F m w) (i : Nat) (h0 : m[i]? = some (lgB p bv ev L k)) (h1 : m[i + 1]? = some (Rw bv 5 1 (bytesOf L).length (byteCells (bytesOf L)))) (h2 : m[i + 2]? = some (Rw ev 3 1 L.length (intCells (endsOf L)))) : LgV w.cell? p bv ev L k :=
  LgV.of fun c hc => by
    simp only [lgH, List.mem_cons, List.not_mem_nil, or_false] at hc
    rcases hc with rfl | rfl | rfl
    · exact hw.mem h0
    · exact hw.mem h1
    · exact hw.mem h2
theorem lg_mem {p s : Nat} {S : LS} {L : List RoundL} {k : Nat} {mr : Hp} : ∀ c ∈ lgH p S.bv S.ev L k, c ∈ lsH p s S L k ++ mr := fun c hc => List.mem_append_left _ (List.mem_append_left _ hc)
theorem crash_again {L : List RoundL} {n : Nat} {keep : Int} (h : LogOk L n) (hn : n = L.length) : crashL L n keep = n := by
  have := crashL_spec (keep := keep) h.sure h.bytes
  omega
theorem LogSure_spec (v : Value) (l : List StepL) (keep again : Int) (w : World) (h : IsSteps w.cell? v l) (hin : ∀ x ∈ l, ∀ d ∈ x.round, ∀ o ∈ d, OpIn o) (hl : ∀ x ∈ l, ∀ d ∈ x.round, d.length ≤ 4398046511104) (hmax : l.length ≤ maxLen) :
    Calls Try.prog 12 #[v, .int .i64 keep, .int .i64 again] w fun e w' => e = .returned (.bool true) ∧ Res w [] [] w' := by
  have hs := h
  rw [← off_none w] at h hs
  obtain ⟨A, kp, rfl, hle, hc⟩ := h
  simp only [maxLen] at hmax
  refine enter0 (N := 128) Try.func12 rfl rfl rfl ?_
  refine e_seq ?_
  refine e_region ?_
  refine w_val (v_assign rfl) rfl ?_
  refine w_nil ?_
  refine e_seq ?_
  refine e_seq ?_
  refine e_region ?_
  refine w_op rfl ?_
  refine x_call0 (v := .bool true) rfl rfl rfl Try.call35 rfl (fun w hw => logBegun_spec w) ?_
  refine w_val (v_not rfl) rfl ?_
  refine w_nil ?_
  refine e_condF rfl ?_
  refine e_skip ?_
  refine e_seq ?_
  refine e_seq ?_
  refine e_region ?_
  refine w_val (v_move rfl) rfl ?_
  refine w_op rfl ?_
  refine x_call (dst := some 20) (mc := []) (mr := []) (σ := Bool) (fun _ => True) (fun b => .bool b) (fun _ => []) rfl rfl rfl Try.call36 (fun w hw => greatLog_spec _ l w (hs.mono hw.off) hl) rfl (fun b _ => ?_)
  refine w_nil ?_
  refine e_cond rfl (fun hg => ?_) (fun hg => ?_)
  · refine e_seq ?_
    refine e_region ?_
    refine w_val (v_assign rfl) rfl ?_
    refine w_nil ?_
    refine e_retQ (q_ret1 rfl (.tmp rfl) ?_)
    exact fun w' hw' => ⟨rfl, hw'.res.nil⟩
  · refine e_skip ?_
    refine e_seq ?_
    refine e_region ?_
    refine w_op rfl ?_
    refine x_call (dst := some 21) (mc := []) (mr := []) (σ := Nat) (fun _ => True) (fun p => .pointer (some ⟨p, 0, none⟩)) (fun p => lgH p (.slice none 0 0) (.slice none 0 0) [] 0) rfl rfl rfl Try.call37 (fun w hw => logNew_spec w) rfl (fun p _ => ?_)
    refine w_val (v_build _ rfl (by intro _; simp [Instr.build, Instr.fill, Try.zeroValue77, go_sem]; rfl)) rfl ?_
    refine w_op rfl ?_
    refine x_box rfl rfl (fun b23 => ?_)
    refine w_val (v_assign rfl) rfl ?_
    refine w_val (v_assign rfl) rfl ?_
    refine w_nil ?_
    refine e_seq ?_
    refine e_seq ?_
    refine e_region ?_
    refine w_val (v_assign rfl) rfl ?_
    refine w_nil ?_
    refine g_heap (m' := lsH p b23 ⟨.slice none 0 0, .slice none 0 0, .slice none 0 0, [], feet []⟩ [] 0) (fun _ hw => St.newLog hw) ?_
    refine e_block ?_
    refine e_loopH (σ := Nat × LS × List RoundL × Nat) [0, 1, 2, 7, 8] (.cons rfl (.cons rfl (.cons rfl (.cons rfl (.cons rfl .nil))))) (fun x => [(9, .int .i64 (x.1 : Int))]) (fun x => lsH p b23 x.2.1 x.2.2.1 x.2.2.2) (fun x => x.1 ≤ l.length ∧ LogOk x.2.2.1 x.2.2.2) (fun x => l.length - x.1) (0, ⟨.slice none 0 0, .slice none 0 0, .slice none 0 0, [], feet []⟩, [], 0) ⟨by dsimp only; omega, lbOk0⟩ (by repeat (first | exact Sub.nil _ | refine Sub.cons rfl ?_)) (fun _ hw => hw) ?_
    rintro ⟨i, S, L, k⟩ ⟨hi, hok⟩
    dsimp only at hi hok ⊢
    refine e_seq ?_
    refine e_seq ?_
    refine e_region ?_
    refine w_val (v_move rfl) rfl ?_
    refine w_val (v_move rfl) rfl ?_
    refine w_val (v_lenS Try.underlying70 rfl) rfl ?_
    refine w_val (v_lss rfl rfl) rfl ?_
    refine w_nil ?_
    refine e_condD rfl (fun hlt => ?_) (fun hlt => ?_)
    · have hlt' : i < l.length := by omega
      obtain ⟨ad, u, rfl, hcs, hr⟩ := hc i hlt'
      have hxin := hin l[i] (List.getElem_mem _)
      generalize l[i] = x at *
      have hcs' : Cells (off w (feet [])) (ad.add (((i : Int)).toNat * 3)) [.int .i64 x.do_, .int .i64 x.keep, u] := hcs
      refine e_skip ?_
      refine e_seq ?_
      refine e_block ?_
      refine e_region ?_
      refine w_val (v_move rfl) rfl ?_
      refine w_val (v_move rfl) rfl ?_
      refine w_val (v_move rfl) rfl ?_
      refine w_val (v_move rfl) rfl ?_
      first | refine w_val (v_indexSB Try.underlying70 Try.hi80 Try.cz80 rfl rfl (by first | omega | decide)) rfl ?_ | refine w_val (v_indexS Try.underlying70 Try.hi80 Try.cz80 rfl rfl (by first | omega | decide)) rfl ?_
      first | refine w_val (v_loadON Try.underlying80 rfl Try.hi80 rfl (hcs') Try.cz80) rfl ?_ | refine w_val (v_loadBA 0 rfl Try.underlying80 rfl Try.hi80 Try.cz80 rfl) rfl ?_ | refine w_val (v_loadBA 1 rfl Try.underlying80 rfl Try.hi80 Try.cz80 rfl) rfl ?_ | refine w_val (v_loadBA 2 rfl Try.underlying80 rfl Try.hi80 Try.cz80 rfl) rfl ?_ | refine w_val (v_loadBA 3 rfl Try.underlying80 rfl Try.hi80 Try.cz80 rfl) rfl ?_ | refine w_val (v_loadBA 4 rfl Try.underlying80 rfl Try.hi80 Try.cz80 rfl) rfl ?_ | refine w_val (v_loadBA 5 rfl Try.underlying80 rfl Try.hi80 Try.cz80 rfl) rfl ?_ | refine w_val (v_loadBA 6 rfl Try.underlying80 rfl Try.hi80 Try.cz80 rfl) rfl ?_ | refine w_val (v_loadBA 7 rfl Try.underlying80 rfl Try.hi80 Try.cz80 rfl) rfl ?_ | refine w_val (v_loadBN 0 rfl Try.underlying80 rfl Try.hi80 Try.cz80 rfl rfl rfl) rfl ?_ | refine w_val (v_loadBN 1 rfl Try.underlying80 rfl Try.hi80 Try.cz80 rfl rfl rfl) rfl ?_ | refine w_val (v_loadBN 2 rfl Try.underlying80 rfl Try.hi80 Try.cz80 rfl rfl rfl) rfl ?_ | refine w_val (v_loadBN 3 rfl Try.underlying80 rfl Try.hi80 Try.cz80 rfl rfl rfl) rfl ?_ | refine w_val (v_loadBN 4 rfl Try.underlying80 rfl Try.hi80 Try.cz80 rfl rfl rfl) rfl ?_ | refine w_val (v_loadBN 5 rfl Try.underlying80 rfl Try.hi80 Try.cz80 rfl rfl rfl) rfl ?_ | refine w_val (v_loadBN 6 rfl Try.underlying80 rfl Try.hi80 Try.cz80 rfl rfl rfl) rfl ?_ | refine w_val (v_loadBN 7 rfl Try.underlying80 rfl Try.hi80 Try.cz80 rfl rfl rfl) rfl ?_
      refine w_op rfl ?_
      refine x_call (dst := some 36) (mc := lsH p b23 S L k) (mr := []) (σ := LS) (fun _ => True) (fun _ => .bool true) (fun S' => lsH p b23 S' (stepLog L k x).1 (stepLog L k x).2) rfl rfl rfl Try.call38 (fun w hw => logStep_spec p b23 S L k x u w hw.part.1 hw.part.2 hok (hr.mono (hw.offm (fun c hc => List.mem_append_left _ hc))) hxin) rfl (fun S' _ => ?_)
      refine w_nil ?_
      refine e_blk ?_
      refine e_region ?_
      refine w_val (v_move rfl) rfl ?_
      first | refine w_val (v_add rfl rfl (by omega)) rfl ?_ | refine w_val (v_addw rfl rfl) rfl ?_
      refine w_val (v_assign rfl) rfl ?_
      refine w_nil ?_
      exact e_round ((i + 1, S', (stepLog L k x).1, (stepLog L k x).2)) (⟨by dsimp only; omega, stepLog_ok hok hxin⟩) (by dsimp only; omega) (by repeat (first | exact Sub.nil _ | refine Sub.cons rfl ?_)) (fun _ hw => hw)
    · have hB := hok.bytes
      have h25 := hok.len
      obtain ⟨hkn, hnL, hnl, hnx⟩ := crashL_spec (keep := keep) hok.sure hok.bytes
      have hok2 := takeL_logOk hok hnL
      have hcr := fun (bv ev : Value) (w : World) h hs => logCrash_spec p bv ev L k keep w h hs hok
      have hleft : leftL L k keep = min ((endAt L k : Int) + max (min keep 4000) 0) ((bytesOf L).length : Int) := rfl
      rw [hleft] at hnl
      generalize crashL L k keep = n at *
      have e1 : (bytesOf (L.take n)).length = endAt L n := rfl
      have e2 : endAt (L.take n) n = endAt L n := endAt_take (Nat.le_refl _)
      have e3 : (L.take n).length = n := by simp; omega
      have e4 : bytesOf (L.take n) = (bytesOf L).take (endAt L n) := bytesOf_take
      have hmono := endAt_mono hkn hnL
      have hneB := endAt_le_all hnL
      have hca : crashL (L.take n) n again = n := crash_again hok2 e3.symm
      have hca2 : (L.take n).take n = L.take n := by rw [List.take_take, Nat.min_self]
      refine e_exit rfl ?_
      refine e_seq ?_
      refine e_region ?_
      refine w_val (v_move rfl) rfl ?_
      refine w_op rfl ?_
      refine x_call (dst := some 39) (mc := []) (σ := Value) (fun _ => True) (fun s => .tuple #[s, .int .i64 (endAt L k : Int)]) (fun s => [Own s 5 1 (bytesOf L).length (byteCells (bytesOf L))]) rfl rfl rfl Try.call39 (fun w hw => logBytes_spec p S.bv S.ev L k w (LgV.at hw 0 rfl rfl rfl) hB) rfl (fun v1 _ => ?_)
      refine g_shape 0 rfl fun A1 k1 hv1 hk1 => ?_
      subst hv1
      refine w_val (v_move rfl) rfl ?_
      refine w_val (v_extract rfl rfl) rfl ?_
      refine w_val (v_extract rfl rfl) rfl ?_
      refine w_val (v_assign rfl) rfl ?_
      refine w_val (v_assign rfl) rfl ?_
      refine w_nil ?_
      refine e_seq ?_
      refine e_region ?_
      refine w_val (v_move rfl) rfl ?_
      refine w_op rfl ?_
      refine x_call0 (v := .int .i64 (k : Int)) rfl rfl rfl Try.call40 rfl (fun w hw => logSure_spec p S.bv S.ev L k w (LgV.at hw 1 rfl rfl rfl) h25 hok.sure) ?_
      refine w_val (v_assign rfl) rfl ?_
      refine w_nil ?_
      refine e_seq ?_
      refine e_region ?_
      refine w_val (v_move rfl) rfl ?_
      refine w_val (v_move rfl) rfl ?_
      refine g_heap (m' := lgH p S.bv S.ev L k ++ [Own (.slice A1 (bytesOf L).length k1) 5 1 (bytesOf L).length (byteCells (bytesOf L))]) (fun _ hw => (hw.sub (m' := Own (.slice A1 (bytesOf L).length k1) 5 1 (bytesOf L).length (byteCells (bytesOf L)) :: lgH p S.bv S.ev L k) (.cons_cons _ (List.sublist_append_left _ _))).perm (List.perm_append_comm (l₁ := [_]))) ?_
      refine w_op rfl ?_
      refine x_call (dst := some 46) (mc := lgH p S.bv S.ev L k) (mr := [_]) (σ := Value × Value) (fun _ => True) (fun _ => .tuple #[]) (fun y => lgH p y.1 y.2 (L.take n) n) rfl rfl rfl Try.call41 (fun w hw => hcr _ _ w hw.part.1 hw.part.2) rfl (fun y _ => ?_)
      refine w_nil ?_
      refine e_seq ?_
      refine e_region ?_
      refine w_val (v_move rfl) rfl ?_
      refine w_op rfl ?_
      refine x_call (dst := some 49) (mc := []) (σ := Value) (fun _ => True) (fun s => .tuple #[s, .int .i64 (endAt (L.take n) n : Int)]) (fun s => [Own s 5 1 (bytesOf (L.take n)).length (byteCells (bytesOf (L.take n)))]) rfl rfl rfl Try.call39 (fun w hw => logBytes_spec p y.1 y.2 (L.take n) n w (LgV.at hw 0 rfl rfl rfl) hok2.bytes) rfl (fun v2 _ => ?_)
      refine g_shape 0 rfl fun A2 k2 hv2 hk2 => ?_
      subst hv2
      rw [e1, e2]
      refine w_val (v_move rfl) rfl ?_
      refine w_val (v_extract rfl rfl) rfl ?_
      refine w_val (v_extract rfl rfl) rfl ?_
      refine w_val (v_assign rfl) rfl ?_
      refine w_val (v_assign rfl) rfl ?_
      refine w_nil ?_
      refine e_seq ?_
      refine e_seq ?_
      refine e_region ?_
      refine w_val (v_move rfl) rfl ?_
      refine w_val (v_lenS Try.underlying58 rfl) rfl ?_
      refine w_val (v_move rfl) rfl ?_
      refine w_val (v_lenS Try.underlying58 rfl) rfl ?_
      refine w_val (v_is (v' := .bool false) (v_gtr rfl rfl) (by rw [decide_eq_false (by omega)])) rfl ?_
      refine w_val (v_move rfl) rfl ?_
      refine w_want rfl rfl ?_
      refine w_val (v_move rfl) rfl ?_
      refine w_want rfl rfl ?_
      refine w_val (v_move rfl) rfl ?_
      refine w_want rfl rfl ?_
      refine w_val (v_move rfl) rfl ?_
      refine w_want rfl rfl ?_
      refine w_val (v_lenS Try.underlying58 rfl) rfl ?_
      refine w_want rfl rfl ?_
      refine w_val (v_sliceH Try.underlying58 Try.hi5 Try.cz5 rfl rfl (by omega)) rfl ?_
      refine w_want rfl rfl ?_
      refine w_op rfl ?_
      refine x_call0 (v := .bool true) rfl rfl rfl Try.call33 rfl (fun w hw => Calls.boolT e4 (sameBytes_spec _ _ (bytesOf (L.take n)) ((bytesOf L).take (endAt L n)) w (own_rds (hw.mem (i := 0) rfl)) (by have := IsBytes.slice (lo := 0) (hi := endAt L n) (own_rds (hw.mem (i := 4) rfl)) (by omega) hneB; simpa using this))) ?_
      refine w_want rfl rfl ?_
      refine w_val (v_is (v' := .bool false) (v_not rfl) (by rfl)) rfl ?_
      first | refine w_val (v_pickT rfl rfl) rfl ?_ | refine w_val (v_pickF rfl rfl) rfl ?_
      refine w_val (v_move rfl) rfl ?_
      refine w_want rfl rfl ?_
      refine w_val (v_move rfl) rfl ?_
      refine w_want rfl rfl ?_
      refine w_val (v_lenS Try.underlying58 rfl) rfl ?_
      refine w_want rfl rfl ?_
      refine w_val (v_move rfl) rfl ?_
      refine w_want rfl rfl ?_
      refine w_val (v_is (v' := .bool false) (v_lss rfl rfl) (by rw [decide_eq_false (by omega)])) rfl ?_
      first | refine w_val (v_pickT rfl rfl) rfl ?_ | refine w_val (v_pickF rfl rfl) rfl ?_
      refine w_val (v_move rfl) rfl ?_
      refine w_want rfl rfl ?_
      refine w_val (v_move rfl) rfl ?_
      refine w_want rfl rfl ?_
      refine w_val (v_move rfl) rfl ?_
      refine w_want rfl rfl ?_
      refine w_val (v_lenS Try.underlying58 rfl) rfl ?_
      refine w_want rfl rfl ?_
      refine w_val (v_is (v' := .bool false) (v_neq rfl rfl) (by rw [decide_eq_false (fun h => h rfl)])) rfl ?_
      first | refine w_val (v_pickT rfl rfl) rfl ?_ | refine w_val (v_pickF rfl rfl) rfl ?_
      refine w_val (v_move rfl) rfl ?_
      refine w_want rfl rfl ?_
      refine w_val (v_move rfl) rfl ?_
      refine w_want rfl rfl ?_
      refine w_op rfl ?_
      refine x_call0 (v := .int .i64 (n : Int)) rfl rfl rfl Try.call40 rfl (fun w hw => logSure_spec p y.1 y.2 (L.take n) n w (LgV.at hw 1 rfl rfl rfl) hok2.len hok2.sure) ?_
      refine w_want rfl rfl ?_
      refine w_val (v_move rfl) rfl ?_
      refine w_want rfl rfl ?_
      refine w_op rfl ?_
      refine x_call0 (v := .int .i64 (n : Int)) rfl rfl rfl Try.call42 rfl (fun w hw => by have := logLen_spec p y.1 y.2 (L.take n) n w (LgV.at hw 1 rfl rfl rfl); rwa [e3] at this) ?_
      refine w_want rfl rfl ?_
      refine w_val (v_is (v' := .bool false) (v_neq rfl rfl) (by rw [decide_eq_false (fun h => h rfl)])) rfl ?_
      first | refine w_val (v_pickT rfl rfl) rfl ?_ | refine w_val (v_pickF rfl rfl) rfl ?_
      refine w_val (v_move rfl) rfl ?_
      refine w_want rfl rfl ?_
      refine w_val (v_move rfl) rfl ?_
      refine w_want rfl rfl ?_
      refine w_op rfl ?_
      refine x_call0 (v := .int .i64 (n : Int)) rfl rfl rfl Try.call42 rfl (fun w hw => by have := logLen_spec p y.1 y.2 (L.take n) n w (LgV.at hw 1 rfl rfl rfl); rwa [e3] at this) ?_
      refine w_want rfl rfl ?_
      refine w_val (v_move rfl) rfl ?_
      refine w_want rfl rfl ?_
      refine w_val (v_is (v' := .bool false) (v_lss rfl rfl) (by rw [decide_eq_false (by omega)])) rfl ?_
      first | refine w_val (v_pickT rfl rfl) rfl ?_ | refine w_val (v_pickF rfl rfl) rfl ?_
      refine w_nil ?_
      refine e_condF rfl ?_
      refine e_skip ?_
      refine e_seq ?_
      refine e_seq ?_
      refine e_cutK (σ := Unit) [2, 7, 13, 14] (.cons rfl (.cons rfl (.cons rfl (.cons rfl .nil)))) (fun _ => [(111, .bool false)]) (fun _ => True) ?_ ?_
      · have hbig : ((bytesOf L).length : Int) ≤ keep → endAt L n = (bytesOf L).length := fun hk => by
          by_cases hn : n < L.length
          · have h5 := hnx hn
            have h6 := endAt_le_all (L := L) (i := n + 1) (by omega)
            omega
          · have : n = L.length := by omega
            subst this
            exact endAt_all L
        have hsmall : keep ≤ 0 → endAt L n = endAt L k := fun hk => by omega
        by_cases hA : ((bytesOf L).length : Int) ≤ keep
        · have hA' := hbig hA
          by_cases hC : keep ≤ 0
          · have hC' := hsmall hC
            refine e_region ?_
            refine w_val (v_move rfl) rfl ?_
            refine w_val (v_move rfl) rfl ?_
            refine w_val (v_lenS Try.underlying58 rfl) rfl ?_
            refine w_val (v_is (v' := .bool true) (v_geq rfl rfl) (by rw [decide_eq_true hA])) rfl ?_
            refine w_val (v_move rfl) rfl ?_
            refine w_want rfl rfl ?_
            refine w_val (v_move rfl) rfl ?_
            refine w_want rfl rfl ?_
            refine w_val (v_lenS Try.underlying58 rfl) rfl ?_
            refine w_want rfl rfl ?_
            refine w_val (v_move rfl) rfl ?_
            refine w_want rfl rfl ?_
            refine w_val (v_lenS Try.underlying58 rfl) rfl ?_
            refine w_want rfl rfl ?_
            refine w_val (v_is (v' := .bool false) (v_neq rfl rfl) (by rw [decide_eq_false (by omega)])) rfl ?_
            first | refine w_val (v_pickT rfl rfl) rfl ?_ | refine w_val (v_pickF rfl rfl) rfl ?_
            refine w_val (v_move rfl) rfl ?_
            refine w_want rfl rfl ?_
            refine w_val (v_move rfl) rfl ?_
            refine w_want rfl rfl ?_
            refine w_val (v_is (v' := .bool true) (v_leq rfl rfl) (by rw [decide_eq_true hC])) rfl ?_
            refine w_want rfl rfl ?_
            refine w_val (v_move rfl) rfl ?_
            refine w_want rfl rfl ?_
            refine w_val (v_move rfl) rfl ?_
            refine w_want rfl rfl ?_
            refine w_val (v_lenS Try.underlying58 rfl) rfl ?_
            refine w_want rfl rfl ?_
            refine w_val (v_move rfl) rfl ?_
            refine w_want rfl rfl ?_
            refine w_val (v_is (v' := .bool false) (v_neq rfl rfl) (by rw [decide_eq_false (by omega)])) rfl ?_
            refine w_want rfl rfl ?_
            first | refine w_val (v_pickT rfl rfl) rfl ?_ | refine w_val (v_pickF rfl rfl) rfl ?_
            first | refine w_val (v_pickT rfl rfl) rfl ?_ | refine w_val (v_pickF rfl rfl) rfl ?_
            refine w_nil ?_
            exact e_cutEnd (()) (trivial) (by repeat (first | exact Sub.nil _ | refine Sub.cons rfl ?_)) (fun _ hw => hw)
          · refine e_region ?_
            refine w_val (v_move rfl) rfl ?_
            refine w_val (v_move rfl) rfl ?_
            refine w_val (v_lenS Try.underlying58 rfl) rfl ?_
            refine w_val (v_is (v' := .bool true) (v_geq rfl rfl) (by rw [decide_eq_true hA])) rfl ?_
            refine w_val (v_move rfl) rfl ?_
            refine w_want rfl rfl ?_
            refine w_val (v_move rfl) rfl ?_
            refine w_want rfl rfl ?_
            refine w_val (v_lenS Try.underlying58 rfl) rfl ?_
            refine w_want rfl rfl ?_
            refine w_val (v_move rfl) rfl ?_
            refine w_want rfl rfl ?_
            refine w_val (v_lenS Try.underlying58 rfl) rfl ?_
            refine w_want rfl rfl ?_
            refine w_val (v_is (v' := .bool false) (v_neq rfl rfl) (by rw [decide_eq_false (by omega)])) rfl ?_
            first | refine w_val (v_pickT rfl rfl) rfl ?_ | refine w_val (v_pickF rfl rfl) rfl ?_
            refine w_val (v_move rfl) rfl ?_
            refine w_want rfl rfl ?_
            refine w_val (v_move rfl) rfl ?_
            refine w_want rfl rfl ?_
            refine w_val (v_is (v' := .bool false) (v_leq rfl rfl) (by rw [decide_eq_false hC])) rfl ?_
            refine w_want rfl rfl ?_
            refine w_val (v_move rfl) rfl ?_
            refine w_skip rfl rfl rfl rfl ?_
            refine w_skip rfl rfl rfl rfl ?_
            refine w_skip rfl rfl rfl rfl ?_
            refine w_skip rfl rfl rfl rfl ?_
            refine w_want rfl rfl ?_
            first | refine w_val (v_pickT rfl rfl) rfl ?_ | refine w_val (v_pickF rfl rfl) rfl ?_
            first | refine w_val (v_pickT rfl rfl) rfl ?_ | refine w_val (v_pickF rfl rfl) rfl ?_
            refine w_nil ?_
            exact e_cutEnd (()) (trivial) (by repeat (first | exact Sub.nil _ | refine Sub.cons rfl ?_)) (fun _ hw => hw)
        · by_cases hC : keep ≤ 0
          · have hC' := hsmall hC
            refine e_region ?_
            refine w_val (v_move rfl) rfl ?_
            refine w_val (v_move rfl) rfl ?_
            refine w_val (v_lenS Try.underlying58 rfl) rfl ?_
            refine w_val (v_is (v' := .bool false) (v_geq rfl rfl) (by rw [decide_eq_false hA])) rfl ?_
            refine w_val (v_move rfl) rfl ?_
            refine w_skip rfl rfl rfl rfl ?_
            refine w_skip rfl rfl rfl rfl ?_
            refine w_skip rfl rfl rfl rfl ?_
            refine w_skip rfl rfl rfl rfl ?_
            refine w_skip rfl rfl rfl rfl ?_
            first | refine w_val (v_pickT rfl rfl) rfl ?_ | refine w_val (v_pickF rfl rfl) rfl ?_
            refine w_val (v_move rfl) rfl ?_
            refine w_want rfl rfl ?_
            refine w_val (v_move rfl) rfl ?_
            refine w_want rfl rfl ?_
            refine w_val (v_is (v' := .bool true) (v_leq rfl rfl) (by rw [decide_eq_true hC])) rfl ?_
            refine w_want rfl rfl ?_
            refine w_val (v_move rfl) rfl ?_
            refine w_want rfl rfl ?_
            refine w_val (v_move rfl) rfl ?_
            refine w_want rfl rfl ?_
            refine w_val (v_lenS Try.underlying58 rfl) rfl ?_
            refine w_want rfl rfl ?_
            refine w_val (v_move rfl) rfl ?_
            refine w_want rfl rfl ?_
            refine w_val (v_is (v' := .bool false) (v_neq rfl rfl) (by rw [decide_eq_false (by omega)])) rfl ?_
            refine w_want rfl rfl ?_
            first | refine w_val (v_pickT rfl rfl) rfl ?_ | refine w_val (v_pickF rfl rfl) rfl ?_
            first | refine w_val (v_pickT rfl rfl) rfl ?_ | refine w_val (v_pickF rfl rfl) rfl ?_
            refine w_nil ?_
            exact e_cutEnd (()) (trivial) (by repeat (first | exact Sub.nil _ | refine Sub.cons rfl ?_)) (fun _ hw => hw)
          · refine e_region ?_
            refine w_val (v_move rfl) rfl ?_
            refine w_val (v_move rfl) rfl ?_
            refine w_val (v_lenS Try.underlying58 rfl) rfl ?_
            refine w_val (v_is (v' := .bool false) (v_geq rfl rfl) (by rw [decide_eq_false hA])) rfl ?_
            refine w_val (v_move rfl) rfl ?_
            refine w_skip rfl rfl rfl rfl ?_
            refine w_skip rfl rfl rfl rfl ?_
            refine w_skip rfl rfl rfl rfl ?_
            refine w_skip rfl rfl rfl rfl ?_
            refine w_skip rfl rfl rfl rfl ?_
            first | refine w_val (v_pickT rfl rfl) rfl ?_ | refine w_val (v_pickF rfl rfl) rfl ?_
            refine w_val (v_move rfl) rfl ?_
            refine w_want rfl rfl ?_
            refine w_val (v_move rfl) rfl ?_
            refine w_want rfl rfl ?_
            refine w_val (v_is (v' := .bool false) (v_leq rfl rfl) (by rw [decide_eq_false hC])) rfl ?_
            refine w_want rfl rfl ?_
            refine w_val (v_move rfl) rfl ?_
            refine w_skip rfl rfl rfl rfl ?_
            refine w_skip rfl rfl rfl rfl ?_
            refine w_skip rfl rfl rfl rfl ?_
            refine w_skip rfl rfl rfl rfl ?_
            refine w_want rfl rfl ?_
            first | refine w_val (v_pickT rfl rfl) rfl ?_ | refine w_val (v_pickF rfl rfl) rfl ?_
            first | refine w_val (v_pickT rfl rfl) rfl ?_ | refine w_val (v_pickF rfl rfl) rfl ?_
            refine w_nil ?_
            exact e_cutEnd (()) (trivial) (by repeat (first | exact Sub.nil _ | refine Sub.cons rfl ?_)) (fun _ hw => hw)
      · rintro - -
        refine e_condF rfl ?_
        refine e_skip ?_
        refine e_seq ?_
        refine e_region ?_
        refine w_val (v_move rfl) rfl ?_
        refine w_val (v_move rfl) rfl ?_
        refine g_heap (m' := lgH p y.1 y.2 (L.take n) n ++ [Own (.slice A2 (endAt L n) k2) 5 1 (endAt L n) (byteCells (bytesOf (L.take n)))]) (fun _ hw => (hw.sub (m' := Own (.slice A2 (endAt L n) k2) 5 1 (endAt L n) (byteCells (bytesOf (L.take n))) :: lgH p y.1 y.2 (L.take n) n) (.cons_cons _ (List.sublist_append_left _ _))).perm (List.perm_append_comm (l₁ := [_]))) ?_
        have hcr2 := fun (bv ev : Value) (w : World) h hs => logCrash_spec p bv ev (L.take n) n again w h hs hok2
        rw [hca, hca2] at hcr2
        refine w_op rfl ?_
        refine x_call (dst := some 114) (mc := lgH p y.1 y.2 (L.take n) n) (mr := [_]) (σ := Value × Value) (fun _ => True) (fun _ => .tuple #[]) (fun y => lgH p y.1 y.2 (L.take n) n) rfl rfl rfl Try.call41 (fun w hw => hcr2 _ _ w hw.part.1 hw.part.2) rfl (fun z _ => ?_)
        refine w_nil ?_
        refine e_seq ?_
        refine e_region ?_
        refine w_val (v_move rfl) rfl ?_
        refine w_op rfl ?_
        refine x_call (dst := some 117) (mc := []) (σ := Value) (fun _ => True) (fun s => .tuple #[s, .int .i64 (endAt (L.take n) n : Int)]) (fun s => [Own s 5 1 (bytesOf (L.take n)).length (byteCells (bytesOf (L.take n)))]) rfl rfl rfl Try.call39 (fun w hw => logBytes_spec p z.1 z.2 (L.take n) n w (LgV.at hw 0 rfl rfl rfl) hok2.bytes) rfl (fun v3 _ => ?_)
        rw [e2]
        refine w_val (v_move rfl) rfl ?_
        refine w_val (v_extract rfl rfl) rfl ?_
        refine w_val (v_extract rfl rfl) rfl ?_
        refine w_val (v_assign rfl) rfl ?_
        refine w_val (v_assign rfl) rfl ?_
        refine w_nil ?_
        refine e_seq ?_
        refine e_region ?_
        refine w_val (v_move rfl) rfl ?_
        refine w_val (v_move rfl) rfl ?_
        refine w_op rfl ?_
        refine x_call0 (v := .bool true) rfl rfl rfl Try.call33 rfl (fun w hw => Calls.boolT rfl (sameBytes_spec _ _ (bytesOf (L.take n)) (bytesOf (L.take n)) w (own_rds (hw.mem (i := 0) rfl)) (own_rds (hw.mem (i := 4) rfl)))) ?_
        refine w_val (v_move rfl) rfl ?_
        refine w_want rfl rfl ?_
        refine w_val (v_move rfl) rfl ?_
        refine w_want rfl rfl ?_
        refine w_val (v_move rfl) rfl ?_
        refine w_want rfl rfl ?_
        refine w_val (v_is (v' := .bool true) (v_eql rfl rfl) (by rw [decide_eq_true rfl])) rfl ?_
        first | refine w_val (v_pickT rfl rfl) rfl ?_ | refine w_val (v_pickF rfl rfl) rfl ?_
        refine w_val (v_assign rfl) rfl ?_
        refine w_nil ?_
        refine e_retQ (q_ret1 rfl (.tmp rfl) ?_)
        exact fun w' hw' => ⟨rfl, hw'.res.nil⟩
end Go.SL
end
