/- Ytebdkaadbakhlab: part W7 of this seat's own texts. -/
import Derived.Test.YtebdkaadbakhlabW6
import Derived.Test.YtebdkaadbakhlabP4
import Derived.Test.YtebdkaadbakhlabP3
set_option linter.unusedVariables false
set_option linter.unusedSimpArgs false
section
open Go Go.Proofs Go.SL
set_option maxRecDepth 100000
namespace Go.SL
def stepLog (L : List RoundL) (k : Nat) (x : StepL) : List RoundL × Nat :=
  if x.do_ = 0 then ((putL L x.round).1, k) else if x.do_ = 1 then (L, L.length) else if x.do_ = 2 then (L.take (crashL L k x.keep), crashL L k x.keep) else (L, k)
theorem putL_logOk {L : List RoundL} {k : Nat} {r : RoundL} (h : LogOk L k) (hin : ∀ d ∈ r, ∀ o ∈ d, OpIn o) : LogOk (putL L r).1 k := by
  by_cases hf : roundFaultL r ≠ 0
  · rw [putL_bad hf]; exact h
  · by_cases h2 : L.length = 25 ∨ 4000 < (bytesOf L).length + (encL r).length
    · rw [putL_full hf h2]; exact h
    · rw [putL_ok hf h2]
      have := h.len
      refine ⟨by simp; omega, by rw [bytesOf_app, bytesOf_one, List.length_append]; omega, by have := h.sure; simp; omega, fun q hq => ?_⟩
      rcases List.mem_append.1 hq with hq | hq
      · exact h.all q hq
      · simp only [List.mem_singleton] at hq
        subst hq
        exact ⟨by omega, hin⟩
theorem takeL_logOk {L : List RoundL} {k n : Nat} (h : LogOk L k) (hn : n ≤ L.length) : LogOk (L.take n) n := by
  refine ⟨by have := h.len; simp; omega, ?_, by simp; omega, fun q hq => h.all q (List.mem_of_mem_take hq)⟩
  have h1 := endAt_le_all hn
  have h2 : (bytesOf (L.take n)).length = endAt L n := rfl
  have := h.bytes
  omega
theorem stepLog_ok {L : List RoundL} {k : Nat} {x : StepL} (h : LogOk L k) (hin : ∀ d ∈ x.round, ∀ o ∈ d, OpIn o) : LogOk (stepLog L k x).1 (stepLog L k x).2 := by
  unfold stepLog
  split
  · exact putL_logOk h hin
  · split
    · exact ⟨h.len, h.bytes, Nat.le_refl _, h.all⟩
    · split
      · exact takeL_logOk h (crashL_spec h.sure h.bytes).2.1
      · exact h
/-- the memory of both: what they hold -/
structure LS where
  bv : Value
  ev : Value
  lv : Value
  vs : List Value
  G : Nat → Prop
abbrev lsH (p s : Nat) (S : LS) (L : List RoundL) (k : Nat) : Hp := lgH p S.bv S.ev L k ++ scH s S.lv L k S.vs S.G
theorem perm_7 {α : Type} (a b c d e f g : α) : [a, b, c, d, e, f, g].Perm [d, e, f, a, b, c, g] := List.Perm.append_right [g] (List.perm_append_comm (l₁ := [a, b, c]) (l₂ := [d, e, f]))
theorem perm_6 {α : Type} (a b c d e f : α) : [a, b, c, d, e, f].Perm [d, e, f, a, b, c] := List.perm_append_comm (l₁ := [a, b, c]) (l₂ := [d, e, f])
theorem logStep_spec (p s : Nat) (S : LS) (L : List RoundL) (k : Nat) (x : StepL) (u : Value) (w : World) (h : ∀ c ∈ lsH p s S L k, c.holds w) (hsep : (lsH p s S L k).Pairwise Disj) (hok : LogOk L k)
    (hr : IsRound (off w (feet (lsH p s S L k))) u x.round) (hin : ∀ d ∈ x.round, ∀ o ∈ d, OpIn o) :
    Calls Try.prog 17 #[.pointer (some ⟨p, 0, none⟩), .pointer (some ⟨s, 0, none⟩), stepV x u] w fun e w' => ∃ S' : LS, True ∧ e = .returned (.bool true) ∧ Res w (lsH p s S L k) (lsH p s S' (stepLog L k x).1 (stepLog L k x).2) w' := by
  obtain ⟨bv, ev, lv, vs, G⟩ := S
  have hlen := hok.len
  refine enter (mc := lsH p s ⟨bv, ev, lv, vs, G⟩ L k) (N := 59) Try.func17 rfl rfl rfl ?_ ?_ ?_
  · exact h
  · exact hsep
  refine e_seq ?_
  refine e_region ?_
  refine w_op rfl ?_
  refine x_box rfl rfl (fun b5 => ?_)
  refine w_val (v_assign rfl) rfl ?_
  refine w_nil ?_
  refine e_seq ?_
  refine e_seq ?_
  refine e_region ?_
  refine w_heap (m' := lsH p s ⟨bv, ev, lv, vs, G⟩ L k ++ [Chunk.blk b5 36 [Value.int .i64 x.do_, Value.int .i64 x.keep, u]]) (fun _ hw => hw.perm (List.perm_append_comm (l₁ := [_]) (l₂ := lsH p s ⟨bv, ev, lv, vs, G⟩ L k))) ?_
  first | refine w_val (v_fieldAddrB (o := 0) Try.underlying36 rfl rfl Try.nz3 rfl) rfl ?_ | refine w_val (v_fieldAddr (o := 0) Try.underlying36 rfl rfl Try.nz3 rfl) rfl ?_
  first | refine w_val (v_loadB 0 rfl Try.underlying3 rfl rfl rfl) rfl ?_ | refine w_val (v_loadB 1 rfl Try.underlying3 rfl rfl rfl) rfl ?_ | refine w_val (v_loadB 2 rfl Try.underlying3 rfl rfl rfl) rfl ?_ | refine w_val (v_loadB 3 rfl Try.underlying3 rfl rfl rfl) rfl ?_ | refine w_val (v_loadB 4 rfl Try.underlying3 rfl rfl rfl) rfl ?_ | refine w_val (v_loadB 5 rfl Try.underlying3 rfl rfl rfl) rfl ?_ | refine w_val (v_loadB 6 rfl Try.underlying3 rfl rfl rfl) rfl ?_ | refine w_val (v_loadB 7 rfl Try.underlying3 rfl rfl rfl) rfl ?_ | refine w_val (v_loadB 8 rfl Try.underlying3 rfl rfl rfl) rfl ?_ | refine w_val (v_loadB 9 rfl Try.underlying3 rfl rfl rfl) rfl ?_ | refine w_val (v_loadB 10 rfl Try.underlying3 rfl rfl rfl) rfl ?_ | refine w_val (v_loadB 11 rfl Try.underlying3 rfl rfl rfl) rfl ?_
  refine w_nil ?_
  refine e_block ?_
  refine e_seq ?_
  refine e_region ?_
  refine w_val (v_eql rfl rfl) rfl ?_
  refine w_val (v_assign rfl) rfl ?_
  refine w_nil ?_
  by_cases h0 : x.do_ = 0
  · have hst : stepLog L k x = ((putL L x.round).1, k) := by unfold stepLog; rw [if_pos h0]
    rw [hst]
    dsimp only
    first | refine e_condDT rfl (by omega) ?_ | refine e_condT rfl ?_
    refine e_seq ?_
    refine e_region ?_
    refine w_val (v_move rfl) rfl ?_
    first | refine w_val (v_fieldAddrB (o := 2) Try.underlying36 rfl rfl Try.nz34 rfl) rfl ?_ | refine w_val (v_fieldAddr (o := 2) Try.underlying36 rfl rfl Try.nz34 rfl) rfl ?_
    first | refine w_val (v_loadB 0 rfl Try.underlying34 rfl rfl rfl) rfl ?_ | refine w_val (v_loadB 1 rfl Try.underlying34 rfl rfl rfl) rfl ?_ | refine w_val (v_loadB 2 rfl Try.underlying34 rfl rfl rfl) rfl ?_ | refine w_val (v_loadB 3 rfl Try.underlying34 rfl rfl rfl) rfl ?_ | refine w_val (v_loadB 4 rfl Try.underlying34 rfl rfl rfl) rfl ?_ | refine w_val (v_loadB 5 rfl Try.underlying34 rfl rfl rfl) rfl ?_ | refine w_val (v_loadB 6 rfl Try.underlying34 rfl rfl rfl) rfl ?_ | refine w_val (v_loadB 7 rfl Try.underlying34 rfl rfl rfl) rfl ?_ | refine w_val (v_loadB 8 rfl Try.underlying34 rfl rfl rfl) rfl ?_ | refine w_val (v_loadB 9 rfl Try.underlying34 rfl rfl rfl) rfl ?_ | refine w_val (v_loadB 10 rfl Try.underlying34 rfl rfl rfl) rfl ?_ | refine w_val (v_loadB 11 rfl Try.underlying34 rfl rfl rfl) rfl ?_
    refine w_op rfl ?_
    refine x_call (dst := some 19) (mc := lgH p bv ev L k) (mr := [_, _, _, _]) (σ := Value × Value) (fun _ => True) (fun _ => .tuple #[.int .i64 (putL L x.round).2.1, .int .i64 (putL L x.round).2.2]) (fun y => lgH p y.1 y.2 (putL L x.round).1 k) rfl rfl rfl Try.call68 (fun w hw => logPut_spec p bv ev L k u x.round w hw.part.1 hw.part.2 hok (hr.mono (hw.offm (fun c hc => List.mem_append_left _ hc))) hin) rfl (fun y _ => ?_)
    refine w_heap (fun _ hw => hw.perm (perm_7 _ _ _ _ _ _ _)) ?_
    refine w_val (v_move rfl) rfl ?_
    refine w_val (v_extract rfl rfl) rfl ?_
    refine w_val (v_extract rfl rfl) rfl ?_
    refine w_val (v_assign rfl) rfl ?_
    refine w_val (v_assign rfl) rfl ?_
    refine w_nil ?_
    refine e_seq ?_
    refine e_region ?_
    refine w_val (v_move rfl) rfl ?_
    first | refine w_val (v_fieldAddrB (o := 2) Try.underlying36 rfl rfl Try.nz34 rfl) rfl ?_ | refine w_val (v_fieldAddr (o := 2) Try.underlying36 rfl rfl Try.nz34 rfl) rfl ?_
    first | refine w_val (v_loadB 0 rfl Try.underlying34 rfl rfl rfl) rfl ?_ | refine w_val (v_loadB 1 rfl Try.underlying34 rfl rfl rfl) rfl ?_ | refine w_val (v_loadB 2 rfl Try.underlying34 rfl rfl rfl) rfl ?_ | refine w_val (v_loadB 3 rfl Try.underlying34 rfl rfl rfl) rfl ?_ | refine w_val (v_loadB 4 rfl Try.underlying34 rfl rfl rfl) rfl ?_ | refine w_val (v_loadB 5 rfl Try.underlying34 rfl rfl rfl) rfl ?_ | refine w_val (v_loadB 6 rfl Try.underlying34 rfl rfl rfl) rfl ?_ | refine w_val (v_loadB 7 rfl Try.underlying34 rfl rfl rfl) rfl ?_ | refine w_val (v_loadB 8 rfl Try.underlying34 rfl rfl rfl) rfl ?_ | refine w_val (v_loadB 9 rfl Try.underlying34 rfl rfl rfl) rfl ?_ | refine w_val (v_loadB 10 rfl Try.underlying34 rfl rfl rfl) rfl ?_ | refine w_val (v_loadB 11 rfl Try.underlying34 rfl rfl rfl) rfl ?_
    refine w_op rfl ?_
    refine x_call (dst := some 26) (mc := scH s lv L k vs G) (mr := [_, _, _, _]) (σ := Value × List Value × (Nat → Prop)) (fun _ => True) (fun _ => .tuple #[.int .i64 (putL L x.round).2.1, .int .i64 (putL L x.round).2.2]) (fun z => scH s z.1 (putL L x.round).1 k z.2.1 z.2.2) rfl rfl rfl Try.call70 (fun w hw => scPut_spec s lv L k vs G u x.round w hw.part.1 hw.part.2 hok (hr.mono (hw.offm (fun c hc => List.mem_append_left _ hc))) hin) rfl (fun z _ => ?_)
    refine w_val (v_move rfl) rfl ?_
    refine w_val (v_extract rfl rfl) rfl ?_
    refine w_val (v_extract rfl rfl) rfl ?_
    refine w_val (v_assign rfl) rfl ?_
    refine w_val (v_assign rfl) rfl ?_
    refine w_nil ?_
    refine e_seq ?_
    refine e_region ?_
    refine w_val (v_move rfl) rfl ?_
    refine w_val (v_move rfl) rfl ?_
    refine w_val (v_is (v' := .bool true) (v_eql rfl rfl) (by rw [decide_eq_true rfl])) rfl ?_
    refine w_val (v_move rfl) rfl ?_
    refine w_want rfl rfl ?_
    refine w_val (v_move rfl) rfl ?_
    refine w_want rfl rfl ?_
    refine w_val (v_move rfl) rfl ?_
    refine w_want rfl rfl ?_
    refine w_val (v_is (v' := .bool true) (v_eql rfl rfl) (by rw [decide_eq_true rfl])) rfl ?_
    first | refine w_val (v_pickT rfl rfl) rfl ?_ | refine w_val (v_pickF rfl rfl) rfl ?_
    refine w_val (v_assign rfl) rfl ?_
    refine w_nil ?_
    refine e_retQ (q_ret1 rfl (.tmp rfl) ?_)
    refine fun w' hw' => ⟨⟨y.1, y.2, z.1, z.2.1, z.2.2⟩, trivial, rfl, ?_⟩
    have h7 := hw'.perm (perm_7 _ _ _ _ _ _ _)
    exact (h7.sub (List.sublist_append_left (lsH p s ⟨y.1, y.2, z.1, z.2.1, z.2.2⟩ (putL L x.round).1 k) [_])).res
  · by_cases h1 : x.do_ = 1
    · have hst : stepLog L k x = (L, L.length) := by unfold stepLog; rw [if_neg h0, if_pos h1]
      rw [hst]
      dsimp only
      first | refine e_condDF rfl (by omega) ?_ | refine e_condF rfl ?_
      refine e_seq ?_
      refine e_region ?_
      refine w_val (v_is (v' := .bool true) (v_eql rfl rfl) (by rw [decide_eq_true h1])) rfl ?_
      refine w_val (v_assign rfl) rfl ?_
      refine w_nil ?_
      first | refine e_condDT rfl (by omega) ?_ | refine e_condT rfl ?_
      refine e_seq ?_
      refine e_region ?_
      refine w_val (v_move rfl) rfl ?_
      refine w_op rfl ?_
      refine x_call (dst := some 40) (mc := [lgB p bv ev L k]) (mr := [_, _, _, _, _, _]) (σ := Unit) (fun _ => True) (fun _ => .tuple #[]) (fun _ => [lgB p bv ev L L.length]) rfl rfl rfl Try.call71 (fun w hw => (logSync_spec p bv ev L k w (hw.mem (i := 0) rfl) (hw.mem (i := 1) rfl)).mono (fun e w' h => ⟨(), trivial, h.1, h.2⟩)) rfl (fun _ _ => ?_)
      refine w_nil ?_
      refine g_shapeR2 4 rfl fun Al kl hlv hkl _ => ?_
      subst hlv
      refine e_region ?_
      refine w_val (v_move rfl) rfl ?_
      refine w_val (v_move rfl) rfl ?_
      refine w_val (v_nilCheck rfl) rfl ?_
      first | refine w_val (v_fieldAddrB (o := 0) Try.underlying31 rfl rfl Try.nz29 rfl) rfl ?_ | refine w_val (v_fieldAddr (o := 0) Try.underlying31 rfl rfl Try.nz29 rfl) rfl ?_
      first | refine w_val (v_loadB 0 rfl Try.underlying29 rfl rfl rfl) rfl ?_ | refine w_val (v_loadB 1 rfl Try.underlying29 rfl rfl rfl) rfl ?_ | refine w_val (v_loadB 2 rfl Try.underlying29 rfl rfl rfl) rfl ?_ | refine w_val (v_loadB 3 rfl Try.underlying29 rfl rfl rfl) rfl ?_ | refine w_val (v_loadB 4 rfl Try.underlying29 rfl rfl rfl) rfl ?_ | refine w_val (v_loadB 5 rfl Try.underlying29 rfl rfl rfl) rfl ?_ | refine w_val (v_loadB 6 rfl Try.underlying29 rfl rfl rfl) rfl ?_ | refine w_val (v_loadB 7 rfl Try.underlying29 rfl rfl rfl) rfl ?_ | refine w_val (v_loadB 8 rfl Try.underlying29 rfl rfl rfl) rfl ?_ | refine w_val (v_loadB 9 rfl Try.underlying29 rfl rfl rfl) rfl ?_ | refine w_val (v_loadB 10 rfl Try.underlying29 rfl rfl rfl) rfl ?_ | refine w_val (v_loadB 11 rfl Try.underlying29 rfl rfl rfl) rfl ?_
      refine w_val (v_lenS Try.underlying29 rfl) rfl ?_
      refine w_val (v_nilCheck rfl) rfl ?_
      first | refine w_val (v_fieldAddrB (o := 1) Try.underlying31 rfl rfl Try.nz3 rfl) rfl ?_ | refine w_val (v_fieldAddr (o := 1) Try.underlying31 rfl rfl Try.nz3 rfl) rfl ?_
      refine w_op rfl ?_
      first | refine x_store1 0 rfl rfl rfl Try.hi3 Try.cz3 rfl (by first | (simp; done) | (simp [intCells_len]; omega) | exact Nat.zero_lt_succ _) rfl ?_ | refine x_store1 1 rfl rfl rfl Try.hi3 Try.cz3 rfl (by first | (simp; done) | (simp [intCells_len]; omega) | exact Nat.zero_lt_succ _) rfl ?_ | refine x_store1 2 rfl rfl rfl Try.hi3 Try.cz3 rfl (by first | (simp; done) | (simp [intCells_len]; omega) | exact Nat.zero_lt_succ _) rfl ?_ | refine x_store1 3 rfl rfl rfl Try.hi3 Try.cz3 rfl (by first | (simp; done) | (simp [intCells_len]; omega) | exact Nat.zero_lt_succ _) rfl ?_ | refine x_store1 4 rfl rfl rfl Try.hi3 Try.cz3 rfl (by first | (simp; done) | (simp [intCells_len]; omega) | exact Nat.zero_lt_succ _) rfl ?_ | refine x_store1 5 rfl rfl rfl Try.hi3 Try.cz3 rfl (by first | (simp; done) | (simp [intCells_len]; omega) | exact Nat.zero_lt_succ _) rfl ?_ | refine x_store1 6 rfl rfl rfl Try.hi3 Try.cz3 rfl (by first | (simp; done) | (simp [intCells_len]; omega) | exact Nat.zero_lt_succ _) rfl ?_ | refine x_store1 7 rfl rfl rfl Try.hi3 Try.cz3 rfl (by first | (simp; done) | (simp [intCells_len]; omega) | exact Nat.zero_lt_succ _) rfl ?_ | refine x_store1 8 rfl rfl rfl Try.hi3 Try.cz3 rfl (by first | (simp; done) | (simp [intCells_len]; omega) | exact Nat.zero_lt_succ _) rfl ?_ | refine x_store1 9 rfl rfl rfl Try.hi3 Try.cz3 rfl (by first | (simp; done) | (simp [intCells_len]; omega) | exact Nat.zero_lt_succ _) rfl ?_ | refine x_store1 10 rfl rfl rfl Try.hi3 Try.cz3 rfl (by first | (simp; done) | (simp [intCells_len]; omega) | exact Nat.zero_lt_succ _) rfl ?_ | refine x_store1 11 rfl rfl rfl Try.hi3 Try.cz3 rfl (by first | (simp; done) | (simp [intCells_len]; omega) | exact Nat.zero_lt_succ _) rfl ?_
      refine w_nil ?_
      refine e_blk ?_
      refine e_seq ?_
      refine e_region ?_
      refine w_val (v_assign rfl) rfl ?_
      refine w_nil ?_
      refine e_retQ (q_ret1 rfl (.tmp rfl) ?_)
      refine fun w' hw' => ⟨⟨bv, ev, .slice Al L.length kl, vs, G⟩, trivial, rfl, ?_⟩
      exact (hw'.sub (List.sublist_append_left (lsH p s ⟨bv, ev, .slice Al L.length kl, vs, G⟩ L L.length) [_])).res
    · by_cases h2 : x.do_ = 2
      · have hst : stepLog L k x = (L.take (crashL L k x.keep), crashL L k x.keep) := by unfold stepLog; rw [if_neg h0, if_neg h1, if_pos h2]
        rw [hst]
        dsimp only
        first | refine e_condDF rfl (by omega) ?_ | refine e_condF rfl ?_
        refine e_seq ?_
        refine e_region ?_
        refine w_val (v_is (v' := .bool false) (v_eql rfl rfl) (by rw [decide_eq_false h1])) rfl ?_
        refine w_val (v_assign rfl) rfl ?_
        refine w_nil ?_
        first | refine e_condDF rfl (by omega) ?_ | refine e_condF rfl ?_
        refine e_seq ?_
        refine e_region ?_
        refine w_val (v_is (v' := .bool true) (v_eql rfl rfl) (by rw [decide_eq_true h2])) rfl ?_
        refine w_val (v_assign rfl) rfl ?_
        refine w_nil ?_
        first | refine e_condDT rfl (by omega) ?_ | refine e_condT rfl ?_
        refine e_seq ?_
        refine e_region ?_
        refine w_val (v_move rfl) rfl ?_
        first | refine w_val (v_fieldAddrB (o := 1) Try.underlying36 rfl rfl Try.nz3 rfl) rfl ?_ | refine w_val (v_fieldAddr (o := 1) Try.underlying36 rfl rfl Try.nz3 rfl) rfl ?_
        first | refine w_val (v_loadB 0 rfl Try.underlying3 rfl rfl rfl) rfl ?_ | refine w_val (v_loadB 1 rfl Try.underlying3 rfl rfl rfl) rfl ?_ | refine w_val (v_loadB 2 rfl Try.underlying3 rfl rfl rfl) rfl ?_ | refine w_val (v_loadB 3 rfl Try.underlying3 rfl rfl rfl) rfl ?_ | refine w_val (v_loadB 4 rfl Try.underlying3 rfl rfl rfl) rfl ?_ | refine w_val (v_loadB 5 rfl Try.underlying3 rfl rfl rfl) rfl ?_ | refine w_val (v_loadB 6 rfl Try.underlying3 rfl rfl rfl) rfl ?_ | refine w_val (v_loadB 7 rfl Try.underlying3 rfl rfl rfl) rfl ?_ | refine w_val (v_loadB 8 rfl Try.underlying3 rfl rfl rfl) rfl ?_ | refine w_val (v_loadB 9 rfl Try.underlying3 rfl rfl rfl) rfl ?_ | refine w_val (v_loadB 10 rfl Try.underlying3 rfl rfl rfl) rfl ?_ | refine w_val (v_loadB 11 rfl Try.underlying3 rfl rfl rfl) rfl ?_
        refine w_op rfl ?_
        refine x_call (dst := some 54) (mc := lgH p bv ev L k) (mr := [_, _, _, _]) (σ := Value × Value) (fun _ => True) (fun _ => .tuple #[]) (fun y => lgH p y.1 y.2 (L.take (crashL L k x.keep)) (crashL L k x.keep)) rfl rfl rfl Try.call69 (fun w hw => logCrash_spec p bv ev L k x.keep w hw.part.1 hw.part.2 hok) rfl (fun y _ => ?_)
        refine w_nil ?_
        refine g_heap (fun _ hw => hw.perm (perm_7 _ _ _ _ _ _ _)) ?_
        refine e_region ?_
        refine w_val (v_move rfl) rfl ?_
        first | refine w_val (v_fieldAddrB (o := 1) Try.underlying36 rfl rfl Try.nz3 rfl) rfl ?_ | refine w_val (v_fieldAddr (o := 1) Try.underlying36 rfl rfl Try.nz3 rfl) rfl ?_
        first | refine w_val (v_loadB 0 rfl Try.underlying3 rfl rfl rfl) rfl ?_ | refine w_val (v_loadB 1 rfl Try.underlying3 rfl rfl rfl) rfl ?_ | refine w_val (v_loadB 2 rfl Try.underlying3 rfl rfl rfl) rfl ?_ | refine w_val (v_loadB 3 rfl Try.underlying3 rfl rfl rfl) rfl ?_ | refine w_val (v_loadB 4 rfl Try.underlying3 rfl rfl rfl) rfl ?_ | refine w_val (v_loadB 5 rfl Try.underlying3 rfl rfl rfl) rfl ?_ | refine w_val (v_loadB 6 rfl Try.underlying3 rfl rfl rfl) rfl ?_ | refine w_val (v_loadB 7 rfl Try.underlying3 rfl rfl rfl) rfl ?_ | refine w_val (v_loadB 8 rfl Try.underlying3 rfl rfl rfl) rfl ?_ | refine w_val (v_loadB 9 rfl Try.underlying3 rfl rfl rfl) rfl ?_ | refine w_val (v_loadB 10 rfl Try.underlying3 rfl rfl rfl) rfl ?_ | refine w_val (v_loadB 11 rfl Try.underlying3 rfl rfl rfl) rfl ?_
        refine w_op rfl ?_
        refine x_call (dst := some 58) (mc := scH s lv L k vs G) (mr := [_, _, _, _]) (σ := Value) (fun _ => True) (fun _ => .tuple #[]) (fun z => scH s z (L.take (crashL L k x.keep)) (crashL L k x.keep) (vs.take (crashL L k x.keep)) G) rfl rfl rfl Try.call72 (fun w hw => scCrash_spec s lv L k vs G x.keep w hw.part.1 hw.part.2 hok) rfl (fun z _ => ?_)
        refine w_nil ?_
        refine e_blk ?_
        refine e_seq ?_
        refine e_region ?_
        refine w_val (v_assign rfl) rfl ?_
        refine w_nil ?_
        refine e_retQ (q_ret1 rfl (.tmp rfl) ?_)
        refine fun w' hw' => ⟨⟨y.1, y.2, z, vs.take (crashL L k x.keep), G⟩, trivial, rfl, ?_⟩
        have h7 := hw'.perm (perm_7 _ _ _ _ _ _ _)
        exact (h7.sub (List.sublist_append_left (lsH p s ⟨y.1, y.2, z, vs.take (crashL L k x.keep), G⟩ (L.take (crashL L k x.keep)) (crashL L k x.keep)) [_])).res
      · have hst : stepLog L k x = (L, k) := by unfold stepLog; rw [if_neg h0, if_neg h1, if_neg h2]
        rw [hst]
        dsimp only
        first | refine e_condDF rfl (by omega) ?_ | refine e_condF rfl ?_
        refine e_seq ?_
        refine e_region ?_
        refine w_val (v_is (v' := .bool false) (v_eql rfl rfl) (by rw [decide_eq_false h1])) rfl ?_
        refine w_val (v_assign rfl) rfl ?_
        refine w_nil ?_
        first | refine e_condDF rfl (by omega) ?_ | refine e_condF rfl ?_
        refine e_seq ?_
        refine e_region ?_
        refine w_val (v_is (v' := .bool false) (v_eql rfl rfl) (by rw [decide_eq_false h2])) rfl ?_
        refine w_val (v_assign rfl) rfl ?_
        refine w_nil ?_
        first | refine e_condDF rfl (by omega) ?_ | refine e_condF rfl ?_
        refine e_skip ?_
        refine e_blk ?_
        refine e_seq ?_
        refine e_region ?_
        refine w_val (v_assign rfl) rfl ?_
        refine w_nil ?_
        refine e_retQ (q_ret1 rfl (.tmp rfl) ?_)
        refine fun w' hw' => ⟨⟨bv, ev, lv, vs, G⟩, trivial, rfl, ?_⟩
        exact (hw'.sub (List.sublist_append_left (lsH p s ⟨bv, ev, lv, vs, G⟩ L k) [_])).res
end Go.SL
end
section
open Go Go.Proofs Go.SL
set_option maxRecDepth 100000
namespace Go.SL
theorem lb1 : putL [] [[]] = ([[[]]], 0, 0) := by decide +kernel
theorem lb2 : putL [[[]]] [] = ([[[]], []], 1, 0) := by decide +kernel
theorem lb3 : crashL [[[]], []] 0 4 = 1 := by decide +kernel
theorem lb4 : bytesOf [[[]]] = [2, 0, 1, 0] := by decide +kernel
theorem lb5 : endAt [[[]]] 1 = 4 := by decide +kernel
theorem lbOk0 : LogOk [] 0 := ⟨by decide, by decide, by decide, fun r hr => by simp at hr⟩
theorem nil_in : ∀ r : RoundL, (∀ d ∈ r, d = []) → ∀ d ∈ r, ∀ o ∈ d, OpIn o := fun r h d hd o ho => by rw [h d hd] at ho; simp at ho
theorem lbOk1 : LogOk [[[]]] 0 := by
  have := putL_logOk (r := [[]]) lbOk0 (nil_in _ (fun d hd => by simpa using hd))
  rwa [lb1] at this
theorem lbOk2 : LogOk [[[]], []] 0 := by
  have := putL_logOk (r := []) lbOk1 (nil_in _ (fun d hd => by simp at hd))
  rwa [lb2] at this
theorem logBegun_spec (w : World) : Calls Try.prog 14 #[] w fun e w' => e = .returned (.bool true) ∧ Res w [] [] w' := by
  refine enter0 (N := 86) Try.func14 rfl rfl rfl ?_
  refine e_seq ?_
  refine e_region ?_
  refine w_val (v_assign rfl) rfl ?_
  refine w_nil ?_
  refine e_seq ?_
  refine e_region ?_
  refine w_op rfl ?_
  refine x_call (dst := some 11) (mc := []) (mr := []) (σ := Nat) (fun _ => True) (fun p => .pointer (some ⟨p, 0, none⟩)) (fun p => lgH p (.slice none 0 0) (.slice none 0 0) [] 0) rfl rfl rfl Try.call16 (fun w hw => logNew_spec w) rfl (fun p _ => ?_)
  refine w_val (v_assign rfl) rfl ?_
  refine w_nil ?_
  refine e_seq ?_
  refine e_seq ?_
  refine e_region ?_
  refine w_val (v_move rfl) rfl ?_
  refine w_val (v_is (v' := .bool false) (v_eqlPtr Try.underlying26 rfl rfl) (by rfl)) rfl ?_
  refine w_nil ?_
  refine e_condF rfl ?_
  refine e_skip ?_
  refine e_seq ?_
  refine e_region ?_
  refine w_val (v_move rfl) rfl ?_
  refine w_op rfl ?_
  refine x_buildSlice [] [] rfl (run_buildSlice0 Try.underlying52 Try.hi61 Try.cz61) rfl (fun b16 => ?_)
  refine w_op rfl ?_
  refine x_buildSlice _ ([.slice (some ⟨b16, 0, none⟩) 0 0]) rfl (run_buildSlice Try.underlying34 Try.hi52 Try.cz52 Try.zeroValue52 rfl (by kernel_rfl)) rfl (fun b17 => ?_)
  refine g_heap (m' := lgH p (.slice none 0 0) (.slice none 0 0) [] 0 ++ [Chunk.blk b17 52 [Value.slice (some ⟨b16, 0, none⟩) 0 0], Chunk.blk b16 61 []]) (fun _ hw => hw.perm (List.perm_append_comm (l₁ := [_, _]))) ?_
  have hp1 := fun (bv ev v : Value) (w : World) h hs hr => logPut_spec p bv ev [] 0 v [[]] w h hs lbOk0 hr (nil_in _ (fun d hd => by simpa using hd))
  rw [lb1] at hp1
  refine w_op rfl ?_
  refine x_call (dst := some 18) (mc := lgH p (.slice none 0 0) (.slice none 0 0) [] 0) (mr := [_, _]) (σ := Value × Value) (fun _ => True) (fun _ => .tuple #[.int .i64 0, .int .i64 0]) (fun y => lgH p y.1 y.2 [[[]]] 0) rfl rfl rfl Try.call68 (fun w hw => hp1 _ _ _ w hw.part.1 hw.part.2 (IsRound.mono hw.apart (lit_round (b12 := b17) (b11 := b16) (e := 52) (e' := 61) (d := []) (hw.partR _ (by simp)) (hw.partR _ (by simp [deedCells]))))) rfl (fun y _ => ?_)
  refine g_heap (m' := lgH p y.1 y.2 [[[]]] 0) (fun _ hw => hw.sub (List.sublist_append_left _ _)) ?_
  refine w_val (v_move rfl) rfl ?_
  refine w_val (v_extract rfl rfl) rfl ?_
  refine w_val (v_extract rfl rfl) rfl ?_
  refine w_val (v_assign rfl) rfl ?_
  refine w_val (v_assign rfl) rfl ?_
  refine w_nil ?_
  refine e_seq ?_
  refine e_region ?_
  refine w_val (v_move rfl) rfl ?_
  refine w_op rfl ?_
  refine x_buildSlice [] [] rfl (run_buildSlice0 Try.underlying34 Try.hi52 Try.cz52) rfl (fun b23 => ?_)
  refine g_heap (m' := lgH p y.1 y.2 [[[]]] 0) (fun _ hw => hw.sub (List.sublist_cons_self _ _)) ?_
  have hp2 := fun (bv ev v : Value) (w : World) h hs hr => logPut_spec p bv ev [[[]]] 0 v [] w h hs lbOk1 hr (nil_in _ (fun d hd => by simp at hd))
  rw [lb2] at hp2
  refine w_op rfl ?_
  refine x_call (dst := some 24) (mc := lgH p y.1 y.2 [[[]]] 0) (mr := []) (σ := Value × Value) (fun _ => True) (fun _ => .tuple #[.int .i64 1, .int .i64 0]) (fun y => lgH p y.1 y.2 [[[]], []] 0) rfl rfl rfl Try.call68 (fun w hw => hp2 _ _ _ w hw.part.1 hw.part.2 (isRound_none _ _ _)) rfl (fun z _ => ?_)
  refine w_val (v_move rfl) rfl ?_
  refine w_val (v_extract rfl rfl) rfl ?_
  refine w_val (v_extract rfl rfl) rfl ?_
  refine w_val (v_assign rfl) rfl ?_
  refine w_val (v_assign rfl) rfl ?_
  refine w_nil ?_
  refine e_seq ?_
  refine e_region ?_
  refine w_val (v_move rfl) rfl ?_
  refine w_op rfl ?_
  refine x_call (dst := some 29) (mc := []) (σ := Value × (Nat → Prop)) (fun _ => True) (fun s => .tuple #[s.1, .bool true]) (fun s => [Keep s.2 (fun c => IsRound c s.1 [])]) rfl rfl rfl Try.call20 (fun w hw => logRound_spec p _ _ [[[]], []] 0 1 w (LgV.of (fun c hc => hw.hold c (by simpa using hc))) lbOk2 (by decide)) rfl (fun s _ => ?_)
  obtain ⟨sl, G⟩ := s
  dsimp only
  refine g_round 0 rfl fun A2 k2 hsl hk2 => ?_
  subst hsl
  refine w_val (v_move rfl) rfl ?_
  refine w_val (v_extract rfl rfl) rfl ?_
  refine w_val (v_extract rfl rfl) rfl ?_
  refine w_val (v_assign rfl) rfl ?_
  refine w_val (v_assign rfl) rfl ?_
  refine w_nil ?_
  refine e_seq ?_
  refine e_region ?_
  refine w_val (v_move rfl) rfl ?_
  refine w_op rfl ?_
  refine x_call0 (v := .int .i64 2) rfl rfl rfl Try.call18 rfl (fun w hw => logLen_spec p z.1 z.2 [[[]], []] 0 w (LgV.of (fun c hc => hw.hold c (List.mem_cons_of_mem _ (by simpa using hc))))) ?_
  refine w_val (v_assign rfl) rfl ?_
  refine w_nil ?_
  refine e_seq ?_
  refine e_region ?_
  refine w_val (v_move rfl) rfl ?_
  refine g_heap (m' := lgH p z.1 z.2 [[[]], []] 0) (fun _ hw => hw.sub (.cons _ (by simp))) ?_
  have hcr := fun (w : World) h hs => logCrash_spec p z.1 z.2 [[[]], []] 0 4 w h hs lbOk2
  rw [lb3] at hcr
  refine w_op rfl ?_
  refine x_call (dst := some 35) (mc := lgH p z.1 z.2 [[[]], []] 0) (mr := []) (σ := Value × Value) (fun _ => True) (fun _ => .tuple #[]) (fun y => lgH p y.1 y.2 [[[]]] 1) rfl rfl rfl Try.call69 (fun w hw => hcr w hw.part.1 hw.part.2) rfl (fun q _ => ?_)
  refine w_nil ?_
  have hby := fun (w : World) h => logBytes_spec p q.1 q.2 [[[]]] 1 w h (by rw [lb4]; decide)
  rw [lb4, lb5] at hby
  refine e_seq ?_
  refine e_region ?_
  refine w_val (v_move rfl) rfl ?_
  refine w_op rfl ?_
  refine x_call (dst := some 38) (mc := []) (σ := Value) (fun _ => True) (fun s => .tuple #[s, .int .i64 4]) (fun s => [Own s 5 1 4 (byteCells [2, 0, 1, 0])]) rfl rfl rfl Try.call22 (fun w hw => hby w (LgV.of (fun c hc => hw.hold c (by simpa using hc)))) rfl (fun sb _ => ?_)
  refine w_val (v_move rfl) rfl ?_
  refine w_val (v_extract rfl rfl) rfl ?_
  refine w_val (v_extract rfl rfl) rfl ?_
  refine w_val (v_assign rfl) rfl ?_
  refine w_val (v_assign rfl) rfl ?_
  refine w_nil ?_
  refine e_seq ?_
  refine e_region ?_
  refine w_val (v_move rfl) rfl ?_
  refine w_val (v_is (v' := .bool true) (v_eql rfl rfl) (by rfl)) rfl ?_
  refine w_val (v_move rfl) rfl ?_
  refine w_want rfl rfl ?_
  refine w_val (v_move rfl) rfl ?_
  refine w_want rfl rfl ?_
  refine w_val (v_is (v' := .bool true) (v_eql rfl rfl) (by rfl)) rfl ?_
  first | refine w_val (v_pickT rfl rfl) rfl ?_ | refine w_val (v_pickF rfl rfl) rfl ?_
  refine w_val (v_move rfl) rfl ?_
  refine w_want rfl rfl ?_
  refine w_val (v_move rfl) rfl ?_
  refine w_want rfl rfl ?_
  refine w_val (v_is (v' := .bool true) (v_eql rfl rfl) (by rfl)) rfl ?_
  first | refine w_val (v_pickT rfl rfl) rfl ?_ | refine w_val (v_pickF rfl rfl) rfl ?_
  refine w_val (v_move rfl) rfl ?_
  refine w_want rfl rfl ?_
  refine w_val (v_move rfl) rfl ?_
  refine w_want rfl rfl ?_
  refine w_val (v_is (v' := .bool true) (v_eql rfl rfl) (by rfl)) rfl ?_
  first | refine w_val (v_pickT rfl rfl) rfl ?_ | refine w_val (v_pickF rfl rfl) rfl ?_
  refine w_val (v_move rfl) rfl ?_
  refine w_want rfl rfl ?_
  refine w_val (v_move rfl) rfl ?_
  first | refine w_val (v_pickT rfl rfl) rfl ?_ | refine w_val (v_pickF rfl rfl) rfl ?_
  refine w_val (v_move rfl) rfl ?_
  refine w_want rfl rfl ?_
  refine w_val (v_move rfl) rfl ?_
  refine w_want rfl rfl ?_
  refine w_val (v_lenS Try.underlying34 rfl) rfl ?_
  refine w_want rfl rfl ?_
  refine w_val (v_is (v' := .bool true) (v_eql rfl rfl) (by rfl)) rfl ?_
  first | refine w_val (v_pickT rfl rfl) rfl ?_ | refine w_val (v_pickF rfl rfl) rfl ?_
  refine w_val (v_move rfl) rfl ?_
  refine w_want rfl rfl ?_
  refine w_val (v_move rfl) rfl ?_
  refine w_want rfl rfl ?_
  refine w_val (v_is (v' := .bool true) (v_eql rfl rfl) (by rfl)) rfl ?_
  first | refine w_val (v_pickT rfl rfl) rfl ?_ | refine w_val (v_pickF rfl rfl) rfl ?_
  refine w_val (v_move rfl) rfl ?_
  refine w_want rfl rfl ?_
  refine w_val (v_move rfl) rfl ?_
  refine w_want rfl rfl ?_
  refine w_op rfl ?_
  refine x_call0 (v := .int .i64 1) rfl rfl rfl Try.call18 rfl (fun w hw => logLen_spec p q.1 q.2 [[[]]] 1 w (LgV.of (fun c hc => hw.hold c (List.mem_cons_of_mem _ (by simpa using hc))))) ?_
  refine w_want rfl rfl ?_
  refine w_val (v_is (v' := .bool true) (v_eql rfl rfl) (by rfl)) rfl ?_
  first | refine w_val (v_pickT rfl rfl) rfl ?_ | refine w_val (v_pickF rfl rfl) rfl ?_
  refine w_val (v_move rfl) rfl ?_
  refine w_want rfl rfl ?_
  refine w_val (v_move rfl) rfl ?_
  refine w_want rfl rfl ?_
  refine w_op rfl ?_
  refine x_call0 (v := .int .i64 1) rfl rfl rfl Try.call19 rfl (fun w hw => logSure_spec p q.1 q.2 [[[]]] 1 w (LgV.of (fun c hc => hw.hold c (List.mem_cons_of_mem _ (by simpa using hc)))) (by decide) (by decide)) ?_
  refine w_want rfl rfl ?_
  refine w_val (v_is (v' := .bool true) (v_eql rfl rfl) (by rfl)) rfl ?_
  first | refine w_val (v_pickT rfl rfl) rfl ?_ | refine w_val (v_pickF rfl rfl) rfl ?_
  refine w_val (v_move rfl) rfl ?_
  refine w_want rfl rfl ?_
  refine w_val (v_move rfl) rfl ?_
  refine w_want rfl rfl ?_
  refine w_val (v_bytesStr (b := [2, 0, 1, 0]) Try.underlying23 Try.underlying5 Try.underlying9 rfl (fun w hw => own_rds (hw.mem (i := 0) rfl))) rfl ?_
  refine w_want rfl rfl ?_
  refine w_val (v_is (v' := .bool true) (v_eqlStr rfl rfl) (congrArg Value.bool (by decide +kernel))) rfl ?_
  first | refine w_val (v_pickT rfl rfl) rfl ?_ | refine w_val (v_pickF rfl rfl) rfl ?_
  refine w_val (v_move rfl) rfl ?_
  refine w_want rfl rfl ?_
  refine w_val (v_move rfl) rfl ?_
  refine w_want rfl rfl ?_
  refine w_val (v_is (v' := .bool true) (v_eql rfl rfl) (by rfl)) rfl ?_
  first | refine w_val (v_pickT rfl rfl) rfl ?_ | refine w_val (v_pickF rfl rfl) rfl ?_
  refine w_val (v_assign rfl) rfl ?_
  refine w_nil ?_
  refine e_retQ (q_ret1 rfl (.tmp rfl) ?_)
  exact fun w' hw' => ⟨rfl, hw'.res.nil⟩
end Go.SL
end
section
open Go Go.Proofs Go.SL
set_option maxRecDepth 100000
namespace Go.SL
/-- a new log, a new scroll -/
theorem St.newLog {w0 w : World} {F : Nat → Prop} {p s : Nat} (h : St w0 F (scB s (.slice none 0 0) 0 :: lgH p (.slice none 0 0) (.slice none 0 0) [] 0) w) :
    St w0 F (lsH p s ⟨.slice none 0 0, .slice none 0 0, .slice none 0 0, [], feet []⟩ [] 0) w := by
  have h1 := (h.keep0 (Rounds [] []) Rounds.nil).rowNil 34 1
  refine h1.perm ?_
  refine (List.perm_append_comm (l₁ := [_, _, _]) (l₂ := [_, _, _])).trans ?_
  exact .cons _ (.cons _ (.cons _ (List.perm_append_comm (l₁ := [_, _]) (l₂ := [_]))))
theorem LgV.at {w0 w : World} {F : Nat → Prop} {m : Hp} {p : Nat} {bv ev : Value} {L : List RoundL} {k : Nat} (hw : St w0 F m w) (i : Nat) (h0 : m[i]? = some (lgB p bv ev L k)) (h1 : m[i + 1]? = some (Rw bv 5 1 (bytesOf L).length (byteCells (bytesOf L)))) (h2 : m[i + 2]? = some (Rw ev 3 1 L.length (intCells (endsOf L)))) : LgV w.cell? p bv ev L k :=
  LgV.of fun c hc => by
    simp only [lgH, List.mem_cons, List.not_mem_nil, or_false] at hc
    rcases hc with rfl | rfl | rfl
    · exact hw.mem h0
    · exact hw.mem h1
    · exact hw.mem h2
theorem lg_mem {p s : Nat} {S : LS} {L : List RoundL} {k : Nat} {mr : Hp} : ∀ c ∈ lgH p S.bv S.ev L k, c ∈ lsH p s S L k ++ mr := fun c hc => List.mem_append_left _ (List.mem_append_left _ hc)
theorem crash_again {L : List RoundL} {n : Nat} {keep : Int} (h : LogOk L n) (hn : n = L.length) : crashL L n keep = n := by
  have := crashL_spec (keep := keep) h.sure h.bytes
  omega
theorem putL_code (L : List RoundL) (r : RoundL) : ((putL L r).2.2 ≠ 0 ∧ (putL L r).1 = L ∧ (putL L r).2.1 = 0) ∨ (putL L r = (L ++ [r], (L.length : Int), 0) ∧ roundFaultL r = 0) := by
  by_cases hf : roundFaultL r ≠ 0
  · rw [putL_bad hf]; exact .inl ⟨hf, rfl, rfl⟩
  · by_cases h2 : L.length = 25 ∨ 4000 < (bytesOf L).length + (encL r).length
    · rw [putL_full hf h2]; exact .inl ⟨(by decide : (8 : Int) ≠ 0), rfl, rfl⟩
    · rw [putL_ok hf h2]; exact .inr ⟨rfl, by omega⟩
end Go.SL
end
