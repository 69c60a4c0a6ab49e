/- Ytebdkaadbakhlaa: part D6 of this seat's own texts. -/
import Derived.Test.YtebdkaadbakhlaaD5
import Derived.Test.YtebdkaadbakhlaaMo5
import Derived.Tactics
import Derived.Tactics2
import Derived.Laws.Pointers
set_option linter.unusedVariables false
set_option linter.unusedSimpArgs false
open Go Go.Proofs Go.SL
set_option maxRecDepth 100000
namespace Go.SL
theorem bodyClosure_idle (b2 b3 : Nat) (w : World) : CallsD Try.prog 64 #[.pointer (some ⟨b2, 0, none⟩), .pointer (some ⟨b3, 0, none⟩)] .returning w fun e u' w' => e = .returned (.tuple #[]) ∧ u' = .returning ∧ w' = w := by
  refine callsD_of_wpS Try.func64 rfl fun c₀ cs hu => ?_
  apply wpS_seq
  apply wpS_region
  simp [wpOpsS, go_sem, recoverD, hu, Try.ntmps64, Exit.thenS]
  apply wpS_seq
  apply wpS_region
  simp [wpOpsS, go_sem, Exit.thenS]
  refine wpS_cond (t := false) (by simp [Act.eval, Array.replicate]) ?_
  simp only [Bool.false_eq_true, if_false]
  refine wpS_of_wp (wp_skip ?_)
  cases c₀
  simp_all [bodyPostS, results, Try.results64]
theorem bodyClosure_panics (b2 b3 : Nat) (x2 x3 : Value) (w : World) (h2 : (Chunk.blk b2 40 [x2]).holds w) (h3 : (Chunk.blk b3 3 [x3]).holds w) (hne : b2 ≠ b3) :
    CallsD Try.prog 64 #[.pointer (some ⟨b2, 0, none⟩), .pointer (some ⟨b3, 0, none⟩)] (.panicking [{ v := gone3, recovered := false }]) w
      fun e u' w' => e = .returned (.tuple #[]) ∧ u' = .panicking [{ v := gone3, recovered := true }] ∧ w' = (w.setCell ⟨b2, 0, none⟩ (.slice none 0 0)).setCell ⟨b3, 0, none⟩ (.int .i64 3) := by
  have c2 : w.cell? ⟨b2, 0, none⟩ = some x2 := by rw [blk_cell h2]; rfl
  have c3 : w.cell? ⟨b3, 0, none⟩ = some x3 := by rw [blk_cell h3]; rfl
  have z2 := blk_thawed (i := 0) h2
  have z3 := blk_thawed (i := 0) h3
  refine callsD_of_wpS Try.func64 rfl fun c₀ cs hu => ?_
  apply wpS_seq
  apply wpS_region
  simp [wpOpsS, go_sem, recoverD, hu, Try.ntmps64, Exit.thenS]
  apply wpS_seq
  apply wpS_region
  simp [wpOpsS, go_sem, Exit.thenS]
  refine wpS_cond (t := true) (by simp [Act.eval, Array.replicate]) ?_
  simp only [if_true]
  have hta : ∀ w, (Instr.typeAssert gone3 20 108 true).run Try.prog w = .ok (.tuple #[.int .i64 3, .bool true]) w := fun w => by
    simp only [Instr.typeAssert, Sem.run_bind, run_underlying Try.underlying108, Result.andThen_ok, if_true]
    rfl
  apply wpS_seq
  apply wpS_region
  simp [wpOpsS, go_sem, Exit.thenS, hta]
  apply wpS_seq
  apply wpS_seq
  apply wpS_region
  simp [wpOpsS, go_sem, Exit.thenS]
  refine wpS_cond (t := false) (by simp [Act.eval, Array.replicate]) ?_
  simp only [Bool.false_eq_true, if_false]
  refine wpS_of_wp (wp_skip ?_)
  simp only [Exit.thenS]
  apply wpS_region
  have h3' : (Chunk.blk b3 3 [x3]).holds (w.setCell ⟨b2, 0, none⟩ (.slice none 0 0)) := (Go.RowKit.Below.heap_setCell w _ _ b3 (fun e => hne e.symm)).trans h3
  have c3' : (w.setCell ⟨b2, 0, none⟩ (.slice none 0 0)).cell? ⟨b3, 0, none⟩ = some x3 := by rw [blk_cell h3']; rfl
  have z3' := blk_thawed (i := 0) h3'
  simp [wpOpsS, go_sem, c2, c3, z2, z3, c3', z3', bodyPostS, results, Try.results64]
theorem codecBody_spec (v : Value) (bs : List UInt8) (w : World) (h : IsBytes w.cell? v bs) :
    Calls Try.prog 52 #[v] w fun e w' =>
      ∃ s : Value × (Nat → Prop), True ∧ e = .returned (.tuple #[s.1, .int .i64 (bodyL roundFaultL bs).2]) ∧ Res w [] [Keep s.2 (fun c => IsRound c s.1 (bodyL roundFaultL bs).1)] w' := by
  rw [← off_none w] at h
  have hpan : ∀ (b2 b3 : Nat) (F : Nat → Prop) (w0 : World) (m : Hp) (w : World), St w0 F (.blk b3 3 [.int .i64 0] :: .blk b2 40 [.slice none 0 0] :: m) w →
      CallsD Try.prog 64 #[.pointer (some ⟨b2, 0, none⟩), .pointer (some ⟨b3, 0, none⟩)] (.panicking [{ v := gone3, recovered := false }]) w fun e u' w' => e = .returned (.tuple #[]) ∧ settle u' = .returning ∧ St w0 F (.blk b3 3 [.int .i64 3] :: .blk b2 40 [.slice none 0 0] :: m) w' := by
    intro b2 b3 F w0 m w hw
    have hne : b2 ≠ b3 := fun e => (List.pairwise_cons.1 hw.sep).1 _ (List.mem_cons_self ..) b2 e rfl
    refine (bodyClosure_panics b2 b3 _ _ w (hw.mem (i := 1) rfl) (hw.mem (i := 0) rfl) hne).mono ?_
    rintro e u' w' ⟨rfl, rfl, rfl⟩
    exact ⟨rfl, rfl, blk_set (b := b3) (e := 3) (cs := [.int .i64 0]) (v := .int .i64 3) (i := 0) 0 rfl (blk_set (b := b2) (e := 40) (cs := [.slice none 0 0]) (v := .slice none 0 0) (i := 0) 1 rfl hw)⟩
  have h0 := h
  obtain ⟨A0, k0, rfl, hk0, _, _⟩ := h0
  refine enterD0 (N := 24) Try.func52 rfl rfl rfl ?_
  refine e_seq ?_
  refine e_region ?_
  refine w_op rfl ?_
  refine x_alloc (z := .slice none 0 0) (by intro w; exact Try.zeroValue40 w) rfl (fun b2 => ?_)
  refine w_op rfl ?_
  refine x_alloc (z := .int .i64 0) (by intro w; exact Try.zeroValue3 w) rfl (fun b3 => ?_)
  refine w_nil ?_
  refine e_seq ?_
  refine e_region ?_
  refine w_val (v_makeFunc rfl) rfl ?_
  refine w_defer rfl ?_
  skip
  skip
  refine w_nil ?_
  refine e_seq ?_
  refine e_region ?_
  refine w_val (v_move rfl) rfl ?_
  refine w_val (v_build _ rfl (by intro _; simp [Instr.build, Instr.fill, Try.zeroValue112, go_sem]; rfl)) rfl ?_
  refine w_op rfl ?_
  refine x_box rfl rfl (fun b9 => ?_)
  refine w_val (v_assign rfl) rfl ?_
  refine w_nil ?_
  refine e_seq ?_
  refine e_region ?_
  refine w_val (v_move rfl) rfl ?_
  refine w_op rfl ?_
  refine x_callP (dst := some 11) (mc := [rdB b9 (.slice A0 bs.length k0)]) (mr := [_, _]) (σ := Value × Value × RoundL × List UInt8 × (Nat → Prop)) (τ := Unit) (fun s => getRound bs = some (s.2.2.1, s.2.2.2.1) ∧ Tail (.slice A0 bs.length k0) bs s.1 s.2.2.2.1) (fun s => s.2.1) (fun s => [rdB b9 s.1, Keep s.2.2.2.2 (fun c => IsRound c s.2.1 s.2.2.1)]) (fun _ => getRound bs = none) (fun _ => gone3) (fun _ => []) rfl rfl rfl Try.call65 (fun w hw => readerRound_spec b9 _ bs w (hw.mem (i := 0) rfl) (h.mono (hw.ofb 0 rfl))) rfl (fun _ hn => g_panic (q_doorP2 Try.call64 (fun w hw => hpan b2 b3 _ _ [] w hw) rfl (ResV.one 1 rfl rfl (by rw [isAggD, Try.underlying40]; rfl) rfl) (ResV.one 0 rfl rfl (by rw [isAggD, Try.underlying3]; rfl) rfl) (fun w' hw' => ⟨(.slice none 0 0, feet []), trivial, by simp only [bodyL, hn], ?_⟩))) ?_
  · simp only [bodyL, hn]
    exact ((hw'.sub (List.nil_sublist _)).keep0 _ (fun c => ⟨[], ⟨none, 0, rfl, Nat.le_refl _, rfl, fun h => absurd h (Nat.lt_irrefl _)⟩, fun i hi => by simp at hi⟩)).res
  rintro ⟨v1, sl, r, rest, G⟩ ⟨hgr, ht⟩
  dsimp only at hgr ht ⊢
  have h1 := ht _ h
  obtain ⟨A1, k1, rfl, hk1, _, _⟩ := h1
  refine g_round 1 rfl fun A2 k2 hsl hk2 => ?_
  subst hsl
  refine w_op rfl ?_
  first | refine x_store1 0 rfl rfl rfl Try.hi40 Try.cz40 rfl (by first | (simp; done) | (simp [intCells_len]; omega) | exact Nat.zero_lt_succ _) rfl ?_ | refine x_store1 1 rfl rfl rfl Try.hi40 Try.cz40 rfl (by first | (simp; done) | (simp [intCells_len]; omega) | exact Nat.zero_lt_succ _) rfl ?_ | refine x_store1 2 rfl rfl rfl Try.hi40 Try.cz40 rfl (by first | (simp; done) | (simp [intCells_len]; omega) | exact Nat.zero_lt_succ _) rfl ?_ | refine x_store1 3 rfl rfl rfl Try.hi40 Try.cz40 rfl (by first | (simp; done) | (simp [intCells_len]; omega) | exact Nat.zero_lt_succ _) rfl ?_ | refine x_store1 4 rfl rfl rfl Try.hi40 Try.cz40 rfl (by first | (simp; done) | (simp [intCells_len]; omega) | exact Nat.zero_lt_succ _) rfl ?_ | refine x_store1 5 rfl rfl rfl Try.hi40 Try.cz40 rfl (by first | (simp; done) | (simp [intCells_len]; omega) | exact Nat.zero_lt_succ _) rfl ?_ | refine x_store1 6 rfl rfl rfl Try.hi40 Try.cz40 rfl (by first | (simp; done) | (simp [intCells_len]; omega) | exact Nat.zero_lt_succ _) rfl ?_ | refine x_store1 7 rfl rfl rfl Try.hi40 Try.cz40 rfl (by first | (simp; done) | (simp [intCells_len]; omega) | exact Nat.zero_lt_succ _) rfl ?_
  refine w_nil ?_
  refine e_seq ?_
  refine e_seq ?_
  refine e_region ?_
  refine w_val (v_move rfl) rfl ?_
  refine w_val (v_nilCheck rfl) rfl ?_
  first | refine w_val (v_fieldAddrB (o := 0) Try.underlying112 rfl rfl Try.nz58 rfl) rfl ?_ | refine w_val (v_fieldAddr (o := 0) Try.underlying112 rfl rfl Try.nz58 rfl) rfl ?_
  first | refine w_val (v_loadB 0 rfl Try.underlying58 rfl rfl rfl) rfl ?_ | refine w_val (v_loadB 1 rfl Try.underlying58 rfl rfl rfl) rfl ?_ | refine w_val (v_loadB 2 rfl Try.underlying58 rfl rfl rfl) rfl ?_ | refine w_val (v_loadB 3 rfl Try.underlying58 rfl rfl rfl) rfl ?_ | refine w_val (v_loadB 4 rfl Try.underlying58 rfl rfl rfl) rfl ?_ | refine w_val (v_loadB 5 rfl Try.underlying58 rfl rfl rfl) rfl ?_ | refine w_val (v_loadB 6 rfl Try.underlying58 rfl rfl rfl) rfl ?_ | refine w_val (v_loadB 7 rfl Try.underlying58 rfl rfl rfl) rfl ?_
  refine w_val (v_lenS Try.underlying58 rfl) rfl ?_
  refine w_val (v_gtr rfl rfl) rfl ?_
  refine w_nil ?_
  refine e_condD rfl (fun hlen => ?_) (fun hlen => ?_)
  · have hne : rest ≠ [] := by intro h; rw [h] at hlen; simp at hlen
    refine e_seq ?_
    refine e_region ?_
    refine w_op rfl ?_
    first | refine x_store1 0 rfl rfl rfl Try.hi40 Try.cz40 rfl (by first | (simp; done) | (simp [intCells_len]; omega) | exact Nat.zero_lt_succ _) rfl ?_ | refine x_store1 1 rfl rfl rfl Try.hi40 Try.cz40 rfl (by first | (simp; done) | (simp [intCells_len]; omega) | exact Nat.zero_lt_succ _) rfl ?_ | refine x_store1 2 rfl rfl rfl Try.hi40 Try.cz40 rfl (by first | (simp; done) | (simp [intCells_len]; omega) | exact Nat.zero_lt_succ _) rfl ?_ | refine x_store1 3 rfl rfl rfl Try.hi40 Try.cz40 rfl (by first | (simp; done) | (simp [intCells_len]; omega) | exact Nat.zero_lt_succ _) rfl ?_ | refine x_store1 4 rfl rfl rfl Try.hi40 Try.cz40 rfl (by first | (simp; done) | (simp [intCells_len]; omega) | exact Nat.zero_lt_succ _) rfl ?_ | refine x_store1 5 rfl rfl rfl Try.hi40 Try.cz40 rfl (by first | (simp; done) | (simp [intCells_len]; omega) | exact Nat.zero_lt_succ _) rfl ?_ | refine x_store1 6 rfl rfl rfl Try.hi40 Try.cz40 rfl (by first | (simp; done) | (simp [intCells_len]; omega) | exact Nat.zero_lt_succ _) rfl ?_ | refine x_store1 7 rfl rfl rfl Try.hi40 Try.cz40 rfl (by first | (simp; done) | (simp [intCells_len]; omega) | exact Nat.zero_lt_succ _) rfl ?_
    refine w_op rfl ?_
    first | refine x_store1 0 rfl rfl rfl Try.hi3 Try.cz3 rfl (by first | (simp; done) | (simp [intCells_len]; omega) | exact Nat.zero_lt_succ _) rfl ?_ | refine x_store1 1 rfl rfl rfl Try.hi3 Try.cz3 rfl (by first | (simp; done) | (simp [intCells_len]; omega) | exact Nat.zero_lt_succ _) rfl ?_ | refine x_store1 2 rfl rfl rfl Try.hi3 Try.cz3 rfl (by first | (simp; done) | (simp [intCells_len]; omega) | exact Nat.zero_lt_succ _) rfl ?_ | refine x_store1 3 rfl rfl rfl Try.hi3 Try.cz3 rfl (by first | (simp; done) | (simp [intCells_len]; omega) | exact Nat.zero_lt_succ _) rfl ?_ | refine x_store1 4 rfl rfl rfl Try.hi3 Try.cz3 rfl (by first | (simp; done) | (simp [intCells_len]; omega) | exact Nat.zero_lt_succ _) rfl ?_ | refine x_store1 5 rfl rfl rfl Try.hi3 Try.cz3 rfl (by first | (simp; done) | (simp [intCells_len]; omega) | exact Nat.zero_lt_succ _) rfl ?_ | refine x_store1 6 rfl rfl rfl Try.hi3 Try.cz3 rfl (by first | (simp; done) | (simp [intCells_len]; omega) | exact Nat.zero_lt_succ _) rfl ?_ | refine x_store1 7 rfl rfl rfl Try.hi3 Try.cz3 rfl (by first | (simp; done) | (simp [intCells_len]; omega) | exact Nat.zero_lt_succ _) rfl ?_
    refine w_nil ?_
    refine e_ret (q_door2 Try.call64 (fun w => bodyClosure_idle b2 b3 w) rfl (ResV.one 3 rfl rfl (by rw [isAggD, Try.underlying40]; rfl) rfl) (ResV.one 2 rfl rfl (by rw [isAggD, Try.underlying3]; rfl) rfl) (fun w' hw' => ⟨(.slice none 0 0, feet []), trivial, by simp only [bodyL, hgr, if_pos hne], ?_⟩))
    simp only [bodyL, hgr, if_pos hne]
    exact ((hw'.sub (List.nil_sublist _)).keep0 _ (fun c => ⟨[], ⟨none, 0, rfl, Nat.le_refl _, rfl, fun h => absurd h (Nat.lt_irrefl _)⟩, fun i hi => by simp at hi⟩)).res
  · have hnil : rest = [] := by
      cases rest with
      | nil => rfl
      | cons x xs => simp at hlen
    have hne : ¬ rest ≠ [] := by simp [hnil]
    refine e_skip ?_
    refine e_seq ?_
    refine e_seq ?_
    refine e_region ?_
    first | refine w_val (v_loadB 0 rfl Try.underlying40 rfl rfl rfl) rfl ?_ | refine w_val (v_loadB 1 rfl Try.underlying40 rfl rfl rfl) rfl ?_ | refine w_val (v_loadB 2 rfl Try.underlying40 rfl rfl rfl) rfl ?_ | refine w_val (v_loadB 3 rfl Try.underlying40 rfl rfl rfl) rfl ?_ | refine w_val (v_loadB 4 rfl Try.underlying40 rfl rfl rfl) rfl ?_ | refine w_val (v_loadB 5 rfl Try.underlying40 rfl rfl rfl) rfl ?_ | refine w_val (v_loadB 6 rfl Try.underlying40 rfl rfl rfl) rfl ?_ | refine w_val (v_loadB 7 rfl Try.underlying40 rfl rfl rfl) rfl ?_
    refine w_op rfl ?_
    refine x_call0 (v := .int .i64 (roundFaultL r)) rfl rfl rfl Try.call49 rfl (fun w hw => codeRound_spec _ r w (keep_all (IsRound.up _ _) (hw.mem (i := 1) rfl))) ?_
    refine w_val (v_assign rfl) rfl ?_
    refine w_nil ?_
    refine e_seq ?_
    refine e_region ?_
    refine w_val (v_move rfl) rfl ?_
    refine w_val (v_neq rfl rfl) rfl ?_
    refine w_nil ?_
    refine e_condD rfl (fun hf => ?_) (fun hf => ?_)
    · refine e_seq ?_
      refine e_region ?_
      refine w_val (v_move rfl) rfl ?_
      refine w_op rfl ?_
      first | refine x_store1 0 rfl rfl rfl Try.hi40 Try.cz40 rfl (by first | (simp; done) | (simp [intCells_len]; omega) | exact Nat.zero_lt_succ _) rfl ?_ | refine x_store1 1 rfl rfl rfl Try.hi40 Try.cz40 rfl (by first | (simp; done) | (simp [intCells_len]; omega) | exact Nat.zero_lt_succ _) rfl ?_ | refine x_store1 2 rfl rfl rfl Try.hi40 Try.cz40 rfl (by first | (simp; done) | (simp [intCells_len]; omega) | exact Nat.zero_lt_succ _) rfl ?_ | refine x_store1 3 rfl rfl rfl Try.hi40 Try.cz40 rfl (by first | (simp; done) | (simp [intCells_len]; omega) | exact Nat.zero_lt_succ _) rfl ?_ | refine x_store1 4 rfl rfl rfl Try.hi40 Try.cz40 rfl (by first | (simp; done) | (simp [intCells_len]; omega) | exact Nat.zero_lt_succ _) rfl ?_ | refine x_store1 5 rfl rfl rfl Try.hi40 Try.cz40 rfl (by first | (simp; done) | (simp [intCells_len]; omega) | exact Nat.zero_lt_succ _) rfl ?_ | refine x_store1 6 rfl rfl rfl Try.hi40 Try.cz40 rfl (by first | (simp; done) | (simp [intCells_len]; omega) | exact Nat.zero_lt_succ _) rfl ?_ | refine x_store1 7 rfl rfl rfl Try.hi40 Try.cz40 rfl (by first | (simp; done) | (simp [intCells_len]; omega) | exact Nat.zero_lt_succ _) rfl ?_
      refine w_op rfl ?_
      first | refine x_store1 0 rfl rfl rfl Try.hi3 Try.cz3 rfl (by first | (simp; done) | (simp [intCells_len]; omega) | exact Nat.zero_lt_succ _) rfl ?_ | refine x_store1 1 rfl rfl rfl Try.hi3 Try.cz3 rfl (by first | (simp; done) | (simp [intCells_len]; omega) | exact Nat.zero_lt_succ _) rfl ?_ | refine x_store1 2 rfl rfl rfl Try.hi3 Try.cz3 rfl (by first | (simp; done) | (simp [intCells_len]; omega) | exact Nat.zero_lt_succ _) rfl ?_ | refine x_store1 3 rfl rfl rfl Try.hi3 Try.cz3 rfl (by first | (simp; done) | (simp [intCells_len]; omega) | exact Nat.zero_lt_succ _) rfl ?_ | refine x_store1 4 rfl rfl rfl Try.hi3 Try.cz3 rfl (by first | (simp; done) | (simp [intCells_len]; omega) | exact Nat.zero_lt_succ _) rfl ?_ | refine x_store1 5 rfl rfl rfl Try.hi3 Try.cz3 rfl (by first | (simp; done) | (simp [intCells_len]; omega) | exact Nat.zero_lt_succ _) rfl ?_ | refine x_store1 6 rfl rfl rfl Try.hi3 Try.cz3 rfl (by first | (simp; done) | (simp [intCells_len]; omega) | exact Nat.zero_lt_succ _) rfl ?_ | refine x_store1 7 rfl rfl rfl Try.hi3 Try.cz3 rfl (by first | (simp; done) | (simp [intCells_len]; omega) | exact Nat.zero_lt_succ _) rfl ?_
      refine w_nil ?_
      refine e_ret (q_door2 Try.call64 (fun w => bodyClosure_idle b2 b3 w) rfl (ResV.one 3 rfl rfl (by rw [isAggD, Try.underlying40]; rfl) rfl) (ResV.one 2 rfl rfl (by rw [isAggD, Try.underlying3]; rfl) rfl) (fun w' hw' => ⟨(.slice none 0 0, feet []), trivial, by simp only [bodyL, hgr, if_neg hne, if_pos hf], ?_⟩))
      simp only [bodyL, hgr, if_neg hne, if_pos hf]
      exact ((hw'.sub (List.nil_sublist _)).keep0 _ (fun c => ⟨[], ⟨none, 0, rfl, Nat.le_refl _, rfl, fun h => absurd h (Nat.lt_irrefl _)⟩, fun i hi => by simp at hi⟩)).res
    · refine e_skip ?_
      refine e_seq ?_
      refine e_region ?_
      first | refine w_val (v_loadB 0 rfl Try.underlying40 rfl rfl rfl) rfl ?_ | refine w_val (v_loadB 1 rfl Try.underlying40 rfl rfl rfl) rfl ?_ | refine w_val (v_loadB 2 rfl Try.underlying40 rfl rfl rfl) rfl ?_ | refine w_val (v_loadB 3 rfl Try.underlying40 rfl rfl rfl) rfl ?_ | refine w_val (v_loadB 4 rfl Try.underlying40 rfl rfl rfl) rfl ?_ | refine w_val (v_loadB 5 rfl Try.underlying40 rfl rfl rfl) rfl ?_ | refine w_val (v_loadB 6 rfl Try.underlying40 rfl rfl rfl) rfl ?_ | refine w_val (v_loadB 7 rfl Try.underlying40 rfl rfl rfl) rfl ?_
      refine w_op rfl ?_
      first | refine x_store1 0 rfl rfl rfl Try.hi40 Try.cz40 rfl (by first | (simp; done) | (simp [intCells_len]; omega) | exact Nat.zero_lt_succ _) rfl ?_ | refine x_store1 1 rfl rfl rfl Try.hi40 Try.cz40 rfl (by first | (simp; done) | (simp [intCells_len]; omega) | exact Nat.zero_lt_succ _) rfl ?_ | refine x_store1 2 rfl rfl rfl Try.hi40 Try.cz40 rfl (by first | (simp; done) | (simp [intCells_len]; omega) | exact Nat.zero_lt_succ _) rfl ?_ | refine x_store1 3 rfl rfl rfl Try.hi40 Try.cz40 rfl (by first | (simp; done) | (simp [intCells_len]; omega) | exact Nat.zero_lt_succ _) rfl ?_ | refine x_store1 4 rfl rfl rfl Try.hi40 Try.cz40 rfl (by first | (simp; done) | (simp [intCells_len]; omega) | exact Nat.zero_lt_succ _) rfl ?_ | refine x_store1 5 rfl rfl rfl Try.hi40 Try.cz40 rfl (by first | (simp; done) | (simp [intCells_len]; omega) | exact Nat.zero_lt_succ _) rfl ?_ | refine x_store1 6 rfl rfl rfl Try.hi40 Try.cz40 rfl (by first | (simp; done) | (simp [intCells_len]; omega) | exact Nat.zero_lt_succ _) rfl ?_ | refine x_store1 7 rfl rfl rfl Try.hi40 Try.cz40 rfl (by first | (simp; done) | (simp [intCells_len]; omega) | exact Nat.zero_lt_succ _) rfl ?_
      refine w_op rfl ?_
      first | refine x_store1 0 rfl rfl rfl Try.hi3 Try.cz3 rfl (by first | (simp; done) | (simp [intCells_len]; omega) | exact Nat.zero_lt_succ _) rfl ?_ | refine x_store1 1 rfl rfl rfl Try.hi3 Try.cz3 rfl (by first | (simp; done) | (simp [intCells_len]; omega) | exact Nat.zero_lt_succ _) rfl ?_ | refine x_store1 2 rfl rfl rfl Try.hi3 Try.cz3 rfl (by first | (simp; done) | (simp [intCells_len]; omega) | exact Nat.zero_lt_succ _) rfl ?_ | refine x_store1 3 rfl rfl rfl Try.hi3 Try.cz3 rfl (by first | (simp; done) | (simp [intCells_len]; omega) | exact Nat.zero_lt_succ _) rfl ?_ | refine x_store1 4 rfl rfl rfl Try.hi3 Try.cz3 rfl (by first | (simp; done) | (simp [intCells_len]; omega) | exact Nat.zero_lt_succ _) rfl ?_ | refine x_store1 5 rfl rfl rfl Try.hi3 Try.cz3 rfl (by first | (simp; done) | (simp [intCells_len]; omega) | exact Nat.zero_lt_succ _) rfl ?_ | refine x_store1 6 rfl rfl rfl Try.hi3 Try.cz3 rfl (by first | (simp; done) | (simp [intCells_len]; omega) | exact Nat.zero_lt_succ _) rfl ?_ | refine x_store1 7 rfl rfl rfl Try.hi3 Try.cz3 rfl (by first | (simp; done) | (simp [intCells_len]; omega) | exact Nat.zero_lt_succ _) rfl ?_
      refine w_nil ?_
      refine e_ret (q_door2 Try.call64 (fun w => bodyClosure_idle b2 b3 w) rfl (ResV.one 3 rfl rfl (by rw [isAggD, Try.underlying40]; rfl) rfl) (ResV.one 2 rfl rfl (by rw [isAggD, Try.underlying3]; rfl) rfl) (fun w' hw' => ⟨(.slice A2 r.length k2, G), trivial, by simp only [bodyL, hgr, if_neg hne, if_neg hf], ?_⟩))
      simp only [bodyL, hgr, if_neg hne, if_neg hf]
      exact (hw'.sub (.cons _ (.cons_cons _ (List.nil_sublist _)))).res
end Go.SL
