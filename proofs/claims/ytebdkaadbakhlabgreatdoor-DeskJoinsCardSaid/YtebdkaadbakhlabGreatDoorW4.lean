/- YtebdkaadbakhlabGreatDoor: part W4 of this seat's own texts. -/
import Derived.Tactics
import Derived.Tactics2
import Derived.Laws.Pointers
import Derived.Test.YtebdkaadbakhlabGreatDoorW3
import Derived.Test.YtebdkaadbakhlabGreatDoorP2
set_option linter.unusedVariables false
set_option linter.unusedSimpArgs false
section

open Go Go.Proofs Go.SL
set_option maxRecDepth 100000
namespace Go.SL
theorem bodyClosure_idle (b2 b3 : Nat) (w : World) : CallsD Tryz.prog 141 #[.pointer (some ⟨b2, 0, none⟩), .pointer (some ⟨b3, 0, none⟩)] .returning w fun e u' w' => e = .returned (.tuple #[]) ∧ u' = .returning ∧ w' = w := by
  refine callsD_of_wpS Tryz.func141 rfl fun c₀ cs hu => ?_
  apply wpS_seq
  apply wpS_region
  simp [wpOpsS, go_sem, recoverD, hu, Tryz.ntmps141, Exit.thenS]
  apply wpS_seq
  apply wpS_region
  simp [wpOpsS, go_sem, Exit.thenS]
  refine wpS_cond (t := false) (by simp [Act.eval, Array.replicate]) ?_
  simp only [Bool.false_eq_true, if_false]
  refine wpS_of_wp (wp_skip ?_)
  cases c₀
  simp_all [bodyPostS, results, Tryz.results141]
theorem bodyClosure_panics (b2 b3 : Nat) (x2 x3 : Value) (w : World) (h2 : (Chunk.blk b2 40 [x2]).holds w) (h3 : (Chunk.blk b3 3 [x3]).holds w) (hne : b2 ≠ b3) :
    CallsD Tryz.prog 141 #[.pointer (some ⟨b2, 0, none⟩), .pointer (some ⟨b3, 0, none⟩)] (.panicking [{ v := gone3, recovered := false }]) w
      fun e u' w' => e = .returned (.tuple #[]) ∧ u' = .panicking [{ v := gone3, recovered := true }] ∧ w' = (w.setCell ⟨b2, 0, none⟩ (.slice none 0 0)).setCell ⟨b3, 0, none⟩ (.int .i64 3) := by
  have c2 : w.cell? ⟨b2, 0, none⟩ = some x2 := by rw [blk_cell h2]; rfl
  have c3 : w.cell? ⟨b3, 0, none⟩ = some x3 := by rw [blk_cell h3]; rfl
  have z2 := blk_thawed (i := 0) h2
  have z3 := blk_thawed (i := 0) h3
  refine callsD_of_wpS Tryz.func141 rfl fun c₀ cs hu => ?_
  apply wpS_seq
  apply wpS_region
  simp [wpOpsS, go_sem, recoverD, hu, Tryz.ntmps141, Exit.thenS]
  apply wpS_seq
  apply wpS_region
  simp [wpOpsS, go_sem, Exit.thenS]
  refine wpS_cond (t := true) (by simp [Act.eval, Array.replicate]) ?_
  simp only [if_true]
  have hta : ∀ w, (Instr.typeAssert gone3 20 209 true).run Tryz.prog w = .ok (.tuple #[.int .i64 3, .bool true]) w := fun w => by
    simp only [Instr.typeAssert, Sem.run_bind, run_underlying Tryz.underlying209, Result.andThen_ok, if_true]
    rfl
  apply wpS_seq
  apply wpS_region
  simp [wpOpsS, go_sem, Exit.thenS, hta]
  apply wpS_seq
  apply wpS_seq
  apply wpS_region
  simp [wpOpsS, go_sem, Exit.thenS]
  refine wpS_cond (t := false) (by simp [Act.eval, Array.replicate]) ?_
  simp only [Bool.false_eq_true, if_false]
  refine wpS_of_wp (wp_skip ?_)
  simp only [Exit.thenS]
  apply wpS_region
  have h3' : (Chunk.blk b3 3 [x3]).holds (w.setCell ⟨b2, 0, none⟩ (.slice none 0 0)) := (Go.RowKit.Below.heap_setCell w _ _ b3 (fun e => hne e.symm)).trans h3
  have c3' : (w.setCell ⟨b2, 0, none⟩ (.slice none 0 0)).cell? ⟨b3, 0, none⟩ = some x3 := by rw [blk_cell h3']; rfl
  have z3' := blk_thawed (i := 0) h3'
  simp [wpOpsS, go_sem, c2, c3, z2, z3, c3', z3', bodyPostS, results, Tryz.results141]
theorem codecBody_spec (v : Value) (bs : List UInt8) (w : World) (h : IsBytes w.cell? v bs) :
    Calls Tryz.prog 126 #[v] w fun e w' =>
      ∃ s : Value × (Nat → Prop), True ∧ e = .returned (.tuple #[s.1, .int .i64 (bodyL roundFaultL bs).2]) ∧ Res w [] [Keep s.2 (fun c => IsRound c s.1 (bodyL roundFaultL bs).1)] w' := by
  rw [← off_none w] at h
  have hpan : ∀ (b2 b3 : Nat) (F : Nat → Prop) (w0 : World) (m : Hp) (w : World), St w0 F (.blk b3 3 [.int .i64 0] :: .blk b2 40 [.slice none 0 0] :: m) w →
      CallsD Tryz.prog 141 #[.pointer (some ⟨b2, 0, none⟩), .pointer (some ⟨b3, 0, none⟩)] (.panicking [{ v := gone3, recovered := false }]) w fun e u' w' => e = .returned (.tuple #[]) ∧ settle u' = .returning ∧ St w0 F (.blk b3 3 [.int .i64 3] :: .blk b2 40 [.slice none 0 0] :: m) w' := by
    intro b2 b3 F w0 m w hw
    have hne : b2 ≠ b3 := fun e => (List.pairwise_cons.1 hw.sep).1 _ (List.mem_cons_self ..) b2 e rfl
    refine (bodyClosure_panics b2 b3 _ _ w (hw.mem (i := 1) rfl) (hw.mem (i := 0) rfl) hne).mono ?_
    rintro e u' w' ⟨rfl, rfl, rfl⟩
    exact ⟨rfl, rfl, blk_set (b := b3) (e := 3) (cs := [.int .i64 0]) (v := .int .i64 3) (i := 0) 0 rfl (blk_set (b := b2) (e := 40) (cs := [.slice none 0 0]) (v := .slice none 0 0) (i := 0) 1 rfl hw)⟩
  have h0 := h
  obtain ⟨A0, k0, rfl, hk0, _, _⟩ := h0
  refine enterD0 (N := 24) Tryz.func126 rfl rfl rfl ?_
  refine esr ?_
  refine w_op rfl ?_
  refine x_alloc (z := .slice none 0 0) (by intro w; exact Tryz.zeroValue40 w) rfl (fun b2 => ?_)
  refine w_op rfl ?_
  refine x_alloc (z := .int .i64 0) (by intro w; exact Tryz.zeroValue3 w) rfl (fun b3 => ?_)
  refine wsr ?_
  refine w_val (v_makeFunc rfl) rfl ?_
  refine w_defer rfl ?_
  skip
  skip
  refine wsr ?_
  refine wm rfl rfl ?_
  refine w_val (v_build _ rfl (by intro _; simp [Instr.build, Instr.fill, Tryz.zeroValue213, go_sem]; rfl)) rfl ?_
  refine w_op rfl ?_
  refine x_box rfl rfl (fun b9 => ?_)
  refine wa rfl rfl ?_
  refine wsr ?_
  refine wm rfl rfl ?_
  refine w_op rfl ?_
  refine x_callP (dst := some 11) (mc := [rdB b9 (.slice A0 bs.length k0)]) (mr := [_, _]) (σ := Value × Value × RoundL × List UInt8 × (Nat → Prop)) (τ := Unit) (fun s => getRound bs = some (s.2.2.1, s.2.2.2.1) ∧ Tail (.slice A0 bs.length k0) bs s.1 s.2.2.2.1) (fun s => s.2.1) (fun s => [rdB b9 s.1, Keep s.2.2.2.2 (fun c => IsRound c s.2.1 s.2.2.1)]) (fun _ => getRound bs = none) (fun _ => gone3) (fun _ => []) rfl rfl rfl Tryz.call142 (fun w hw => readerRound_spec b9 _ bs w (hw.mem (i := 0) rfl) (h.mono (hw.ofb 0 rfl))) rfl (fun _ hn => g_panic (q_doorP2 Tryz.call141 (fun w hw => hpan b2 b3 _ _ [] w hw) rfl (ResV.one 1 rfl rfl (by rw [isAggD, Tryz.underlying40]; rfl) rfl) (ResV.one 0 rfl rfl (by rw [isAggD, Tryz.underlying3]; rfl) rfl) (fun w' hw' => ⟨(.slice none 0 0, feet []), trivial, by simp only [bodyL, hn], ?_⟩))) ?_
  · simp only [bodyL, hn]
    exact ((hw'.sub (List.nil_sublist _)).keep0 _ (fun c => ⟨[], ⟨none, 0, rfl, Nat.le_refl _, rfl, fun h => absurd h (Nat.lt_irrefl _)⟩, fun i hi => by simp at hi⟩)).res
  rintro ⟨v1, sl, r, rest, G⟩ ⟨hgr, ht⟩
  dsimp only at hgr ht ⊢
  have h1 := ht _ h
  obtain ⟨A1, k1, rfl, hk1, _, _⟩ := h1
  refine g_round 1 rfl fun A2 k2 hsl hk2 => ?_
  subst hsl
  refine w_op rfl ?_
  refine x_store1 3 rfl rfl rfl Tryz.hi40 Tryz.cz40 rfl (by first | (simp; done) | (simp [intCells_len]; omega) | exact Nat.zero_lt_succ _) rfl ?_
  refine w_nil ?_
  refine e_seq ?_
  refine esr ?_
  refine wm rfl rfl ?_
  refine wn rfl rfl ?_
  refine w_val (v_fieldAddrB (o := 0) Tryz.underlying213 rfl rfl Tryz.nz36 rfl) rfl ?_
  refine w_val (v_loadB 0 rfl Tryz.underlying36 rfl rfl rfl) rfl ?_
  refine w_val (v_lenS Tryz.underlying36 rfl) rfl ?_
  refine w_val (v_gtr rfl rfl) rfl ?_
  refine w_nil ?_
  refine e_condD rfl (fun hlen => ?_) (fun hlen => ?_)
  · have hne : rest ≠ [] := by intro h; rw [h] at hlen; simp at hlen
    refine esr ?_
    refine w_op rfl ?_
    refine x_store1 3 rfl rfl rfl Tryz.hi40 Tryz.cz40 rfl (by first | (simp; done) | (simp [intCells_len]; omega) | exact Nat.zero_lt_succ _) rfl ?_
    refine w_op rfl ?_
    refine x_store1 2 rfl rfl rfl Tryz.hi3 Tryz.cz3 rfl (by first | (simp; done) | (simp [intCells_len]; omega) | exact Nat.zero_lt_succ _) rfl ?_
    refine w_nil ?_
    refine e_ret (q_door2 Tryz.call141 (fun w => bodyClosure_idle b2 b3 w) rfl (ResV.one 3 rfl rfl (by rw [isAggD, Tryz.underlying40]; rfl) rfl) (ResV.one 2 rfl rfl (by rw [isAggD, Tryz.underlying3]; rfl) rfl) (fun w' hw' => ⟨(.slice none 0 0, feet []), trivial, by simp only [bodyL, hgr, if_pos hne], ?_⟩))
    simp only [bodyL, hgr, if_pos hne]
    exact ((hw'.sub (List.nil_sublist _)).keep0 _ (fun c => ⟨[], ⟨none, 0, rfl, Nat.le_refl _, rfl, fun h => absurd h (Nat.lt_irrefl _)⟩, fun i hi => by simp at hi⟩)).res
  · have hnil : rest = [] := by
      cases rest with
      | nil => rfl
      | cons x xs => simp at hlen
    have hne : ¬ rest ≠ [] := by simp [hnil]
    refine e_skip ?_
    refine e_seq ?_
    refine esr ?_
    refine w_val (v_loadB 3 rfl Tryz.underlying40 rfl rfl rfl) rfl ?_
    refine w_op rfl ?_
    refine x_call0 (v := .int .i64 (roundFaultL r)) rfl rfl rfl Tryz.call116 rfl (fun w hw => codeRound_spec _ r w (keep_all (IsRound.up _ _) (hw.mem (i := 1) rfl))) ?_
    refine wa rfl rfl ?_
    refine wsr ?_
    refine wm rfl rfl ?_
    refine w_val (v_neq rfl rfl) rfl ?_
    refine w_nil ?_
    refine e_condD rfl (fun hf => ?_) (fun hf => ?_)
    · refine esr ?_
      refine wm rfl rfl ?_
      refine w_op rfl ?_
      refine x_store1 3 rfl rfl rfl Tryz.hi40 Tryz.cz40 rfl (by first | (simp; done) | (simp [intCells_len]; omega) | exact Nat.zero_lt_succ _) rfl ?_
      refine w_op rfl ?_
      refine x_store1 2 rfl rfl rfl Tryz.hi3 Tryz.cz3 rfl (by first | (simp; done) | (simp [intCells_len]; omega) | exact Nat.zero_lt_succ _) rfl ?_
      refine w_nil ?_
      refine e_ret (q_door2 Tryz.call141 (fun w => bodyClosure_idle b2 b3 w) rfl (ResV.one 3 rfl rfl (by rw [isAggD, Tryz.underlying40]; rfl) rfl) (ResV.one 2 rfl rfl (by rw [isAggD, Tryz.underlying3]; rfl) rfl) (fun w' hw' => ⟨(.slice none 0 0, feet []), trivial, by simp only [bodyL, hgr, if_neg hne, if_pos hf], ?_⟩))
      simp only [bodyL, hgr, if_neg hne, if_pos hf]
      exact ((hw'.sub (List.nil_sublist _)).keep0 _ (fun c => ⟨[], ⟨none, 0, rfl, Nat.le_refl _, rfl, fun h => absurd h (Nat.lt_irrefl _)⟩, fun i hi => by simp at hi⟩)).res
    · refine e_skip ?_
      refine esr ?_
      refine w_val (v_loadB 3 rfl Tryz.underlying40 rfl rfl rfl) rfl ?_
      refine w_op rfl ?_
      refine x_store1 3 rfl rfl rfl Tryz.hi40 Tryz.cz40 rfl (by first | (simp; done) | (simp [intCells_len]; omega) | exact Nat.zero_lt_succ _) rfl ?_
      refine w_op rfl ?_
      refine x_store1 2 rfl rfl rfl Tryz.hi3 Tryz.cz3 rfl (by first | (simp; done) | (simp [intCells_len]; omega) | exact Nat.zero_lt_succ _) rfl ?_
      refine w_nil ?_
      refine e_ret (q_door2 Tryz.call141 (fun w => bodyClosure_idle b2 b3 w) rfl (ResV.one 3 rfl rfl (by rw [isAggD, Tryz.underlying40]; rfl) rfl) (ResV.one 2 rfl rfl (by rw [isAggD, Tryz.underlying3]; rfl) rfl) (fun w' hw' => ⟨(.slice A2 r.length k2, G), trivial, by simp only [bodyL, hgr, if_neg hne, if_neg hf], ?_⟩))
      simp only [bodyL, hgr, if_neg hne, if_neg hf]
      exact (hw'.sub (.cons _ (.cons_cons _ (List.nil_sublist _)))).res
end Go.SL
end
section

open Go Go.Proofs Go.SL
set_option maxRecDepth 100000
namespace Go.SL
theorem Decode_spec (v : Value) (bs : List UInt8) (w : World) (h : IsBytes w.cell? v bs) :
    Calls Tryz.prog 101 #[v] w fun e w' =>
      ∃ s : Value × (Nat → Prop), True ∧ e = .returned (.tuple #[s.1, .int .i64 (decL roundFaultL bs).2.1, .int .i64 (decL roundFaultL bs).2.2]) ∧ Res w [] [Keep s.2 (fun c => IsRound c s.1 (decL roundFaultL bs).1)] w' := by
  have hnil : ∀ {w w' : World} {m : Hp}, St w (feet []) m w' → Res w [] [Keep (feet []) (fun c => IsRound c (.slice none 0 0) [])] w' := fun hw' =>
    ((hw'.sub (List.nil_sublist _)).keep0 _ (fun c => ⟨[], ⟨none, 0, rfl, Nat.le_refl _, rfl, fun h => absurd h (Nat.lt_irrefl _)⟩, fun i hi => by simp at hi⟩)).res
  have h0 := h
  rw [← off_none w] at h h0
  obtain ⟨A0, k0, rfl, hk0, hl0, hc0⟩ := h
  refine enter0 (N := 38) Tryz.func101 rfl rfl rfl ?_
  refine esr ?_
  refine wa rfl rfl ?_
  refine wa rfl rfl ?_
  refine wa rfl rfl ?_
  refine w_nil ?_
  refine e_seq ?_
  refine esr ?_
  refine wm rfl rfl ?_
  refine w_val (v_lenS Tryz.underlying36 rfl) rfl ?_
  refine w_val (v_lss rfl rfl) rfl ?_
  refine w_nil ?_
  refine e_condD rfl (fun h2 => ?_) (fun h2 => ?_)
  · refine esr ?_
    refine wa rfl rfl ?_
    refine wa rfl rfl ?_
    refine wa rfl rfl ?_
    refine w_nil ?_
    refine e_retQ (q_ret3 rfl (.tmp rfl) (.tmp rfl) (.tmp rfl) ?_)
    exact fun w' hw' => ⟨(.slice none 0 0, feet []), trivial, by rw [decL, if_pos (by omega)], by rw [decL, if_pos (by omega)]; exact hnil hw'⟩
  · have h2' : ¬ bs.length < 2 := by omega
    obtain ⟨x, y, rest, rfl⟩ : ∃ x y rest, bs = x :: y :: rest := by
      match bs, h2' with
      | x :: y :: rest, _ => exact ⟨x, y, rest, rfl⟩
      | [], h => simp at h
      | [x], h => simp at h
    obtain ⟨ad, rfl, hcl⟩ := hc0 (by omega)
    have hx := x.toNat_lt
    have hy := y.toNat_lt
    have hc1 : off w (feet []) (ad.add (((0 : Int)).toNat * 1)) = some (.int .u8 (x.toNat : Int)) := hcl 0 _ (by simp [byteCells])
    have hc2 : off w (feet []) (ad.add (((1 : Int)).toNat * 1)) = some (.int .u8 (y.toNat : Int)) := hcl 1 _ (by simp [byteCells])
    have hlen : 1 < (x :: y :: rest).length := by simp
    have hH : headN (x :: y :: rest) = 2 + x.toNat + 256 * y.toNat := rfl
    generalize hbs : x :: y :: rest = bs at *
    refine e_skip ?_
    refine e_seq ?_
    refine e_draw ([]) Tryz.mixed ?_
    refine tk 0 rfl (v_move rfl) rfl ?_
    refine tk 1 rfl (v_indexS Tryz.underlying36 Tryz.hi5 Tryz.cz5 rfl rfl (by first | omega | decide)) rfl ?_
    refine tk 2 rfl (v_loadO Tryz.underlying5 rfl rfl (hc1)) rfl ?_
    refine tk 3 rfl (v_is (v' := .int .i64 (x.toNat : Int)) (v_conv Tryz.underlying3 (by rw [Tryz.underlying5]; rfl) rfl) (by rw [wrap_i64 (by omega) (by omega)])) rfl ?_
    refine tk 4 rfl (v_add rfl rfl (by omega)) rfl ?_
    refine tk 5 rfl (v_move rfl) rfl ?_
    refine tk 6 rfl (v_indexS Tryz.underlying36 Tryz.hi5 Tryz.cz5 rfl rfl (by first | omega | decide)) rfl ?_
    refine tk 7 rfl (v_loadO Tryz.underlying5 rfl rfl (hc2)) rfl ?_
    refine tk 8 rfl (v_is (v' := .int .i64 (y.toNat : Int)) (v_conv Tryz.underlying3 (by rw [Tryz.underlying5]; rfl) rfl) (by rw [wrap_i64 (by omega) (by omega)])) rfl ?_
    refine tk 9 rfl (v_is (v' := .int .i64 (256 * (y.toNat : Int))) (v_shl rfl rfl (by omega)) (by rw [show IntKind.i64.wrap ((y.toNat : Int) * 2 ^ min ((8 : Int)).toNat IntKind.i64.bits) = 256 * (y.toNat : Int) from by rw [show min ((8 : Int)).toNat IntKind.i64.bits = 8 from rfl, wrap_i64 (by omega) (by omega)]; omega])) rfl ?_
    refine tk 10 rfl (v_is (v' := .int .i64 (headN bs : Int)) (v_add rfl rfl (by omega)) (by rw [hH]; congr 1)) rfl ?_
    refine tk 11 rfl (v_assign rfl) rfl ?_
    refine td ?_
    refine e_seq ?_
    refine esr ?_
    refine wm rfl rfl ?_
    refine w_val (v_lenS Tryz.underlying36 rfl) rfl ?_
    refine wm rfl rfl ?_
    refine w_val (v_lss rfl rfl) rfl ?_
    refine w_nil ?_
    refine e_condD rfl (fun h3 => ?_) (fun h3 => ?_)
    · refine esr ?_
      refine wa rfl rfl ?_
      refine wa rfl rfl ?_
      refine wa rfl rfl ?_
      refine w_nil ?_
      refine e_retQ (q_ret3 rfl (.tmp rfl) (.tmp rfl) (.tmp rfl) ?_)
      exact fun w' hw' => ⟨(.slice none 0 0, feet []), trivial, by rw [decL, if_neg h2', if_pos (by omega)], by rw [decL, if_neg h2', if_pos (by omega)]; exact hnil hw'⟩
    · have hle : headN bs ≤ bs.length := by omega
      have hsl := IsBytes.slice (lo := 2) (hi := headN bs) h0 (by omega) hle
      have hbody : (bs.drop 2).take (headN bs - 2) = (bs.take (headN bs)).drop 2 := by rw [List.drop_take]
      rw [hbody] at hsl
      have hD : decL roundFaultL bs = if (bodyL roundFaultL ((bs.take (headN bs)).drop 2)).2 ≠ 0 then ([], 0, (bodyL roundFaultL ((bs.take (headN bs)).drop 2)).2) else ((bodyL roundFaultL ((bs.take (headN bs)).drop 2)).1, (headN bs : Int), 0) := by
        rw [decL, if_neg h2', if_neg (by omega)]
      rw [hD]
      have hcall := fun (w1 : World) (hl : Le (off w (feet [])) w1.cell?) => codecBody_spec _ ((bs.take (headN bs)).drop 2) w1 (hsl.mono hl)
      generalize bodyL roundFaultL ((bs.take (headN bs)).drop 2) = B at *
      obtain ⟨r, c⟩ := B
      dsimp only at hcall ⊢
      refine e_skip ?_
      refine esr ?_
      refine wm rfl rfl ?_
      refine wm rfl rfl ?_
      refine w_val (v_sliceLH Tryz.underlying36 Tryz.hi5 Tryz.cz5 rfl rfl rfl (by omega)) rfl ?_
      refine w_op rfl ?_
      refine x_call (dst := some 30) (mc := []) (σ := Value × (Nat → Prop)) (fun _ => True) (fun s => .tuple #[s.1, .int .i64 c]) (fun s => [Keep s.2 (fun c => IsRound c s.1 r)]) rfl rfl rfl Tryz.call126 (fun w hw => hcall w hw.off) rfl (fun s _ => ?_)
      obtain ⟨sl, G⟩ := s
      dsimp only
      refine wm rfl rfl ?_
      refine w_val (v_extract rfl rfl) rfl ?_
      refine w_val (v_extract rfl rfl) rfl ?_
      refine wa rfl rfl ?_
      refine wa rfl rfl ?_
      refine w_nil ?_
      refine e_seq ?_
      refine esr ?_
      refine wm rfl rfl ?_
      refine w_val (v_neq rfl rfl) rfl ?_
      refine w_nil ?_
      refine e_condD rfl (fun hc => ?_) (fun hc => ?_)
      · refine esr ?_
        refine wm rfl rfl ?_
        refine wa rfl rfl ?_
        refine wa rfl rfl ?_
        refine wa rfl rfl ?_
        refine w_nil ?_
        refine e_retQ (q_ret3 rfl (.tmp rfl) (.tmp rfl) (.tmp rfl) ?_)
        exact fun w' hw' => ⟨(.slice none 0 0, feet []), trivial, by rw [if_pos hc]; rfl, by rw [if_pos hc]; exact hnil hw'⟩
      · refine e_skip ?_
        refine esr ?_
        refine wm rfl rfl ?_
        refine wm rfl rfl ?_
        refine wa rfl rfl ?_
        refine wa rfl rfl ?_
        refine wa rfl rfl ?_
        refine w_nil ?_
        refine e_retQ (q_ret3 rfl (.tmp rfl) (.tmp rfl) (.tmp rfl) ?_)
        exact fun w' hw' => ⟨(sl, G), trivial, by rw [if_neg hc]; rfl, by rw [if_neg hc]; exact hw'.res⟩
end Go.SL
end
section

open Go Go.Proofs Go.SL
set_option maxRecDepth 100000
namespace Go.SL
-- left out: caracole/caracoleref.SameBytes
-- left out: caracole/caracoleref.SameDeed
-- left out: caracole/caracoleref.SameDeed, caracole/caracoleref.SameRound
end Go.SL
end
section

open Go Go.Proofs Go.SL
set_option maxRecDepth 100000
namespace Go.SL
theorem one_deedCells (d : DeedL) : ∀ u ∈ deedCells d, u.oneCell' = true := by
  intro u hu
  simp only [deedCells, List.mem_flatMap] at hu
  obtain ⟨o, _, hu⟩ := hu
  simp only [opCells, List.mem_cons, List.not_mem_nil, or_false] at hu
  rcases hu with rfl | rfl | rfl | rfl | rfl <;> rfl
-- left out: caracole/caracoleref.Own
end Go.SL
end
section

open Go Go.Proofs Go.SL
set_option maxRecDepth 100000
namespace Go.SL
theorem Calls.boolT {P : Program} {f : FuncId} {args : Array Value} {w : World} {p : Prop} [Decidable p] (hp : p) (h : Calls P f args w fun e w' => e = .returned (.bool (decide p)) ∧ Res w [] [] w') : Calls P f args w fun e w' => e = .returned (.bool true) ∧ Res w [] [] w' := by
  rw [decide_eq_true hp] at h
  exact h
theorem Calls.boolF {P : Program} {f : FuncId} {args : Array Value} {w : World} {p : Prop} [Decidable p] (hp : ¬ p) (h : Calls P f args w fun e w' => e = .returned (.bool (decide p)) ∧ Res w [] [] w') : Calls P f args w fun e w' => e = .returned (.bool false) ∧ Res w [] [] w' := by
  rw [decide_eq_false hp] at h
  exact h
theorem encodeL_code (r : RoundL) : (encodeL r).2 = roundFaultL r := by
  unfold encodeL
  by_cases h : roundFaultL r ≠ 0
  · rw [if_pos h]
  · rw [if_neg h]; simp only [ne_eq, Decidable.not_not] at h; rw [h]
end Go.SL
end
