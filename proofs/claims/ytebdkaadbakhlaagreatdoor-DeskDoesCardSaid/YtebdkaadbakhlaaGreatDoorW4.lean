/- YtebdkaadbakhlaaGreatDoor: part W4 of this seat's own texts. -/
import Derived.Tactics
import Derived.Tactics2
import Derived.Laws.Pointers
import Derived.Test.YtebdkaadbakhlaaGreatDoorW3
import Derived.Test.YtebdkaadbakhlaaGreatDoorP2
set_option linter.unusedVariables false
set_option linter.unusedSimpArgs false
section
open Go Go.Proofs Go.SL
set_option maxRecDepth 100000
namespace Go.SL
theorem bodyClosure_idle (b2 b3 : Nat) (w : World) : CallsD Tryz.prog 169 #[.pointer (some ⟨b2, 0, none⟩), .pointer (some ⟨b3, 0, none⟩)] .returning w fun e u' w' => e = .returned (.tuple #[]) ∧ u' = .returning ∧ w' = w := by
 refine callsD_of_wpS Tryz.func169 rfl fun c₀ cs hu => ?_
 apply wpS_seq
 apply wpS_region
 simp [wpOpsS, go_sem, recoverD, hu, Tryz.ntmps169, Exit.thenS]
 apply wpS_seq
 apply wpS_region
 simp [wpOpsS, go_sem, Exit.thenS]
 refine wpS_cond (t := false) (by simp [Act.eval, Array.replicate]) ?_
 simp only [Bool.false_eq_true, if_false]
 refine wpS_of_wp (wp_skip ?_)
 cases c₀
 simp_all [bodyPostS, results, Tryz.results169]
theorem bodyClosure_panics (b2 b3 : Nat) (x2 x3 : Value) (w : World) (h2 : (Chunk.blk b2 37 [x2]).holds w) (h3 : (Chunk.blk b3 3 [x3]).holds w) (hne : b2 ≠ b3) :
  CallsD Tryz.prog 169 #[.pointer (some ⟨b2, 0, none⟩), .pointer (some ⟨b3, 0, none⟩)] (.panicking [{ v := gone3, recovered := false }]) w
   fun e u' w' => e = .returned (.tuple #[]) ∧ u' = .panicking [{ v := gone3, recovered := true }] ∧ w' = (w.setCell ⟨b2, 0, none⟩ (.slice none 0 0)).setCell ⟨b3, 0, none⟩ (.int .i64 3) := by
 have c2 : w.cell? ⟨b2, 0, none⟩ = some x2 := by rw [blk_cell h2]; rfl
 have c3 : w.cell? ⟨b3, 0, none⟩ = some x3 := by rw [blk_cell h3]; rfl
 have z2 := blk_thawed (i := 0) h2
 have z3 := blk_thawed (i := 0) h3
 refine callsD_of_wpS Tryz.func169 rfl fun c₀ cs hu => ?_
 apply wpS_seq
 apply wpS_region
 simp [wpOpsS, go_sem, recoverD, hu, Tryz.ntmps169, Exit.thenS]
 apply wpS_seq
 apply wpS_region
 simp [wpOpsS, go_sem, Exit.thenS]
 refine wpS_cond (t := true) (by simp [Act.eval, Array.replicate]) ?_
 simp only [if_true]
 have hta : ∀ w, (Instr.typeAssert gone3 20 233 true).run Tryz.prog w = .ok (.tuple #[.int .i64 3, .bool true]) w := fun w => by
  simp only [Instr.typeAssert, Sem.run_bind, run_underlying uT233, Result.andThen_ok, if_true]
  rfl
 apply wpS_seq
 apply wpS_region
 simp [wpOpsS, go_sem, Exit.thenS, hta]
 apply wpS_seq
 apply wpS_seq
 apply wpS_region
 simp [wpOpsS, go_sem, Exit.thenS]
 refine wpS_cond (t := false) (by simp [Act.eval, Array.replicate]) ?_
 simp only [Bool.false_eq_true, if_false]
 refine wpS_of_wp (wp_skip ?_)
 simp only [Exit.thenS]
 apply wpS_region
 have h3' : (Chunk.blk b3 3 [x3]).holds (w.setCell ⟨b2, 0, none⟩ (.slice none 0 0)) := (Go.RowKit.Below.heap_setCell w _ _ b3 (fun e => hne e.symm)).trans h3
 have c3' : (w.setCell ⟨b2, 0, none⟩ (.slice none 0 0)).cell? ⟨b3, 0, none⟩ = some x3 := by rw [blk_cell h3']; rfl
 have z3' := blk_thawed (i := 0) h3'
 simp [wpOpsS, go_sem, c2, c3, z2, z3, c3', z3', bodyPostS, results, Tryz.results169]
theorem codecBody_spec (v : Value) (bs : List UInt8) (w : World) (h : IsBytes w.cell? v bs) :
    Calls Tryz.prog 154 #[v] w fun e w' =>
      ∃ s : Value × (Nat → Prop), True ∧ e = .returned (.tuple #[s.1, .int .i64 (bodyL roundFaultL bs).2]) ∧ Res w [] [Keep s.2 (fun c => IsRound c s.1 (bodyL roundFaultL bs).1)] w' := by
  rw [← off_none w] at h
  have hpan : ∀ (b2 b3 : Nat) (F : Nat → Prop) (w0 : World) (m : Hp) (w : World), St w0 F (.blk b3 3 [.int .i64 0] :: .blk b2 37 [.slice none 0 0] :: m) w →
      CallsD Tryz.prog 169 #[.pointer (some ⟨b2, 0, none⟩), .pointer (some ⟨b3, 0, none⟩)] (.panicking [{ v := gone3, recovered := false }]) w fun e u' w' => e = .returned (.tuple #[]) ∧ settle u' = .returning ∧ St w0 F (.blk b3 3 [.int .i64 3] :: .blk b2 37 [.slice none 0 0] :: m) w' := by
    intro b2 b3 F w0 m w hw
    have hne : b2 ≠ b3 := fun e => (List.pairwise_cons.1 hw.sep).1 _ (List.mem_cons_self ..) b2 e rfl
    refine (bodyClosure_panics b2 b3 _ _ w (hw.mem (i := 1) rfl) (hw.mem (i := 0) rfl) hne).mono ?_
    rintro e u' w' ⟨rfl, rfl, rfl⟩
    exact ⟨rfl, rfl, blk_set (b := b3) (e := 3) (cs := [.int .i64 0]) (v := .int .i64 3) (i := 0) 0 rfl (blk_set (b := b2) (e := 37) (cs := [.slice none 0 0]) (v := .slice none 0 0) (i := 0) 1 rfl hw)⟩
  have h0 := h
  obtain ⟨A0, k0, rfl, hk0, _, _⟩ := h0
  refine enterD0 (N := 24) Tryz.func154 rfl rfl rfl <| esr <| w_op rfl ?_
  refine x_alloc (z := .slice none 0 0) (by intro w; exact Tryz.zeroValue37 w) rfl (fun b2 => ?_)
  refine w_op rfl ?_
  refine x_alloc (z := .int .i64 0) (by intro w; exact Tryz.zeroValue3 w) rfl (fun b3 => ?_)
  refine wsr <| w_val (v_makeFunc rfl) rfl <| w_defer rfl ?_
  skip
  skip
  refine wsr <| wm rfl rfl ?_
  refine w_val (v_build _ rfl (by intro _; simp [Instr.build, Instr.fill, Tryz.zeroValue237, go_sem]; rfl)) rfl ?_
  refine w_op rfl ?_
  refine x_box rfl rfl (fun b9 => ?_)
  refine wa rfl rfl <| wsr <| wm rfl rfl <| w_op rfl ?_
  refine x_callP (dst := some 11) (mc := [rdB b9 (.slice A0 bs.length k0)]) (mr := [_, _]) (σ := Value × Value × RoundL × List UInt8 × (Nat → Prop)) (τ := Unit) (fun s => getRound bs = some (s.2.2.1, s.2.2.2.1) ∧ Tail (.slice A0 bs.length k0) bs s.1 s.2.2.2.1) (fun s => s.2.1) (fun s => [rdB b9 s.1, Keep s.2.2.2.2 (fun c => IsRound c s.2.1 s.2.2.1)]) (fun _ => getRound bs = none) (fun _ => gone3) (fun _ => []) rfl rfl rfl Tryz.call170 (fun w hw => readerRound_spec b9 _ bs w (hw.mem (i := 0) rfl) (h.mono (hw.ofb 0 rfl))) rfl (fun _ hn => g_panic (q_doorP2 Tryz.call169 (fun w hw => hpan b2 b3 _ _ [] w hw) rfl (ResV.one 1 rfl rfl (by rw [isAggD, uT37]; rfl) rfl) (ResV.one 0 rfl rfl (by rw [isAggD, uT3]; rfl) rfl) (fun w' hw' => ⟨(.slice none 0 0, feet []), trivial, by simp only [bodyL, hn], ?_⟩))) ?_
  · simp only [bodyL, hn]
    exact ((hw'.sub (List.nil_sublist _)).keep0 _ (fun c => ⟨[], ⟨none, 0, rfl, Nat.le_refl _, rfl, fun h => absurd h (Nat.lt_irrefl _)⟩, fun i hi => by simp at hi⟩)).res
  rintro ⟨v1, sl, r, rest, G⟩ ⟨hgr, ht⟩
  dsimp only at hgr ht ⊢
  have h1 := ht _ h
  obtain ⟨A1, k1, rfl, hk1, _, _⟩ := h1
  refine g_round 1 rfl fun A2 k2 hsl hk2 => ?_
  subst hsl
  refine w_op rfl ?_
  refine x_store1 3 rfl rfl rfl Tryz.hi37 Tryz.cz37 rfl (by first | (simp; done) | (simp [intCells_len]; omega) | exact Nat.zero_lt_succ _) rfl ?_
  refine w_nil <| e_seq <| esr <| wm rfl rfl <| wn rfl rfl <| w_val (v_fieldAddrB (o := 0) uT237 rfl rfl Tryz.nz51 rfl) rfl <| w_val (v_loadB 0 rfl uT51 rfl rfl rfl) rfl <| w_val (v_lenS uT51 rfl) rfl <| w_val (v_gtr rfl rfl) rfl <| w_nil ?_
  refine e_condD rfl (fun hlen => ?_) (fun hlen => ?_)
  · have hne : rest ≠ [] := by intro h; rw [h] at hlen; simp at hlen
    refine esr <| w_op rfl ?_
    refine x_store1 3 rfl rfl rfl Tryz.hi37 Tryz.cz37 rfl (by first | (simp; done) | (simp [intCells_len]; omega) | exact Nat.zero_lt_succ _) rfl ?_
    refine w_op rfl ?_
    refine x_store1 2 rfl rfl rfl Tryz.hi3 Tryz.cz3 rfl (by first | (simp; done) | (simp [intCells_len]; omega) | exact Nat.zero_lt_succ _) rfl ?_
    refine w_nil ?_
    refine e_ret (q_door2 Tryz.call169 (fun w => bodyClosure_idle b2 b3 w) rfl (ResV.one 3 rfl rfl (by rw [isAggD, uT37]; rfl) rfl) (ResV.one 2 rfl rfl (by rw [isAggD, uT3]; rfl) rfl) (fun w' hw' => ⟨(.slice none 0 0, feet []), trivial, by simp only [bodyL, hgr, if_pos hne], ?_⟩))
    simp only [bodyL, hgr, if_pos hne]
    exact ((hw'.sub (List.nil_sublist _)).keep0 _ (fun c => ⟨[], ⟨none, 0, rfl, Nat.le_refl _, rfl, fun h => absurd h (Nat.lt_irrefl _)⟩, fun i hi => by simp at hi⟩)).res
  · have hnil : rest = [] := by
      cases rest with
      | nil => rfl
      | cons x xs => simp at hlen
    have hne : ¬ rest ≠ [] := by simp [hnil]
    refine e_skip <| e_seq <| esr <| w_val (v_loadB 3 rfl uT37 rfl rfl rfl) rfl <| w_op rfl ?_
    refine x_call0 (v := .int .i64 (roundFaultL r)) rfl rfl rfl Tryz.call144 rfl (fun w hw => codeRound_spec _ r w (keep_all (IsRound.up _ _) (hw.mem (i := 1) rfl))) ?_
    refine wa rfl rfl <| wsr <| wm rfl rfl <| w_val (v_neq rfl rfl) rfl <| w_nil ?_
    refine e_condD rfl (fun hf => ?_) (fun hf => ?_)
    · refine esr <| wm rfl rfl <| w_op rfl ?_
      refine x_store1 3 rfl rfl rfl Tryz.hi37 Tryz.cz37 rfl (by first | (simp; done) | (simp [intCells_len]; omega) | exact Nat.zero_lt_succ _) rfl ?_
      refine w_op rfl ?_
      refine x_store1 2 rfl rfl rfl Tryz.hi3 Tryz.cz3 rfl (by first | (simp; done) | (simp [intCells_len]; omega) | exact Nat.zero_lt_succ _) rfl ?_
      refine w_nil ?_
      refine e_ret (q_door2 Tryz.call169 (fun w => bodyClosure_idle b2 b3 w) rfl (ResV.one 3 rfl rfl (by rw [isAggD, uT37]; rfl) rfl) (ResV.one 2 rfl rfl (by rw [isAggD, uT3]; rfl) rfl) (fun w' hw' => ⟨(.slice none 0 0, feet []), trivial, by simp only [bodyL, hgr, if_neg hne, if_pos hf], ?_⟩))
      simp only [bodyL, hgr, if_neg hne, if_pos hf]
      exact ((hw'.sub (List.nil_sublist _)).keep0 _ (fun c => ⟨[], ⟨none, 0, rfl, Nat.le_refl _, rfl, fun h => absurd h (Nat.lt_irrefl _)⟩, fun i hi => by simp at hi⟩)).res
    · refine e_skip <| esr <| w_val (v_loadB 3 rfl uT37 rfl rfl rfl) rfl <| w_op rfl ?_
      refine x_store1 3 rfl rfl rfl Tryz.hi37 Tryz.cz37 rfl (by first | (simp; done) | (simp [intCells_len]; omega) | exact Nat.zero_lt_succ _) rfl ?_
      refine w_op rfl ?_
      refine x_store1 2 rfl rfl rfl Tryz.hi3 Tryz.cz3 rfl (by first | (simp; done) | (simp [intCells_len]; omega) | exact Nat.zero_lt_succ _) rfl ?_
      refine w_nil ?_
      refine e_ret (q_door2 Tryz.call169 (fun w => bodyClosure_idle b2 b3 w) rfl (ResV.one 3 rfl rfl (by rw [isAggD, uT37]; rfl) rfl) (ResV.one 2 rfl rfl (by rw [isAggD, uT3]; rfl) rfl) (fun w' hw' => ⟨(.slice A2 r.length k2, G), trivial, by simp only [bodyL, hgr, if_neg hne, if_neg hf], ?_⟩))
      simp only [bodyL, hgr, if_neg hne, if_neg hf]
      exact (hw'.sub (.cons _ (.cons_cons _ (List.nil_sublist _)))).res
end Go.SL
end
section
open Go Go.Proofs Go.SL
set_option maxRecDepth 100000
namespace Go.SL
theorem Decode_spec (v : Value) (bs : List UInt8) (w : World) (h : IsBytes w.cell? v bs) :
  Calls Tryz.prog 128 #[v] w fun e w' =>
   ∃ s : Value × (Nat → Prop), True ∧ e = .returned (.tuple #[s.1, .int .i64 (decL roundFaultL bs).2.1, .int .i64 (decL roundFaultL bs).2.2]) ∧ Res w [] [Keep s.2 (fun c => IsRound c s.1 (decL roundFaultL bs).1)] w' := by
 have hnil : ∀ {w w' : World} {m : Hp}, St w (feet []) m w' → Res w [] [Keep (feet []) (fun c => IsRound c (.slice none 0 0) [])] w' := fun hw' =>
  ((hw'.sub (List.nil_sublist _)).keep0 _ (fun c => ⟨[], ⟨none, 0, rfl, Nat.le_refl _, rfl, fun h => absurd h (Nat.lt_irrefl _)⟩, fun i hi => by simp at hi⟩)).res
 have h0 := h
 rw [← off_none w] at h h0
 obtain ⟨A0, k0, rfl, hk0, hl0, hc0⟩ := h
 refine enter0 (N := 38) Tryz.func128 rfl rfl rfl <| esr <| wa rfl rfl <| wa rfl rfl <| wa rfl rfl <| w_nil <| e_seq <| esr <| wm rfl rfl <| w_val (v_lenS uT51 rfl) rfl <| w_val (v_lss rfl rfl) rfl <| w_nil ?_
 refine e_condD rfl (fun h2 => ?_) (fun h2 => ?_)
 ·refine esr <| wa rfl rfl <| wa rfl rfl <| wa rfl rfl <| w_nil ?_
  refine e_retQ (q_ret3 rfl (.tmp rfl) (.tmp rfl) (.tmp rfl) ?_)
  exact fun w' hw' => ⟨(.slice none 0 0, feet []), trivial, by rw [decL, if_pos (by omega)], by rw [decL, if_pos (by omega)]; exact hnil hw'⟩
 ·have h2' : ¬ bs.length < 2 := by omega
  obtain ⟨x, y, rest, rfl⟩ : ∃ x y rest, bs = x :: y :: rest := by
   match bs, h2' with
   | x :: y :: rest, _ => exact ⟨x, y, rest, rfl⟩
   | [], h => simp at h
   | [x], h => simp at h
  obtain ⟨ad, rfl, hcl⟩ := hc0 (by omega)
  have hx := x.toNat_lt
  have hy := y.toNat_lt
  have hc1 : off w (feet []) (ad.add (((0 : Int)).toNat * 1)) = some (.int .u8 (x.toNat : Int)) := hcl 0 _ (by simp [byteCells])
  have hc2 : off w (feet []) (ad.add (((1 : Int)).toNat * 1)) = some (.int .u8 (y.toNat : Int)) := hcl 1 _ (by simp [byteCells])
  have hlen : 1 < (x :: y :: rest).length := by simp
  have hH : headN (x :: y :: rest) = 2 + x.toNat + 256 * y.toNat := rfl
  generalize hbs : x :: y :: rest = bs at *
  refine e_skip <| e_seq <| e_draw ([]) Tryz.mixed <| tk 0 rfl (v_move rfl) rfl ?_
  refine tk 1 rfl (v_indexS uT51 Tryz.hi5 Tryz.cz5 rfl rfl (by first | omega | decide)) rfl ?_
  refine tk 2 rfl (v_loadO uT5 rfl rfl (hc1)) rfl ?_
  refine tk 3 rfl (v_is (v' := .int .i64 (x.toNat : Int)) (v_conv uT3 (by rw [uT5]; rfl) rfl) (by rw [wrap_i64 (by omega) (by omega)])) rfl ?_
  refine tk 4 rfl (v_add rfl rfl (by omega)) rfl ?_
  refine tk 5 rfl (v_move rfl) rfl ?_
  refine tk 6 rfl (v_indexS uT51 Tryz.hi5 Tryz.cz5 rfl rfl (by first | omega | decide)) rfl ?_
  refine tk 7 rfl (v_loadO uT5 rfl rfl (hc2)) rfl ?_
  refine tk 8 rfl (v_is (v' := .int .i64 (y.toNat : Int)) (v_conv uT3 (by rw [uT5]; rfl) rfl) (by rw [wrap_i64 (by omega) (by omega)])) rfl ?_
  refine tk 9 rfl (v_is (v' := .int .i64 (256 * (y.toNat : Int))) (v_shl rfl rfl (by omega)) (by rw [show IntKind.i64.wrap ((y.toNat : Int) * 2 ^ min ((8 : Int)).toNat IntKind.i64.bits) = 256 * (y.toNat : Int) from by rw [show min ((8 : Int)).toNat IntKind.i64.bits = 8 from rfl, wrap_i64 (by omega) (by omega)]; omega])) rfl ?_
  refine tk 10 rfl (v_is (v' := .int .i64 (headN bs : Int)) (v_add rfl rfl (by omega)) (by rw [hH]; congr 1)) rfl ?_
  refine tk 11 rfl (v_assign rfl) rfl <| td <| e_seq <| esr <| wm rfl rfl <| w_val (v_lenS uT51 rfl) rfl <| wm rfl rfl <| w_val (v_lss rfl rfl) rfl <| w_nil ?_
  refine e_condD rfl (fun h3 => ?_) (fun h3 => ?_)
  ·refine esr <| wa rfl rfl <| wa rfl rfl <| wa rfl rfl <| w_nil ?_
   refine e_retQ (q_ret3 rfl (.tmp rfl) (.tmp rfl) (.tmp rfl) ?_)
   exact fun w' hw' => ⟨(.slice none 0 0, feet []), trivial, by rw [decL, if_neg h2', if_pos (by omega)], by rw [decL, if_neg h2', if_pos (by omega)]; exact hnil hw'⟩
  ·have hle : headN bs ≤ bs.length := by omega
   have hsl := IsBytes.slice (lo := 2) (hi := headN bs) h0 (by omega) hle
   have hbody : (bs.drop 2).take (headN bs - 2) = (bs.take (headN bs)).drop 2 := by rw [List.drop_take]
   rw [hbody] at hsl
   have hD : decL roundFaultL bs = if (bodyL roundFaultL ((bs.take (headN bs)).drop 2)).2 ≠ 0 then ([], 0, (bodyL roundFaultL ((bs.take (headN bs)).drop 2)).2) else ((bodyL roundFaultL ((bs.take (headN bs)).drop 2)).1, (headN bs : Int), 0) := by
    rw [decL, if_neg h2', if_neg (by omega)]
   rw [hD]
   have hcall := fun (w1 : World) (hl : Le (off w (feet [])) w1.cell?) => codecBody_spec _ ((bs.take (headN bs)).drop 2) w1 (hsl.mono hl)
   generalize bodyL roundFaultL ((bs.take (headN bs)).drop 2) = B at *
   obtain ⟨r, c⟩ := B
   dsimp only at hcall ⊢
   refine e_skip <| esr <| wm rfl rfl <| wm rfl rfl ?_
   refine w_val (v_sliceLH uT51 Tryz.hi5 Tryz.cz5 rfl rfl rfl (by omega)) rfl ?_
   refine w_op rfl ?_
   refine x_call (dst := some 30) (mc := []) (σ := Value × (Nat → Prop)) (fun _ => True) (fun s => .tuple #[s.1, .int .i64 c]) (fun s => [Keep s.2 (fun c => IsRound c s.1 r)]) rfl rfl rfl Tryz.call154 (fun w hw => hcall w hw.off) rfl (fun s _ => ?_)
   obtain ⟨sl, G⟩ := s
   dsimp only
   refine wm rfl rfl <| w_val (v_extract rfl rfl) rfl <| w_val (v_extract rfl rfl) rfl <| wa rfl rfl <| wa rfl rfl <| w_nil <| e_seq <| esr <| wm rfl rfl <| w_val (v_neq rfl rfl) rfl <| w_nil ?_
   refine e_condD rfl (fun hc => ?_) (fun hc => ?_)
   ·refine esr <| wm rfl rfl <| wa rfl rfl <| wa rfl rfl <| wa rfl rfl <| w_nil ?_
    refine e_retQ (q_ret3 rfl (.tmp rfl) (.tmp rfl) (.tmp rfl) ?_)
    exact fun w' hw' => ⟨(.slice none 0 0, feet []), trivial, by rw [if_pos hc]; rfl, by rw [if_pos hc]; exact hnil hw'⟩
   ·refine e_skip <| esr <| wm rfl rfl <| wm rfl rfl <| wa rfl rfl <| wa rfl rfl <| wa rfl rfl <| w_nil ?_
    refine e_retQ (q_ret3 rfl (.tmp rfl) (.tmp rfl) (.tmp rfl) ?_)
    exact fun w' hw' => ⟨(sl, G), trivial, by rw [if_neg hc]; rfl, by rw [if_neg hc]; exact hw'.res⟩
end Go.SL
end
section
open Go Go.Proofs Go.SL
set_option maxRecDepth 100000
namespace Go.SL
end Go.SL
end
section
open Go Go.Proofs Go.SL
set_option maxRecDepth 100000
namespace Go.SL
theorem one_deedCells (d : DeedL) : ∀ u ∈ deedCells d, u.oneCell' = true := by
 intro u hu
 simp only [deedCells, List.mem_flatMap] at hu
 obtain ⟨o, _, hu⟩ := hu
 simp only [opCells, List.mem_cons, List.not_mem_nil, or_false] at hu
 rcases hu with rfl | rfl | rfl | rfl | rfl <;> rfl
theorem refOwn_spec (v : Value) (r : RoundL) (w : World) (h : IsRound w.cell? v r) (hr60 : r.length ≤ 60) (hb : ∀ d ∈ r, d.length ≤ 500) : Calls Tryz.prog 101 #[v] w
  fun e w' => ∃ s : Value × (Nat → Prop), True ∧ e = .returned s.1 ∧ Res w [] [Keep s.2 (fun c => IsRound c s.1 r)] w' := by
 rw [← off_none w] at h
 obtain ⟨A, kp, rfl, hle, hc⟩ := h.form
 refine enter0 (N := 22) Tryz.func101 rfl rfl rfl <| esr <| wa rfl rfl <| wsr <| wa rfl rfl <| w_nil <| e_seq <| esr <| wa rfl rfl <| w_nil ?_
 refine g_heap (m' := [Own (.slice none 0 0) 80 1 0 [], Keep (feet []) (Deeds [] [])]) (fun _ hw => (hw.keep0 (Deeds [] []) Deeds.nil).ownNil 80 1) ?_
 refine e_block ?_
 refine e_loopH (σ := Nat × Value × List Value × (Nat → Prop)) [0] (.cons rfl .nil) (fun x => [(3, x.2.1), (4, .int .i64 x.1)]) (fun x => [Own x.2.1 80 1 x.1 x.2.2.1, Keep x.2.2.2 (Deeds x.2.2.1 (r.take x.1))]) (fun x => x.1 ≤ r.length) (fun x => r.length - x.1) (0, .slice none 0 0, [], feet []) (by dsimp only; omega) (by repeat first | exact .nil _ | refine .cons rfl ?_) (fun _ hw => hw) ?_
 rintro ⟨k, vo, vs, F⟩ hk
 dsimp only at hk ⊢
 refine e_seq <| esr <| wm rfl rfl <| wm rfl rfl <| w_val (v_lenS uT37 rfl) rfl <| w_val (v_lss rfl rfl) rfl <| w_nil ?_
 refine e_condD rfl (fun hlt => ?_) (fun hlt => ?_)
 ·have hlt' : k < r.length := by omega
  obtain ⟨ad, u, rfl, hcell, hd⟩ := hc k hlt'
  have hdb := hb r[k] (List.getElem_mem _)
  have hnext : r.take (k + 1) = r.take k ++ [r[k]] := List.take_succ_eq_append_getElem hlt'
  have hkl : (r.take k).length = k := by simp; omega
  generalize hpost : r.take (k + 1) = post at *
  generalize r.take k = pre at *
  generalize r[k] = d at *
  refine e_skip <| e_seq <| e_block <| esr <| wa rfl rfl <| wre <| wm rfl rfl <| wm rfl rfl <| wm rfl rfl <| wm rfl rfl ?_
  refine w_val (v_indexS uT37 Tryz.hi80 Tryz.cz80 rfl rfl (by first | omega | decide)) rfl ?_
  refine w_val (v_loadO uT80 rfl rfl (hcell)) rfl ?_
  refine w_heap (fun _ hw => hw.ownNil 109 5) ?_
  refine w_op rfl ?_
  refine x_appendI (z := .agg #[.int .i64 0, .int .i64 0, .int .i64 0, .int .i64 0, .int .i64 0]) (n := 0) (xs := []) (size := 5) (bytes := 40) (k := d.length) (news := deedCells d) 0 rfl rfl rfl uT80 (by kernel_rfl) rfl (by decide) (fun w hw => hd.mono hw.off) (one_deedCells d) (by omega) (by simp only [maxLen]; omega) rfl (fun vd => ?_)
  refine g_shape 0 rfl fun A1 k1 hv1 hk1 => ?_
  subst hv1
  refine w_op rfl ?_
  refine x_buildSlice _ ([.slice A1 (0 + d.length) k1]) rfl (run_buildSlice uT37 Tryz.hi80 Tryz.cz80 Tryz.zeroValue80 rfl (by kernel_rfl)) rfl (fun b19 => ?_)
  refine w_op rfl ?_
  refine x_appendI (z := .slice none 0 0) (n := k) (xs := vs) (size := 1) (bytes := 24) (k := 1) (news := [.slice A1 (0 + d.length) k1]) 2 rfl rfl rfl uT37 (by kernel_rfl) rfl (by decide) (fun w hw => blk_rds (hw.hold _ (List.mem_cons_self ..)) rfl) (by intro u hu; simp only [List.mem_singleton] at hu; subst hu; rfl) (by omega) (by simp only [maxLen]; omega) rfl (fun vo' => ?_)
  refine wa rfl rfl <| w_nil <| e_blk <| e_region <| wm rfl rfl ?_
  refine w_val (v_add rfl rfl (by omega)) rfl ?_
  refine wa rfl rfl <| w_nil ?_
  refine e_round ((k + 1, vo', vs ++ [.slice A1 (0 + d.length) k1], feet [Own (.slice A1 (0 + d.length) k1) 109 5 (0 + d.length) (deedCells d), Keep F (Deeds vs pre)])) (by dsimp only; omega) (by dsimp only; omega) (by repeat first | exact .nil _ | refine .cons rfl ?_) (fun _ hw => ?_)
  dsimp only
  rw [hpost, hnext]
  simp only [List.set_cons_zero, List.set_cons_succ, List.nil_append] at hw
  have h5 := (hw.sub (.cons _ (List.Sublist.refl _))).perm (m' := [Own (.slice A1 (0 + d.length) k1) 109 5 (0 + d.length) (deedCells d), Keep F (Deeds vs pre), Own vo' 80 1 (k + 1) (vs ++ [.slice A1 (0 + d.length) k1])]) (.cons _ (.swap _ _ _))
  exact (h5.deedIn (Nat.zero_add _)).perm (.swap _ _ _)
 ·obtain rfl : k = r.length := by omega
  refine e_exit rfl <| esr <| wm rfl rfl <| wa rfl rfl <| w_nil ?_
  refine e_retQ (q_ret1 rfl (.tmp rfl) ?_)
  refine fun w' hw' => ⟨(vo, feet [Own vo 80 1 r.length vs, Keep F (Deeds vs r)]), trivial, rfl, ?_⟩
  rw [List.take_length] at hw'
  exact (hw'.roundIn rfl).res
theorem u64_div {n : Int} {i : Nat} : IntKind.u64.wrap n / 256 ^ i / 256 = IntKind.u64.wrap n / 256 ^ (i + 1) := by
 rw [Int.ediv_ediv_of_nonneg (Int.pow_nonneg (by decide)), Int.pow_succ]
theorem long_byte' {n : Int} (h1 : -9223372036854775808 ≤ n) (h2 : n ≤ 9223372036854775807) {i : Nat} (hi : i < 8) : IntKind.u64.wrap n / 256 ^ i % 256 = n / 256 ^ i % 256 := by
 have := long_byte h1 h2 hi
 rwa [Int.pow_mul, show (2 : Int) ^ 8 = 256 from rfl] at this
theorem long8_next (n : Int) {i : Nat} (hi : i < 8) : (long8 n).take (i + 1) = (long8 n).take i ++ [ub (n / 256 ^ i % 256)] := by
 have h1 := long8_at n hi
 have h2 : ub (n / 256 ^ i % 256) = ub (n / 256 ^ i) := by unfold ub; congr 2; omega
 rw [List.take_add_one, h1, h2]
 simp
theorem bytesOf_spec (v : Value) (r : RoundL) (w : World) (h : IsRound w.cell? v r) (hok : OkRound r) (hin : ∀ d ∈ r, ∀ o ∈ d, OpIn o) : Calls Tryz.prog 100 #[v] w
  fun e w' => ∃ sl, True ∧ e = .returned sl ∧ Res w [] [Own sl 5 1 (encL r).length (byteCells (encL r))] w' := by
 have h8 := hok.1
 rw [← off_none w] at h
 obtain ⟨A, kp, rfl, hle, hc⟩ := h.form
 have hcu : ∀ n : Int, IntKind.u8.wrap n = ((ub n).toNat : Int) := fun n => by rw [wrap_u8, ub_toNat]
 refine enter0 (N := 98) Tryz.func100 rfl rfl rfl <| esr <| wa rfl rfl <| wsr <| wm rfl rfl <| w_val (v_lenS uT37 rfl) rfl ?_
 refine w_val (v_is (v' := .int .u8 ((ub r.length).toNat : Int)) (v_conv uT5 (by rw [uT3]; rfl) rfl) (by rw [hcu])) rfl ?_
 refine w_op rfl ?_
 refine x_buildSlice _ (byteCells [ub r.length]) rfl (run_buildSlice uT51 Tryz.hi5 Tryz.cz5 Tryz.zeroValue5 rfl (by kernel_rfl)) rfl (fun b12 => ?_)
 refine wa rfl rfl <| w_nil <| e_seq <| esr <| wa rfl rfl <| w_nil ?_
 refine g_own (size := 1) (n := 1) 0 rfl rfl (by decide) ?_
 refine e_block ?_
 refine e_loopH (σ := Nat × Value) [0] (.cons rfl .nil) (fun x => [(3, x.2), (4, .int .i64 x.1)]) (fun x => [Own x.2 5 1 (ub r.length :: encDeeds (r.take x.1)).length (byteCells (ub r.length :: encDeeds (r.take x.1)))]) (fun x => x.1 ≤ r.length) (fun x => r.length - x.1) (0, .slice (some ⟨b12, 0, none⟩) 1 1) (by dsimp only; omega) (by repeat first | exact .nil _ | refine .cons rfl ?_) (fun _ hw => hw) ?_
 rintro ⟨k, v3⟩ hk
 dsimp only at hk ⊢
 refine e_seq <| esr <| wm rfl rfl <| wm rfl rfl <| w_val (v_lenS uT37 rfl) rfl <| w_val (v_lss rfl rfl) rfl <| w_nil ?_
 refine e_condD rfl (fun hlt => ?_) (fun hlt => ?_)
 ·have hlt' : k < r.length := by omega
  obtain ⟨ad, u, rfl, hcell, hd⟩ := hc k hlt'
  obtain ⟨A2, kp2, rfl, hle2, hc2⟩ := hd.form
  have hdok := hok.2 r[k] (List.getElem_mem _)
  have hdin := hin r[k] (List.getElem_mem _)
  have hpre := encDeeds_take k hok
  have hnext := encDeeds_at hlt'
  generalize encDeeds (r.take k) = pre at *
  generalize hpost : encDeeds (r.take (k + 1)) = post at *
  generalize r[k] = d at *
  refine e_skip <| e_seq <| e_block <| esr <| wm rfl rfl <| wm rfl rfl <| wm rfl rfl ?_
  refine w_val (v_indexS uT37 Tryz.hi80 Tryz.cz80 rfl rfl (by first | omega | decide)) rfl ?_
  refine w_val (v_loadO uT80 rfl rfl (hcell)) rfl <| w_val (v_lenS uT80 rfl) rfl ?_
  refine w_val (v_is (v' := .int .u8 ((ub d.length).toNat : Int)) (v_conv uT5 (by rw [uT3]; rfl) rfl) (by rw [hcu])) rfl ?_
  refine w_op rfl ?_
  refine x_buildSlice _ (byteCells [ub d.length]) rfl (run_buildSlice uT51 Tryz.hi5 Tryz.cz5 Tryz.zeroValue5 rfl (by kernel_rfl)) rfl (fun b26 => ?_)
  refine w_op rfl ?_
  refine x_appendI (z := .int .u8 0) (n := (ub r.length :: pre).length) (xs := byteCells (ub r.length :: pre)) (size := 1) (bytes := 1) (k := 1) (news := byteCells [ub d.length]) 1 rfl rfl rfl uT51 (by kernel_rfl) rfl (by decide) (fun w hw => blk_rds (hw.hold _ (List.mem_cons_self ..)) rfl) (one_byteCells _) (by simp; omega) (by simp [maxLen]; omega) rfl (fun v4 => ?_)
  refine wa rfl rfl <| wsr <| wa rfl rfl <| w_nil ?_
  refine g_heap (m' := [Own v4 5 1 (ub r.length :: pre ++ [ub d.length]).length (byteCells (ub r.length :: pre ++ [ub d.length]))]) (fun _ hw => by rw [byteCells_app, List.length_append]; exact hw.sub (.cons _ (List.Sublist.refl _))) ?_
  refine e_block ?_
  refine e_loopH (σ := Nat × Value) [0, 4] (.cons rfl (.cons rfl .nil)) (fun x => [(3, x.2), (5, .int .i64 x.1)]) (fun x => [Own x.2 5 1 (ub r.length :: pre ++ [ub d.length] ++ encOps (d.take x.1)).length (byteCells (ub r.length :: pre ++ [ub d.length] ++ encOps (d.take x.1)))]) (fun x => x.1 ≤ d.length) (fun x => d.length - x.1) (0, v4) (by dsimp only; omega) (by repeat first | exact .nil _ | refine .cons rfl ?_) (fun _ hw => by simpa [encOps] using hw) ?_
  rintro ⟨j, v5⟩ hj
  dsimp only at hj ⊢
  refine e_seq <| esr <| wm rfl rfl <| wm rfl rfl <| wm rfl rfl ?_
  refine w_val (v_indexS uT37 Tryz.hi80 Tryz.cz80 rfl rfl (by first | omega | decide)) rfl ?_
  refine w_val (v_loadO uT80 rfl rfl (hcell)) rfl <| w_val (v_lenS uT80 rfl) rfl <| w_val (v_lss rfl rfl) rfl <| w_nil ?_
  refine e_condD rfl (fun hlt2 => ?_) (fun hlt2 => ?_)
  ·have hlt2' : j < d.length := by omega
   obtain ⟨ad2, rfl, hop⟩ := IsDeed.cells hc2 hlt2'
   have hoOk := hdok.2 d[j] (List.getElem_mem _)
   have hoin := opIn_n (hdin d[j] (List.getElem_mem _))
   have hpre2 := encOps_take j hdok.1
   have hnext2 := encOps_at hlt2'
   generalize encOps (d.take j) = pre2 at *
   generalize hpost2 : encOps (d.take (j + 1)) = post2 at *
   generalize d[j] = o at *
   generalize hbs : ub r.length :: pre ++ [ub d.length] ++ pre2 = bs
   have hbl : bs.length ≤ 2000 := by rw [← hbs]; simp; omega
   refine e_skip <| e_seq <| e_block <| esr <| wm rfl rfl <| wm rfl rfl ?_
   refine w_val (v_indexS uT37 Tryz.hi80 Tryz.cz80 rfl rfl (by first | omega | decide)) rfl ?_
   refine w_val (v_loadO uT80 rfl rfl (hcell)) rfl <| wm rfl rfl ?_
   refine w_val (v_indexS uT80 Tryz.hi109 Tryz.cz109 rfl rfl (by first | omega | decide)) rfl ?_
   refine w_val (v_loadON uT109 rfl Tryz.hi109 rfl (hop) Tryz.cz109) rfl <| w_op rfl ?_
   refine x_alloc (z := .agg #[.int .i64 0, .int .i64 0, .int .i64 0, .int .i64 0, .int .i64 0]) (by intro w; exact Tryz.zeroValue109 w) rfl (fun b6 => ?_)
   refine w_op rfl ?_
   refine x_storeA 0 rfl rfl rfl Tryz.hi109 Tryz.cz109 rfl (by first | (simp [Value.oneCell', opCells]; done) | assumption | exact one_ints _ | exact one_resCells _ _ | exact one_slotC _) ?_
   refine wsr <| wm rfl rfl <| w_val (v_fieldAddrB (o := 0) uT109 rfl rfl Tryz.nz3 rfl) rfl <| w_val (v_loadB 0 rfl uT3 rfl rfl rfl) rfl ?_
   refine w_val (v_is (v' := .int .u8 ((ub o.kind).toNat : Int)) (v_conv uT5 (by rw [uT3]; rfl) rfl) (by rw [hcu])) rfl ?_
   refine w_op rfl ?_
   refine x_buildSlice _ (byteCells [ub o.kind]) rfl (run_buildSlice uT51 Tryz.hi5 Tryz.cz5 Tryz.zeroValue5 rfl (by kernel_rfl)) rfl (fun b48 => ?_)
   refine w_op rfl ?_
   refine x_appendI (z := .int .u8 0) (n := bs.length) (xs := byteCells bs) (size := 1) (bytes := 1) (k := 1) (news := byteCells [ub o.kind]) 2 rfl rfl rfl uT51 (by kernel_rfl) rfl (by decide) (fun w hw => blk_rds (hw.hold _ (List.mem_cons_self ..)) rfl) (one_byteCells _) (by omega) (by simp only [maxLen]; omega) rfl (fun v6 => ?_)
   refine wa rfl rfl <| w_nil <| e_seq <| esr <| w_val (v_fieldAddrB (o := 0) uT109 rfl rfl Tryz.nz3 rfl) rfl <| w_val (v_loadB 1 rfl uT3 rfl rfl rfl) rfl <| w_val (v_neq rfl rfl) rfl <| w_nil ?_
   refine e_condD rfl (fun hk1 => ?_) (fun hk1 => ?_)
   ·have hob : 0 ≤ o.a ∧ o.a < 16 ∧ 0 ≤ o.b ∧ o.b < 16 := by
     rcases hoOk with h | h
     ·exact absurd h.1 hk1
     ·omega
    refine esr <| wm rfl rfl <| w_val (v_fieldAddrB (o := 1) uT109 rfl rfl Tryz.nz3 rfl) rfl <| w_val (v_loadB 1 rfl uT3 rfl rfl rfl) rfl <| w_val (v_fieldAddrB (o := 2) uT109 rfl rfl Tryz.nz3 rfl) rfl <| w_val (v_loadB 1 rfl uT3 rfl rfl rfl) rfl ?_
    refine w_val (v_mul rfl rfl (by omega)) rfl ?_
    refine w_val (v_add rfl rfl (by omega)) rfl ?_
    refine w_val (v_is (v' := .int .u8 ((ub (o.a + 16 * o.b)).toNat : Int)) (v_conv uT5 (by rw [uT3]; rfl) rfl) (by rw [hcu])) rfl ?_
    refine w_val (v_fieldAddrB (o := 3) uT109 rfl rfl Tryz.nz3 rfl) rfl <| w_val (v_loadB 1 rfl uT3 rfl rfl rfl) rfl ?_
    refine w_val (v_is (v' := .int .u8 ((ub o.c).toNat : Int)) (v_conv uT5 (by rw [uT3]; rfl) rfl) (by rw [hcu])) rfl ?_
    refine w_op rfl ?_
    refine x_buildSlice _ (byteCells [ub (o.a + 16 * o.b), ub o.c]) rfl (run_buildSlice uT51 Tryz.hi5 Tryz.cz5 Tryz.zeroValue5 rfl (by kernel_rfl)) rfl (fun b64 => ?_)
    refine w_op rfl ?_
    refine x_appendI (z := .int .u8 0) (n := bs.length + 1) (xs := byteCells bs ++ byteCells [ub o.kind]) (size := 1) (bytes := 1) (k := 2) (news := byteCells [ub (o.a + 16 * o.b), ub o.c]) 3 rfl rfl rfl uT51 (by kernel_rfl) rfl (by decide) (fun w hw => blk_rds (hw.hold _ (List.mem_cons_self ..)) rfl) (one_byteCells _) (by omega) (by simp only [maxLen]; omega) rfl (fun v7 => ?_)
    refine wa rfl rfl <| w_nil <| e_exit rfl <| e_region <| wm rfl rfl ?_
    refine w_val (v_add rfl rfl (by omega)) rfl ?_
    refine wa rfl rfl <| w_nil ?_
    refine e_round ((j + 1, v7)) (by dsimp only; omega) (by dsimp only; omega) (by repeat first | exact .nil _ | refine .cons rfl ?_) (fun _ hw => ?_)
    have he : ub r.length :: pre ++ [ub d.length] ++ post2 = bs ++ [ub o.kind] ++ [ub (o.a + 16 * o.b), ub o.c] := by
     rw [← hbs, hnext2, encOp, if_neg hk1]; simp
    dsimp only
    rw [hpost2, he, byteCells_app, byteCells_app, List.length_append, List.length_append]
    simp only [List.set_cons_zero, List.set_cons_succ] at hw
    exact hw.sub (.cons _ (.cons _ (.cons _ (List.Sublist.refl _))))
   ·have hk1' : o.kind = 1 := by omega
    refine e_skip <| esr <| wm rfl rfl <| w_val (v_fieldAddrB (o := 1) uT109 rfl rfl Tryz.nz3 rfl) rfl <| w_val (v_loadB 1 rfl uT3 rfl rfl rfl) rfl ?_
    refine w_val (v_is (v' := .int .u8 ((ub o.a).toNat : Int)) (v_conv uT5 (by rw [uT3]; rfl) rfl) (by rw [hcu])) rfl ?_
    refine w_op rfl ?_
    refine x_buildSlice _ (byteCells [ub o.a]) rfl (run_buildSlice uT51 Tryz.hi5 Tryz.cz5 Tryz.zeroValue5 rfl (by kernel_rfl)) rfl (fun b70 => ?_)
    refine w_op rfl ?_
    refine x_appendI (z := .int .u8 0) (n := bs.length + 1) (xs := byteCells bs ++ byteCells [ub o.kind]) (size := 1) (bytes := 1) (k := 1) (news := byteCells [ub o.a]) 3 rfl rfl rfl uT51 (by kernel_rfl) rfl (by decide) (fun w hw => blk_rds (hw.hold _ (List.mem_cons_self ..)) rfl) (one_byteCells _) (by omega) (by simp only [maxLen]; omega) rfl (fun v7 => ?_)
    generalize hbs2 : bs ++ [ub o.kind] ++ [ub o.a] = bs2
    refine wa rfl rfl <| wsr <| w_val (v_fieldAddrB (o := 4) uT109 rfl rfl Tryz.nz2 rfl) rfl <| w_val (v_loadB 2 rfl uT2 rfl rfl rfl) rfl ?_
    refine w_val (v_is (v' := .int .u64 (IntKind.u64.wrap o.n / 256 ^ 0)) (v_conv uT165 (by rw [uT2]; rfl) rfl) (by simp)) rfl ?_
    refine wa rfl rfl <| wsr <| wa rfl rfl <| w_nil ?_
    refine g_heap (m' := [Own v7 5 1 bs2.length (byteCells bs2)]) (fun _ hw => by
     rw [← hbs2, byteCells_app, byteCells_app, List.length_append, List.length_append]
     simp only [List.set_cons_zero, List.set_cons_succ] at hw
     exact hw.sub (.cons _ (.cons _ (.cons _ (List.Sublist.refl _))))) ?_
    have hbl2 : bs2.length ≤ 2002 := by rw [← hbs2]; simp; omega
    refine e_block ?_
    refine e_loopH (σ := Nat × Value) [0, 4, 5] (.cons rfl (.cons rfl (.cons rfl .nil))) (fun x => [(3, x.2), (7, .int .u64 (IntKind.u64.wrap o.n / 256 ^ x.1)), (8, .int .i64 x.1)]) (fun x => [Own x.2 5 1 (bs2 ++ (long8 o.n).take x.1).length (byteCells (bs2 ++ (long8 o.n).take x.1))]) (fun x => x.1 ≤ 8) (fun x => 8 - x.1) (0, v7) (by dsimp only; omega) (by repeat first | exact .nil _ | refine .cons rfl ?_) (fun _ hw => by simpa using hw) ?_
    rintro ⟨i, v8⟩ hi
    dsimp only at hi ⊢
    refine e_seq <| esr <| wm rfl rfl <| w_val (v_lss rfl rfl) rfl <| w_nil ?_
    refine e_condD rfl (fun hlt3 => ?_) (fun hlt3 => ?_)
    ·have hlt3' : i < 8 := by omega
     have hbyte := long_byte' hoin.1 hoin.2 hlt3'
     have hnn : 0 ≤ IntKind.u64.wrap o.n / 256 ^ i := Int.ediv_nonneg (u64_nonneg _) (Int.pow_nonneg (by decide))
     have hnl : IntKind.u64.wrap o.n / 256 ^ i ≤ IntKind.u64.wrap o.n := Int.ediv_le_self _ (u64_nonneg _)
     have hnu : IntKind.u64.wrap o.n < 18446744073709551616 := by simp [IntKind.wrap, IntKind.bits, IntKind.signed]; omega
     have hn3 := long8_next o.n hlt3'
     have htl : (bs2 ++ (long8 o.n).take i).length ≤ 2010 := by simp; omega
     generalize hpost3 : (long8 o.n).take (i + 1) = post3 at *
     have hdiv := u64_div (n := o.n) (i := i)
     generalize hbs3 : bs2 ++ (long8 o.n).take i = bs3 at *
     refine e_skip <| e_seq <| e_block <| esr <| wm rfl rfl <| wm rfl rfl ?_
     refine w_val (v_is (v' := .int .u64 (o.n / 256 ^ i % 256)) (v_rem rfl rfl (by decide)) (by rw [Int.tmod_eq_emod_of_nonneg hnn, hbyte])) rfl ?_
     refine w_val (v_is (v' := .int .u8 ((ub (o.n / 256 ^ i % 256)).toNat : Int)) (v_conv uT5 (by rw [uT165]; rfl) rfl) (by rw [hcu])) rfl ?_
     refine w_op rfl ?_
     refine x_buildSlice _ (byteCells [ub (o.n / 256 ^ i % 256)]) rfl (run_buildSlice uT51 Tryz.hi5 Tryz.cz5 Tryz.zeroValue5 rfl (by kernel_rfl)) rfl (fun b83 => ?_)
     refine w_op rfl ?_
     refine x_appendI (z := .int .u8 0) (n := bs3.length) (xs := byteCells bs3) (size := 1) (bytes := 1) (k := 1) (news := byteCells [ub (o.n / 256 ^ i % 256)]) 1 rfl rfl rfl uT51 (by kernel_rfl) rfl (by decide) (fun w hw => blk_rds (hw.hold _ (List.mem_cons_self ..)) rfl) (one_byteCells _) (by omega) (by simp only [maxLen]; omega) rfl (fun v9 => ?_)
     refine wa rfl rfl <| wre <| wm rfl rfl ?_
     refine w_val (v_is (v' := .int .u64 (IntKind.u64.wrap o.n / 256 ^ (i + 1))) (v_quo rfl rfl (by decide)) (by rw [Int.tdiv_eq_ediv_of_nonneg hnn, hdiv, wrap_u64 (by omega) (by omega)])) rfl ?_
     refine wa rfl rfl <| w_nil <| e_blk <| e_region <| wm rfl rfl ?_
     refine w_val (v_add rfl rfl (by omega)) rfl ?_
     refine wa rfl rfl <| w_nil ?_
     refine e_round ((i + 1, v9)) (by dsimp only; omega) (by dsimp only; omega) (by repeat first | exact .nil _ | refine .cons rfl ?_) (fun _ hw => ?_)
     have he : bs2 ++ post3 = bs3 ++ [ub (o.n / 256 ^ i % 256)] := by rw [hn3, ← hbs3]; simp
     dsimp only
     rw [hpost3, he, byteCells_app, List.length_append]
     simp only [List.set_cons_zero, List.set_cons_succ] at hw
     exact hw.sub (.cons _ (List.Sublist.refl _))
    ·obtain rfl : i = 8 := by omega
     have he : bs2 ++ (long8 o.n).take 8 = ub r.length :: pre ++ [ub d.length] ++ post2 := by
      rw [show (long8 o.n).take 8 = long8 o.n from rfl, ← hbs2, ← hbs, hnext2, encOp, if_pos hk1']; simp
     rw [he]
     refine e_exit rfl <| e_blk <| e_region <| wm rfl rfl ?_
     refine w_val (v_add rfl rfl (by omega)) rfl ?_
     refine wa rfl rfl <| w_nil ?_
     refine e_round ((j + 1, v8)) (by dsimp only; omega) (by dsimp only; omega) (by repeat first | exact .nil _ | refine .cons rfl ?_) (fun _ hw => ?_)
     dsimp only
     rw [hpost2]
     exact hw
  ·obtain rfl : j = d.length := by omega
   have he : ub r.length :: pre ++ [ub d.length] ++ encOps (d.take d.length) = ub r.length :: post := by
    rw [hnext, List.take_length, encDeed]; simp
   rw [he]
   refine e_exit rfl <| e_blk <| e_region <| wm rfl rfl ?_
   refine w_val (v_add rfl rfl (by omega)) rfl ?_
   refine wa rfl rfl <| w_nil ?_
   refine e_round ((k + 1, v5)) (by dsimp only; omega) (by dsimp only; omega) (by repeat first | exact .nil _ | refine .cons rfl ?_) (fun _ hw => ?_)
   dsimp only
   rw [hpost]
   exact hw
 ·obtain rfl : k = r.length := by omega
  have he : ub r.length :: encDeeds (r.take r.length) = encBody r := by rw [List.take_length, encBody]
  rw [he]
  have hbl := encBody_len hok
  refine g_shape 0 rfl fun A1 k1 hv1 hk1 => ?_
  subst hv1
  refine e_exit rfl <| esr <| wm rfl rfl <| w_val (v_lenS uT51 rfl) rfl ?_
  refine w_val (v_is (v' := .int .i64 (((encBody r).length : Int) % 256)) (v_rem rfl rfl (by decide)) (by rw [Int.tmod_eq_emod_of_nonneg (by omega)])) rfl ?_
  refine w_val (v_is (v' := .int .u8 ((ub (encBody r).length).toNat : Int)) (v_conv uT5 (by rw [uT3]; rfl) rfl) (by rw [wrap_u8, ub_toNat]; congr 1; omega)) rfl ?_
  refine wm rfl rfl <| w_val (v_lenS uT51 rfl) rfl ?_
  refine w_val (v_is (v' := .int .i64 (((encBody r).length : Int) / 256)) (v_quo rfl rfl (by decide)) (by rw [Int.tdiv_eq_ediv_of_nonneg (by omega), wrap_i64 (by omega) (by omega)])) rfl ?_
  refine w_val (v_is (v' := .int .u8 ((ub (((encBody r).length : Int) / 256)).toNat : Int)) (v_conv uT5 (by rw [uT3]; rfl) rfl) (by rw [wrap_u8, ub_toNat])) rfl ?_
  refine w_op rfl ?_
  refine x_buildSlice _ (byteCells [ub (encBody r).length, ub (((encBody r).length : Int) / 256)]) rfl (run_buildSlice uT51 Tryz.hi5 Tryz.cz5 Tryz.zeroValue5 rfl (by kernel_rfl)) rfl (fun b95 => ?_)
  refine wm rfl rfl ?_
  refine g_own (size := 1) (n := 2) 0 rfl rfl (by decide) ?_
  refine w_op rfl ?_
  refine x_appendI (z := .int .u8 0) (n := 2) (xs := byteCells [ub (encBody r).length, ub (((encBody r).length : Int) / 256)]) (size := 1) (bytes := 1) (k := (encBody r).length) (news := byteCells (encBody r)) 0 rfl rfl rfl uT51 (by kernel_rfl) rfl (by decide) (fun w hw => own_rds (hw.mem (i := 1) rfl)) (one_byteCells _) (by omega) (by simp only [maxLen]; omega) rfl (fun v' => ?_)
  refine wa rfl rfl <| w_nil ?_
  refine e_retQ (q_ret1 rfl (.tmp rfl) ?_)
  refine fun w' hw' => ⟨v', trivial, rfl, ?_⟩
  have e1 : (encL r).length = 2 + (encBody r).length := by rw [encL_len]; omega
  have e2 : byteCells (encL r) = byteCells [ub (encBody r).length, ub (((encBody r).length : Int) / 256)] ++ byteCells (encBody r) := by rw [← byteCells_app]; rfl
  rw [e1, e2]
  exact (hw'.sub (.cons_cons _ (List.nil_sublist _))).res
end Go.SL
end
section
open Go Go.Proofs Go.SL
set_option maxRecDepth 100000
namespace Go.SL
theorem Calls.boolT {P : Program} {f : FuncId} {args : Array Value} {w : World} {p : Prop} [Decidable p] (hp : p) (h : Calls P f args w fun e w' => e = .returned (.bool (decide p)) ∧ Res w [] [] w') : Calls P f args w fun e w' => e = .returned (.bool true) ∧ Res w [] [] w' := by
 rw [decide_eq_true hp] at h
 exact h
theorem Calls.boolF {P : Program} {f : FuncId} {args : Array Value} {w : World} {p : Prop} [Decidable p] (hp : ¬ p) (h : Calls P f args w fun e w' => e = .returned (.bool (decide p)) ∧ Res w [] [] w') : Calls P f args w fun e w' => e = .returned (.bool false) ∧ Res w [] [] w' := by
 rw [decide_eq_false hp] at h
 exact h
theorem encodeL_code (r : RoundL) : (encodeL r).2 = roundFaultL r := by
 unfold encodeL
 by_cases h : roundFaultL r ≠ 0
 ·rw [if_pos h]
 ·rw [if_neg h]; simp only [ne_eq, Decidable.not_not] at h; rw [h]
theorem small_of {z : RoundL} (h : roundFaultL z = 0) : z.length ≤ 8 ∧ ∀ d ∈ z, d.length ≤ 14 := by
 obtain ⟨h8, hd⟩ := roundFault_ok h
 exact ⟨h8, fun d hdz => (checked (hd d hdz)).1⟩
end Go.SL
end
