/- YtebdkaadbakhlaaGreatDoor: part W1 of this seat's own texts. -/
import Derived.Test.YtebdkaadbakhlaaGreatDoorP1
set_option linter.unusedVariables false
set_option linter.unusedSimpArgs false
section
open Go Go.Proofs Go.SL
set_option maxRecDepth 100000
namespace Go.SL
def limL (k : Int) : List Int := if k = 1 ∨ k = 8 then [4, 0, 0] else if k = 2 then [4, 10, 0] else if k = 7 then [10, 4, 0] else if k = 9 then [4, 14, 0] else [4, 4, 4]
theorem limL_len (k : Int) : (limL k).length = 3 := by
 unfold limL
 (repeat' split) <;> rfl
theorem one_ints (l : List Int) : ∀ u ∈ (l.map (Value.int .i64)).toArray.toList, u.oneCell' = true := by
 intro u hu
 simp only [List.mem_map] at hu
 obtain ⟨x, _, rfl⟩ := hu
 rfl
theorem lim_ex (k : Int) (h1 : 1 ≤ k) (h2 : k ≤ 9) : (#[Value.int IntKind.i64 0, Value.int IntKind.i64 0, Value.int IntKind.i64 0, Value.int IntKind.i64 4,
            Value.int IntKind.i64 0, Value.int IntKind.i64 0, Value.int IntKind.i64 4, Value.int IntKind.i64 10,
            Value.int IntKind.i64 0, Value.int IntKind.i64 4, Value.int IntKind.i64 4, Value.int IntKind.i64 4,
            Value.int IntKind.i64 4, Value.int IntKind.i64 4, Value.int IntKind.i64 4, Value.int IntKind.i64 4,
            Value.int IntKind.i64 4, Value.int IntKind.i64 4, Value.int IntKind.i64 4, Value.int IntKind.i64 4,
            Value.int IntKind.i64 4, Value.int IntKind.i64 10, Value.int IntKind.i64 4, Value.int IntKind.i64 0,
            Value.int IntKind.i64 4, Value.int IntKind.i64 0, Value.int IntKind.i64 0, Value.int IntKind.i64 4,
            Value.int IntKind.i64 14, Value.int IntKind.i64 0] : Array Value).extract (k.toNat * 3) (k.toNat * 3 + 3) = ((limL k).map (Value.int .i64)).toArray := by
  have : k = 1 ∨ k = 2 ∨ k = 3 ∨ k = 4 ∨ k = 5 ∨ k = 6 ∨ k = 7 ∨ k = 8 ∨ k = 9 := by omega
  rcases this with rfl | rfl | rfl | rfl | rfl | rfl | rfl | rfl | rfl <;> simp [limL]
theorem limits_spec (k : Int) (h1 : 1 ≤ k) (h2 : k ≤ 9) (w : World) : Calls Tryz.prog 139 #[.int .i64 k] w fun e w' => e = .returned (.agg ((limL k).map (Value.int .i64)).toArray) ∧ Res w [] [] w' := by
 refine enter0 (N := 37) Tryz.func139 rfl rfl rfl <| esr <| w_op rfl ?_
 refine x_alloc (z := .agg #[.int .i64 0, .int .i64 0, .int .i64 0]) (by intro w; exact Tryz.zeroValue191 w) rfl (fun b2 => ?_)
 refine wsr <| wa rfl rfl <| wa rfl rfl <| wsr ?_
 refine w_val (v_build _ rfl (by intro _; simp [Instr.build, Instr.fill, Tryz.zeroValue191, go_sem]; rfl)) rfl ?_
 refine wm rfl rfl ?_
 refine w_val (v_build _ rfl (by intro _; simp [Instr.build, Instr.fill, Tryz.zeroValue191, go_sem]; rfl)) rfl ?_
 refine wm rfl rfl <| wm rfl rfl ?_
 refine w_val (v_build _ rfl (by intro _; simp [Instr.build, Instr.fill, Tryz.zeroValue191, go_sem]; rfl)) rfl ?_
 refine wm rfl rfl <| wm rfl rfl <| wm rfl rfl ?_
 refine w_val (v_build _ rfl (by intro _; simp [Instr.build, Instr.fill, Tryz.zeroValue191, go_sem]; rfl)) rfl ?_
 refine wm rfl rfl <| wm rfl rfl <| wm rfl rfl ?_
 refine w_val (v_build _ rfl (by intro _; simp [Instr.build, Instr.fill, Tryz.zeroValue191, go_sem]; rfl)) rfl ?_
 refine wm rfl rfl <| wm rfl rfl <| wm rfl rfl ?_
 refine w_val (v_build _ rfl (by intro _; simp [Instr.build, Instr.fill, Tryz.zeroValue191, go_sem]; rfl)) rfl ?_
 refine wm rfl rfl <| wm rfl rfl <| wm rfl rfl ?_
 refine w_val (v_build _ rfl (by intro _; simp [Instr.build, Instr.fill, Tryz.zeroValue191, go_sem]; rfl)) rfl ?_
 refine wm rfl rfl <| wm rfl rfl ?_
 refine w_val (v_build _ rfl (by intro _; simp [Instr.build, Instr.fill, Tryz.zeroValue191, go_sem]; rfl)) rfl ?_
 refine wm rfl rfl ?_
 refine w_val (v_build _ rfl (by intro _; simp [Instr.build, Instr.fill, Tryz.zeroValue191, go_sem]; rfl)) rfl ?_
 refine wm rfl rfl ?_
 refine w_val (v_build _ rfl (by intro _; simp [Instr.build, Instr.fill, Tryz.zeroValue191, go_sem]; rfl)) rfl ?_
 refine w_val (v_build _ rfl (by intro _; simp [Instr.build, Instr.fill, Tryz.zeroValue214, go_sem]; rfl)) rfl ?_
 refine wm rfl rfl ?_
 refine w_val (v := .agg ((limL k).map (Value.int .i64)).toArray) (by rw [← lim_ex k h1 h2]; exact v_indexVN uT214 uT191 rfl Tryz.hi191 Tryz.cz191 rfl rfl (by omega)) rfl ?_
 refine w_op rfl ?_
 refine x_storeA 0 rfl rfl rfl Tryz.hi191 (by simp only [Tryz.cz191]; simp [limL_len]) (by simp [limL_len]; rfl) (one_ints _) ?_
 refine w_nil ?_
 refine e_retQ (q_ret1 rfl (ResV.agg 0 rfl rfl (by rw [isAggD, uT191]; rfl) (Tryz.cz191.trans (by simp [limL_len])) Tryz.hi191) ?_)
 exact fun w' hw' => ⟨rfl, hw'.res.nil⟩
end Go.SL
end
section
open Go Go.Proofs Go.SL
set_option maxRecDepth 100000
namespace Go.SL
def badL (x most : Int) : Int := if most = 0 then (if x ≠ 0 then 3 else 0) else if x < 0 ∨ most ≤ x then 1 else 0
def opFaultL (o : OpL) : Int :=
 if o.kind < 1 ∨ 9 < o.kind then 2
 else if badL o.a ((limL o.kind).getD 0 0) ≠ 0 then badL o.a ((limL o.kind).getD 0 0)
 else if badL o.b ((limL o.kind).getD 1 0) ≠ 0 then badL o.b ((limL o.kind).getD 1 0)
 else if badL o.c ((limL o.kind).getD 2 0) ≠ 0 then badL o.c ((limL o.kind).getD 2 0)
 else if o.kind ≠ 1 ∧ o.n ≠ 0 then 3 else 0
theorem opFault_at (o : OpL) (hk : ¬ (o.kind < 1 ∨ 9 < o.kind)) (k : Nat) (h3 : k < 3) (hall : ∀ j, j < k → badL ([o.a, o.b, o.c].getD j 0) ((limL o.kind).getD j 0) = 0) (e : Int) (he : e ≠ 0)
  (hb : badL ([o.a, o.b, o.c].getD k 0) ((limL o.kind).getD k 0) = e) : opFaultL o = e := by
 unfold opFaultL
 rw [if_neg hk]
 have : k = 0 ∨ k = 1 ∨ k = 2 := by omega
 rcases this with rfl | rfl | rfl
 ·simp at hb; simp [hb, he]
 ·have h0 := hall 0 (by omega); simp at hb h0; simp [hb, h0, he]
 ·have h0 := hall 0 (by omega); have h1 := hall 1 (by omega); simp at hb h0 h1; simp [hb, h0, h1, he]
theorem opFault_end (o : OpL) (hk : ¬ (o.kind < 1 ∨ 9 < o.kind)) (hall : ∀ j, j < 3 → badL ([o.a, o.b, o.c].getD j 0) ((limL o.kind).getD j 0) = 0) : opFaultL o = if o.kind ≠ 1 ∧ o.n ≠ 0 then 3 else 0 := by
 unfold opFaultL
 rw [if_neg hk]
 have h0 := hall 0 (by omega); have h1 := hall 1 (by omega); have h2 := hall 2 (by omega)
 simp at h0 h1 h2
 simp [h0, h1, h2]
theorem lim_cell (k : Int) (j : Nat) (h : j < 3) : ((limL k).map (Value.int .i64))[0 + ((j : Int)).toNat * 1]? = some (.int .i64 ((limL k).getD j 0)) := by
 have hl := limL_len k
 have : (0 + ((j : Int)).toNat * 1) = j := by simp
 rw [this]
 simp [List.getD, hl, h]
theorem idx3 (a b c : Int) (j : Nat) (h : j < 3) : (#[Value.int .i64 a, Value.int .i64 b, Value.int .i64 c] : Array Value)[((j : Int)).toNat]? = some (.int .i64 ([a, b, c].getD j 0)) := by
 have : j = 0 ∨ j = 1 ∨ j = 2 := by omega
 rcases this with rfl | rfl | rfl <;> rfl
theorem lim_nonneg (k : Int) (j : Nat) (h : j < 3) : 0 ≤ (limL k).getD j 0 := by
 have : j = 0 ∨ j = 1 ∨ j = 2 := by omega
 unfold limL
 rcases this with rfl | rfl | rfl <;> (repeat' split) <;> simp
theorem bad_spec (x most : Int) (w : World) : Calls Tryz.prog 130 #[.int .i64 x, .int .i64 most] w fun e w' => e = .returned (.int .i64 (badL x most)) ∧ Res w [] [] w' := by
 refine enter0 (N := 16) Tryz.func130 rfl rfl rfl <| esr <| wa rfl rfl <| w_nil <| e_seq <| esr <| wm rfl rfl <| w_val (v_eql rfl rfl) rfl <| w_nil ?_
 refine e_condD rfl (fun h1 => ?_) (fun h1 => ?_)
 ·refine e_seq <| esr <| wm rfl rfl <| w_val (v_neq rfl rfl) rfl <| w_nil ?_
  refine e_condD rfl (fun h2 => ?_) (fun h2 => ?_)
  ·refine esr <| wa rfl rfl <| w_nil ?_
   refine e_retQ (q_ret1 rfl (.tmp rfl) ?_)
   exact fun w' hw' => ⟨by simp [badL, h1, h2], hw'.res⟩
  ·refine e_skip <| esr <| wa rfl rfl <| w_nil ?_
   refine e_retQ (q_ret1 rfl (.tmp rfl) ?_)
   exact fun w' hw' => ⟨by simp [badL, h1, h2], hw'.res⟩
 ·refine e_skip <| e_seq <| e_seq ?_
  refine e_test 15 (decide (x < 0 ∨ most ≤ x)) ?_ ?_
  ·refine e_region <| wm rfl rfl ?_
   refine w_valD (v_lss rfl rfl) rfl (fun hg1 => ?_) (fun hg1 => ?_)
   ·refine wm rfl rfl <| w_skip rfl rfl rfl rfl <| w_skip rfl rfl rfl rfl <| w_skip rfl rfl rfl rfl <| w_val (v_pickT rfl rfl) rfl <| w_nil ?_
    exact e_testEnd rfl (by simp_all) (by repeat (first | exact Sub.refl _ | exact Sub.nil _ | exact Sub.del _ _ | refine Sub.skip rfl ?_)) (fun _ hw => hw)
   ·refine wm rfl rfl <| w_want rfl rfl <| wm rfl rfl <| w_want rfl rfl <| wm rfl rfl <| w_want rfl rfl ?_
    refine w_valD (v_geq rfl rfl) rfl (fun hg5 => ?_) (fun hg5 => ?_)
    ·refine w_val (v_pickF rfl rfl) rfl <| w_nil ?_
     exact e_testEnd rfl (by simp_all) (by repeat (first | exact Sub.refl _ | exact Sub.nil _ | exact Sub.del _ _ | refine Sub.skip rfl ?_)) (fun _ hw => hw)
    ·refine w_val (v_pickF rfl rfl) rfl <| w_nil ?_
     exact e_testEnd rfl (by simp_all) (by repeat (first | exact Sub.refl _ | exact Sub.nil _ | exact Sub.del _ _ | refine Sub.skip rfl ?_)) (fun _ hw => hw)
  refine e_condD rfl (fun h2 => ?_) (fun h2 => ?_)
  ·refine esr <| wa rfl rfl <| w_nil ?_
   refine e_retQ (q_ret1 rfl (.tmp rfl) ?_)
   exact fun w' hw' => ⟨by simp [badL, h1, h2], hw'.res⟩
  ·refine e_skip <| esr <| wa rfl rfl <| w_nil ?_
   refine e_retQ (q_ret1 rfl (.tmp rfl) ?_)
   exact fun w' hw' => ⟨by simp [badL, h1, h2], hw'.res⟩
theorem op_spec (o : OpL) (w : World) : Calls Tryz.prog 115 #[opV o] w fun e w' => e = .returned (.int .i64 (opFaultL o)) ∧ Res w [] [] w' := by
 refine enter0 (N := 62) Tryz.func115 rfl rfl rfl <| esr <| w_op rfl ?_
 refine x_box rfl rfl (fun b1 => ?_)
 refine wa rfl rfl <| w_nil <| e_seq <| e_seq ?_
 refine e_test 13 (decide (o.kind < 1 ∨ 9 < o.kind)) ?_ ?_
 ·refine e_region <| w_val (v_fieldAddrB (o := 0) uT109 rfl rfl Tryz.nz3 rfl) rfl <| w_val (v_loadB 0 rfl uT3 rfl rfl rfl) rfl ?_
  refine w_valD (v_lss rfl rfl) rfl (fun hg2 => ?_) (fun hg2 => ?_)
  ·refine wm rfl rfl <| w_skip rfl rfl rfl rfl <| w_skip rfl rfl rfl rfl <| w_skip rfl rfl rfl rfl <| w_val (v_pickT rfl rfl) rfl <| w_nil ?_
   exact e_testEnd rfl (by first | (simp_all; done) | (simp_all; omega)) (by repeat (first | exact Sub.refl _ | exact Sub.nil _ | exact Sub.del _ _ | refine Sub.skip rfl ?_)) (fun _ hw => hw)
  ·refine wm rfl rfl <| w_want rfl rfl <| w_val (v_fieldAddrB (o := 0) uT109 rfl rfl Tryz.nz3 rfl) rfl <| w_want rfl rfl <| w_val (v_loadB 0 rfl uT3 rfl rfl rfl) rfl <| w_want rfl rfl ?_
   refine w_valD (v_gtr rfl rfl) rfl (fun hg6 => ?_) (fun hg6 => ?_)
   ·refine w_val (v_pickF rfl rfl) rfl <| w_nil ?_
    exact e_testEnd rfl (by first | (simp_all; done) | (simp_all; omega)) (by repeat (first | exact Sub.refl _ | exact Sub.nil _ | exact Sub.del _ _ | refine Sub.skip rfl ?_)) (fun _ hw => hw)
   ·refine w_val (v_pickF rfl rfl) rfl <| w_nil ?_
    exact e_testEnd rfl (by first | (simp_all; done) | (simp_all; omega)) (by repeat (first | exact Sub.refl _ | exact Sub.nil _ | exact Sub.del _ _ | refine Sub.skip rfl ?_)) (fun _ hw => hw)
 refine e_condD rfl (fun hk => ?_) (fun hk => ?_)
 ·refine esr <| wa rfl rfl <| w_nil ?_
  refine e_retQ (q_ret1 rfl (.tmp rfl) ?_)
  exact fun w' hw' => ⟨by simp [opFaultL, hk], hw'.res.nil⟩
 ·refine e_skip <| esr <| w_val (v_fieldAddrB (o := 0) uT109 rfl rfl Tryz.nz3 rfl) rfl <| w_val (v_loadB 0 rfl uT3 rfl rfl rfl) rfl <| w_op rfl ?_
  refine x_call0 (v := .agg ((limL o.kind).map (Value.int .i64)).toArray) rfl rfl rfl Tryz.call139 rfl (fun w hw => limits_spec o.kind (by omega) (by omega) w) ?_
  refine w_op rfl ?_
  refine x_alloc (z := .agg #[.int .i64 0, .int .i64 0, .int .i64 0]) (by intro w; exact Tryz.zeroValue191 w) rfl (fun b3 => ?_)
  refine w_op rfl ?_
  refine x_storeA 0 rfl rfl rfl Tryz.hi191 (by simp only [Tryz.cz191]; simp [limL_len]) (by simp [limL_len]; rfl) (one_ints _) ?_
  refine w_nil <| e_seq <| esr <| w_val (v_fieldAddrB (o := 1) uT109 rfl rfl Tryz.nz3 rfl) rfl <| w_val (v_loadB 1 rfl uT3 rfl rfl rfl) rfl <| w_val (v_fieldAddrB (o := 2) uT109 rfl rfl Tryz.nz3 rfl) rfl <| w_val (v_loadB 1 rfl uT3 rfl rfl rfl) rfl <| w_val (v_fieldAddrB (o := 3) uT109 rfl rfl Tryz.nz3 rfl) rfl <| w_val (v_loadB 1 rfl uT3 rfl rfl rfl) rfl ?_
  refine w_val (v_build _ rfl (by intro _; simp [Instr.build, Instr.fill, Tryz.zeroValue191, go_sem]; rfl)) rfl ?_
  refine wm rfl rfl <| w_nil <| e_block ?_
  refine e_loopK (σ := Nat) [1, 2, 3, 23] (.cons rfl (.cons rfl (.cons rfl (.cons rfl .nil)))) (fun k => [(24, .int .i64 k)]) (fun k => k ≤ 3 ∧ ∀ j, j < k → badL ([o.a, o.b, o.c].getD j 0) ((limL o.kind).getD j 0) = 0) (fun k => 3 - k) 0 ⟨by omega, by omega⟩ (by repeat first | exact .nil _ | refine .cons rfl ?_) ?_
  rintro k ⟨hk3, hall⟩
  refine esr <| w_val (v_lss rfl rfl) rfl <| w_nil <| e_seq ?_
  refine e_condD rfl (fun hlt => ?_) (fun hlt => ?_)
  ·have hnn := lim_nonneg o.kind k (by omega)
   generalize hm : (limL o.kind).getD k 0 = mk at *
   generalize hx : [o.a, o.b, o.c].getD k 0 = xk at *
   refine e_skip <| e_seq <| e_block <| esr <| wm rfl rfl ?_
   refine w_val (v_indexV uT191 uT3 rfl Tryz.hi3 Tryz.cz3 rfl rfl (by omega) (idx3 o.a o.b o.c k (by omega))) rfl ?_
   refine wa rfl rfl <| wa rfl rfl <| w_nil <| e_block <| e_seq ?_
   refine e_test 28 (decide (mk = 0 ∧ xk ≠ 0)) ?_ ?_
   ·refine e_region <| wm rfl rfl ?_
    refine w_val (v_indexAB uT191 Tryz.hi3 Tryz.cz3 rfl rfl (by first | omega | decide)) rfl ?_
    refine w_val (v_loadB 0 rfl uT3 rfl rfl (lim_cell o.kind k (by omega))) rfl ?_
    refine w_valD (v_eql rfl rfl) rfl (fun hg3 => ?_) (fun hg3 => ?_)
    ·refine wm rfl rfl <| w_want rfl rfl <| wm rfl rfl <| w_want rfl rfl ?_
     refine w_valD (v_neq rfl rfl) rfl (fun hg6 => ?_) (fun hg6 => ?_)
     ·refine w_val (v_pickT rfl rfl) rfl <| wa rfl rfl <| w_nil ?_
      exact e_testEnd rfl (by first | (simp_all; done) | (simp_all; omega)) (by repeat (first | exact Sub.refl _ | exact Sub.nil _ | exact Sub.del _ _ | refine Sub.skip rfl ?_)) (fun _ hw => hw)
     ·refine w_val (v_pickT rfl rfl) rfl <| wa rfl rfl <| w_nil ?_
      exact e_testEnd rfl (by first | (simp_all; done) | (simp_all; omega)) (by repeat (first | exact Sub.refl _ | exact Sub.nil _ | exact Sub.del _ _ | refine Sub.skip rfl ?_)) (fun _ hw => hw)
    ·refine wm rfl rfl <| w_skip rfl rfl rfl rfl <| w_skip rfl rfl rfl rfl <| w_val (v_pickF rfl rfl) rfl <| wa rfl rfl <| w_nil ?_
     exact e_testEnd rfl (by first | (simp_all; done) | (simp_all; omega)) (by repeat (first | exact Sub.refl _ | exact Sub.nil _ | exact Sub.del _ _ | refine Sub.skip rfl ?_)) (fun _ hw => hw)
   refine e_condD rfl (fun h1 => ?_) (fun h1 => ?_)
   ·refine esr <| wa rfl rfl <| w_nil ?_
    refine e_retQ (q_ret1 rfl (.tmp rfl) ?_)
    exact fun w' hw' => ⟨by rw [opFault_at o hk k (by omega) hall 3 (by omega) (by rw [hm, hx]; simp [badL, h1])], hw'.res.nil⟩
   ·refine e_seq ?_
    refine e_test 37 (decide (0 < mk ∧ (xk < 0 ∨ mk ≤ xk))) ?_ ?_
    ·refine e_region <| wm rfl rfl ?_
     refine w_val (v_indexAB uT191 Tryz.hi3 Tryz.cz3 rfl rfl (by first | omega | decide)) rfl ?_
     refine w_val (v_loadB 0 rfl uT3 rfl rfl (lim_cell o.kind k (by omega))) rfl ?_
     refine w_valD (v_gtr rfl rfl) rfl (fun hg3 => ?_) (fun hg3 => ?_)
     ·refine wm rfl rfl <| w_want rfl rfl <| wm rfl rfl <| w_want rfl rfl ?_
      refine w_valD (v_lss rfl rfl) rfl (fun hg6 => ?_) (fun hg6 => ?_)
      ·refine w_want rfl rfl <| wm rfl rfl <| w_skip rfl rfl rfl rfl <| w_skip rfl rfl rfl rfl <| w_skip rfl rfl rfl rfl <| w_skip rfl rfl rfl rfl <| w_skip rfl rfl rfl rfl <| w_want rfl rfl <| w_val (v_pickT rfl rfl) rfl <| w_val (v_pickT rfl rfl) rfl <| wa rfl rfl <| w_nil ?_
       exact e_testEnd rfl (by first | (simp_all; done) | (simp_all; omega)) (by repeat (first | exact Sub.refl _ | exact Sub.nil _ | exact Sub.del _ _ | refine Sub.skip rfl ?_)) (fun _ hw => hw)
      ·refine w_want rfl rfl <| wm rfl rfl <| w_want rfl rfl <| wm rfl rfl <| w_want rfl rfl <| wm rfl rfl <| w_want rfl rfl ?_
       refine w_val (v_indexAB uT191 Tryz.hi3 Tryz.cz3 rfl rfl (by first | omega | decide)) rfl ?_
       refine w_want rfl rfl ?_
       refine w_val (v_loadB 0 rfl uT3 rfl rfl (lim_cell o.kind k (by omega))) rfl ?_
       refine w_want rfl rfl ?_
       refine w_valD (v_geq rfl rfl) rfl (fun hg12 => ?_) (fun hg12 => ?_)
       ·refine w_want rfl rfl <| w_val (v_pickF rfl rfl) rfl <| w_val (v_pickT rfl rfl) rfl <| wa rfl rfl <| w_nil ?_
        exact e_testEnd rfl (by first | (simp_all; done) | (simp_all; omega)) (by repeat (first | exact Sub.refl _ | exact Sub.nil _ | exact Sub.del _ _ | refine Sub.skip rfl ?_)) (fun _ hw => hw)
       ·refine w_want rfl rfl <| w_val (v_pickF rfl rfl) rfl <| w_val (v_pickT rfl rfl) rfl <| wa rfl rfl <| w_nil ?_
        exact e_testEnd rfl (by first | (simp_all; done) | (simp_all; omega)) (by repeat (first | exact Sub.refl _ | exact Sub.nil _ | exact Sub.del _ _ | refine Sub.skip rfl ?_)) (fun _ hw => hw)
     ·refine wm rfl rfl <| w_skip rfl rfl rfl rfl <| w_skip rfl rfl rfl rfl <| w_skip rfl rfl rfl rfl <| w_skip rfl rfl rfl rfl <| w_skip rfl rfl rfl rfl <| w_skip rfl rfl rfl rfl <| w_skip rfl rfl rfl rfl <| w_skip rfl rfl rfl rfl <| w_skip rfl rfl rfl rfl <| w_val (v_pickF rfl rfl) rfl <| wa rfl rfl <| w_nil ?_
      exact e_testEnd rfl (by first | (simp_all; done) | (simp_all; omega)) (by repeat (first | exact Sub.refl _ | exact Sub.nil _ | exact Sub.del _ _ | refine Sub.skip rfl ?_)) (fun _ hw => hw)
    refine e_condD rfl (fun h2 => ?_) (fun h2 => ?_)
    ·refine esr <| wa rfl rfl <| w_nil ?_
     refine e_retQ (q_ret1 rfl (.tmp rfl) ?_)
     exact fun w' hw' => ⟨by rw [opFault_at o hk k (by omega) hall 1 (by omega) (by rw [hm, hx]; simp only [badL]; rw [if_neg (by omega), if_pos h2.2])], hw'.res.nil⟩
    ·refine e_skip <| e_blk <| e_blk <| e_region ?_
     refine w_val (v_add rfl rfl (by omega)) rfl ?_
     refine wm rfl rfl <| w_nil ?_
     exact e_round (k + 1) (⟨by omega, fun j hj => by rcases (by omega : j < k ∨ j = k) with h | rfl; exact hall j h; rw [hm, hx]; simp only [badL]; split <;> simp_all <;> omega⟩) (by omega) (by repeat first | exact .nil _ | refine .cons rfl ?_) (fun _ hw => hw)
  ·refine e_exit rfl <| e_seq <| e_seq ?_
   obtain rfl : k = 3 := by omega
   refine e_test 61 (decide (o.kind ≠ 1 ∧ o.n ≠ 0)) ?_ ?_
   ·refine e_region <| w_val (v_fieldAddrB (o := 0) uT109 rfl rfl Tryz.nz3 rfl) rfl <| w_val (v_loadB 1 rfl uT3 rfl rfl rfl) rfl ?_
    refine w_valD (v_neq rfl rfl) rfl (fun hg2 => ?_) (fun hg2 => ?_)
    ·refine wm rfl rfl <| w_want rfl rfl <| w_val (v_fieldAddrB (o := 4) uT109 rfl rfl Tryz.nz2 rfl) rfl <| w_want rfl rfl <| w_val (v_loadB 1 rfl uT2 rfl rfl rfl) rfl <| w_want rfl rfl ?_
     refine w_valD (v_neq rfl rfl) rfl (fun hg6 => ?_) (fun hg6 => ?_)
     ·refine w_val (v_pickT rfl rfl) rfl <| w_nil ?_
      exact e_testEnd rfl (by first | (simp_all; done) | (simp_all; omega)) (by repeat (first | exact Sub.refl _ | exact Sub.nil _ | exact Sub.del _ _ | refine Sub.skip rfl ?_)) (fun _ hw => hw)
     ·refine w_val (v_pickT rfl rfl) rfl <| w_nil ?_
      exact e_testEnd rfl (by first | (simp_all; done) | (simp_all; omega)) (by repeat (first | exact Sub.refl _ | exact Sub.nil _ | exact Sub.del _ _ | refine Sub.skip rfl ?_)) (fun _ hw => hw)
    ·refine wm rfl rfl <| w_skip rfl rfl rfl rfl <| w_skip rfl rfl rfl rfl <| w_skip rfl rfl rfl rfl <| w_val (v_pickF rfl rfl) rfl <| w_nil ?_
     exact e_testEnd rfl (by first | (simp_all; done) | (simp_all; omega)) (by repeat (first | exact Sub.refl _ | exact Sub.nil _ | exact Sub.del _ _ | refine Sub.skip rfl ?_)) (fun _ hw => hw)
   refine e_condD rfl (fun h1 => ?_) (fun h1 => ?_)
   ·refine esr <| wa rfl rfl <| w_nil ?_
    refine e_retQ (q_ret1 rfl (.tmp rfl) ?_)
    exact fun w' hw' => ⟨by rw [opFault_end o hk hall, if_pos h1], hw'.res.nil⟩
   ·refine e_skip <| esr <| wa rfl rfl <| w_nil ?_
    refine e_retQ (q_ret1 rfl (.tmp rfl) ?_)
    exact fun w' hw' => ⟨by rw [opFault_end o hk hall, if_neg h1], hw'.res.nil⟩
end Go.SL
end
section
open Go Go.Proofs Go.SL
set_option maxRecDepth 100000
namespace Go.SL
def faultV (p : Int × Int) : Value := .agg #[.int .i64 p.1, .int .i64 p.2]
theorem F_spec (a b : Int) (w : World) : Calls Tryz.prog 15 #[.int .i64 a, .int .i64 b] w fun e w' => e = .returned (faultV (a, b)) ∧ Res w [] [] w' := by
 refine enter0 (N := 8) Tryz.func15 rfl rfl rfl <| esr <| w_op rfl ?_
 refine x_alloc (z := .agg #[.int .i64 0, .int .i64 0]) (by intro w; exact Tryz.zeroValue42 w) rfl (fun b4 => ?_)
 refine wsr <| wm rfl rfl <| wm rfl rfl ?_
 refine w_val (v_build _ rfl (by intro _; simp [Instr.build, Instr.fill, Tryz.zeroValue42, go_sem]; rfl)) rfl ?_
 refine w_op rfl ?_
 refine x_storeA 0 rfl rfl rfl Tryz.hi42 Tryz.cz42 rfl (by first | (simp [Value.oneCell', opCells]; done) | assumption | exact one_ints _ | exact one_resCells _ _ | exact one_slotC _) ?_
 refine w_nil ?_
 refine e_retQ (q_ret1 rfl (ResV.agg 0 rfl rfl (by rw [isAggD, uT42]; rfl) (Tryz.cz42) Tryz.hi42) ?_)
 exact fun w' hw' => ⟨rfl, hw'.res.nil⟩
theorem lims_num {k : Int} (h : k = 1 ∨ k = 8) : limL k = [4, 0, 0] := by unfold limL; rw [if_pos h]
theorem lims_load {k : Int} (h : k = 2) : limL k = [4, 10, 0] := by subst h; rfl
theorem lims_store {k : Int} (h : k = 7) : limL k = [10, 4, 0] := by subst h; rfl
theorem lims_skip {k : Int} (h : k = 9) : limL k = [4, 14, 0] := by subst h; rfl
theorem lims_ar {k : Int} (h : k = 3 ∨ k = 4 ∨ k = 5 ∨ k = 6) : limL k = [4, 4, 4] := by rcases h with rfl | rfl | rfl | rfl <;> rfl
theorem OpFault_spec (o : OpL) (w : World) : Calls Tryz.prog 96 #[opV o] w fun e w' => e = .returned (.int .i64 (opFaultL o)) ∧ Res w [] [] w' := by
 have hk : (o.kind < 1 ∨ 9 < o.kind) ∨ o.kind = 1 ∨ o.kind = 8 ∨ o.kind = 2 ∨ o.kind = 3 ∨ o.kind = 4 ∨ o.kind = 5 ∨ o.kind = 6 ∨ o.kind = 7 ∨ o.kind = 9 := by omega
 refine enter0 (N := 54) Tryz.func96 rfl rfl rfl <| esr <| w_op rfl ?_
 refine x_box rfl rfl (fun b1 => ?_)
 refine wa rfl rfl <| wsr <| wa rfl rfl <| wa rfl rfl <| wa rfl rfl <| w_nil <| e_seq <| esr <| w_val (v_fieldAddrB (o := 0) uT109 rfl rfl Tryz.nz3 rfl) rfl <| w_val (v_loadB 0 rfl uT3 rfl rfl rfl) rfl <| w_nil ?_
 refine e_cutK (σ := Unit) [1, 2] (.cons rfl (.cons rfl .nil)) (fun _ => [(3, .int .i64 ((limL o.kind).getD 0 0)), (4, .int .i64 ((limL o.kind).getD 1 0)), (5, .int .i64 ((limL o.kind).getD 2 0))]) (fun _ => ¬ (o.kind < 1 ∨ 9 < o.kind)) ?_ ?_
 ·rcases hk with hk | hk | hk | hk | hk | hk | hk | hk | hk | hk
  ·refine e_block <| e_seq <| esr <| w_val (v_eql rfl rfl) rfl <| wa rfl rfl <| w_nil ?_
   refine e_condDF rfl (by omega) ?_
   refine e_region <| w_val (v_eql rfl rfl) rfl <| wa rfl rfl <| w_nil ?_
   refine e_condDF rfl (by omega) ?_
   refine esr <| w_val (v_eql rfl rfl) rfl <| wa rfl rfl <| w_nil ?_
   refine e_condDF rfl (by omega) ?_
   refine e_seq <| esr <| w_val (v_eql rfl rfl) rfl <| wa rfl rfl <| w_nil ?_
   refine e_condDF rfl (by omega) ?_
   refine esr <| w_val (v_eql rfl rfl) rfl <| wa rfl rfl <| w_nil ?_
   refine e_condDF rfl (by omega) ?_
   refine esr <| w_val (v_eql rfl rfl) rfl <| wa rfl rfl <| w_nil ?_
   refine e_condDF rfl (by omega) ?_
   refine e_region <| w_val (v_eql rfl rfl) rfl <| wa rfl rfl <| w_nil ?_
   refine e_condDF rfl (by omega) ?_
   refine esr <| w_val (v_eql rfl rfl) rfl <| wa rfl rfl <| w_nil ?_
   refine e_condDF rfl (by omega) ?_
   refine esr <| w_val (v_eql rfl rfl) rfl <| wa rfl rfl <| w_nil ?_
   refine e_condDF rfl (by omega) ?_
   refine esr <| wa rfl rfl <| w_nil ?_
   refine e_retQ (q_ret1 rfl (.tmp rfl) ?_)
   exact fun w' hw' => ⟨by simp [opFaultL, hk], hw'.res.nil⟩
  ·refine e_block <| e_seq <| esr <| w_val (v_eql rfl rfl) rfl <| wa rfl rfl <| w_nil ?_
   refine e_condDT rfl (by omega) ?_
   refine e_skip ?_
   refine e_condDT rfl (by omega) ?_
   refine e_region <| wa rfl rfl <| w_nil <| e_blk ?_
   rw [lims_num (.inl hk)]
   exact e_cutEnd (()) (by omega) (by repeat first | exact .nil _ | refine .cons rfl ?_) (fun _ hw => hw)
  ·refine e_block <| e_seq <| esr <| w_val (v_eql rfl rfl) rfl <| wa rfl rfl <| w_nil ?_
   refine e_condDF rfl (by omega) ?_
   refine e_region <| w_val (v_eql rfl rfl) rfl <| wa rfl rfl <| w_nil ?_
   refine e_condDT rfl (by omega) ?_
   refine e_region <| wa rfl rfl <| w_nil <| e_blk ?_
   rw [lims_num (.inr hk)]
   exact e_cutEnd (()) (by omega) (by repeat first | exact .nil _ | refine .cons rfl ?_) (fun _ hw => hw)
  ·refine e_block <| e_seq <| esr <| w_val (v_eql rfl rfl) rfl <| wa rfl rfl <| w_nil ?_
   refine e_condDF rfl (by omega) ?_
   refine e_region <| w_val (v_eql rfl rfl) rfl <| wa rfl rfl <| w_nil ?_
   refine e_condDF rfl (by omega) ?_
   refine esr <| w_val (v_eql rfl rfl) rfl <| wa rfl rfl <| w_nil ?_
   refine e_condDT rfl (by omega) ?_
   refine e_region <| wa rfl rfl <| wa rfl rfl <| w_nil <| e_blk ?_
   rw [lims_load hk]
   exact e_cutEnd (()) (by omega) (by repeat first | exact .nil _ | refine .cons rfl ?_) (fun _ hw => hw)
  ·refine e_block <| e_seq <| esr <| w_val (v_eql rfl rfl) rfl <| wa rfl rfl <| w_nil ?_
   refine e_condDF rfl (by omega) ?_
   refine e_region <| w_val (v_eql rfl rfl) rfl <| wa rfl rfl <| w_nil ?_
   refine e_condDF rfl (by omega) ?_
   refine esr <| w_val (v_eql rfl rfl) rfl <| wa rfl rfl <| w_nil ?_
   refine e_condDF rfl (by omega) ?_
   refine e_seq <| esr <| w_val (v_eql rfl rfl) rfl <| wa rfl rfl <| w_nil ?_
   refine e_condDT rfl (by omega) ?_
   refine e_skip ?_
   refine e_condDT rfl (by omega) ?_
   refine e_region <| wa rfl rfl <| wa rfl rfl <| wa rfl rfl <| w_nil <| e_blk ?_
   rw [lims_ar (by omega)]
   exact e_cutEnd (()) (by omega) (by repeat first | exact .nil _ | refine .cons rfl ?_) (fun _ hw => hw)
  ·refine e_block <| e_seq <| esr <| w_val (v_eql rfl rfl) rfl <| wa rfl rfl <| w_nil ?_
   refine e_condDF rfl (by omega) ?_
   refine e_region <| w_val (v_eql rfl rfl) rfl <| wa rfl rfl <| w_nil ?_
   refine e_condDF rfl (by omega) ?_
   refine esr <| w_val (v_eql rfl rfl) rfl <| wa rfl rfl <| w_nil ?_
   refine e_condDF rfl (by omega) ?_
   refine e_seq <| esr <| w_val (v_eql rfl rfl) rfl <| wa rfl rfl <| w_nil ?_
   refine e_condDF rfl (by omega) ?_
   refine esr <| w_val (v_eql rfl rfl) rfl <| wa rfl rfl <| w_nil ?_
   refine e_condDT rfl (by omega) ?_
   refine e_skip ?_
   refine e_condDT rfl (by omega) ?_
   refine e_region <| wa rfl rfl <| wa rfl rfl <| wa rfl rfl <| w_nil <| e_blk ?_
   rw [lims_ar (by omega)]
   exact e_cutEnd (()) (by omega) (by repeat first | exact .nil _ | refine .cons rfl ?_) (fun _ hw => hw)
  ·refine e_block <| e_seq <| esr <| w_val (v_eql rfl rfl) rfl <| wa rfl rfl <| w_nil ?_
   refine e_condDF rfl (by omega) ?_
   refine e_region <| w_val (v_eql rfl rfl) rfl <| wa rfl rfl <| w_nil ?_
   refine e_condDF rfl (by omega) ?_
   refine esr <| w_val (v_eql rfl rfl) rfl <| wa rfl rfl <| w_nil ?_
   refine e_condDF rfl (by omega) ?_
   refine e_seq <| esr <| w_val (v_eql rfl rfl) rfl <| wa rfl rfl <| w_nil ?_
   refine e_condDF rfl (by omega) ?_
   refine esr <| w_val (v_eql rfl rfl) rfl <| wa rfl rfl <| w_nil ?_
   refine e_condDF rfl (by omega) ?_
   refine esr <| w_val (v_eql rfl rfl) rfl <| wa rfl rfl <| w_nil ?_
   refine e_condDT rfl (by omega) ?_
   refine e_skip ?_
   refine e_condDT rfl (by omega) ?_
   refine e_region <| wa rfl rfl <| wa rfl rfl <| wa rfl rfl <| w_nil <| e_blk ?_
   rw [lims_ar (by omega)]
   exact e_cutEnd (()) (by omega) (by repeat first | exact .nil _ | refine .cons rfl ?_) (fun _ hw => hw)
  ·refine e_block <| e_seq <| esr <| w_val (v_eql rfl rfl) rfl <| wa rfl rfl <| w_nil ?_
   refine e_condDF rfl (by omega) ?_
   refine e_region <| w_val (v_eql rfl rfl) rfl <| wa rfl rfl <| w_nil ?_
   refine e_condDF rfl (by omega) ?_
   refine esr <| w_val (v_eql rfl rfl) rfl <| wa rfl rfl <| w_nil ?_
   refine e_condDF rfl (by omega) ?_
   refine e_seq <| esr <| w_val (v_eql rfl rfl) rfl <| wa rfl rfl <| w_nil ?_
   refine e_condDF rfl (by omega) ?_
   refine esr <| w_val (v_eql rfl rfl) rfl <| wa rfl rfl <| w_nil ?_
   refine e_condDF rfl (by omega) ?_
   refine esr <| w_val (v_eql rfl rfl) rfl <| wa rfl rfl <| w_nil ?_
   refine e_condDF rfl (by omega) ?_
   refine e_region <| w_val (v_eql rfl rfl) rfl <| wa rfl rfl <| w_nil ?_
   refine e_condDT rfl (by omega) ?_
   refine e_region <| wa rfl rfl <| wa rfl rfl <| wa rfl rfl <| w_nil <| e_blk ?_
   rw [lims_ar (by omega)]
   exact e_cutEnd (()) (by omega) (by repeat first | exact .nil _ | refine .cons rfl ?_) (fun _ hw => hw)
  ·refine e_block <| e_seq <| esr <| w_val (v_eql rfl rfl) rfl <| wa rfl rfl <| w_nil ?_
   refine e_condDF rfl (by omega) ?_
   refine e_region <| w_val (v_eql rfl rfl) rfl <| wa rfl rfl <| w_nil ?_
   refine e_condDF rfl (by omega) ?_
   refine esr <| w_val (v_eql rfl rfl) rfl <| wa rfl rfl <| w_nil ?_
   refine e_condDF rfl (by omega) ?_
   refine e_seq <| esr <| w_val (v_eql rfl rfl) rfl <| wa rfl rfl <| w_nil ?_
   refine e_condDF rfl (by omega) ?_
   refine esr <| w_val (v_eql rfl rfl) rfl <| wa rfl rfl <| w_nil ?_
   refine e_condDF rfl (by omega) ?_
   refine esr <| w_val (v_eql rfl rfl) rfl <| wa rfl rfl <| w_nil ?_
   refine e_condDF rfl (by omega) ?_
   refine e_region <| w_val (v_eql rfl rfl) rfl <| wa rfl rfl <| w_nil ?_
   refine e_condDF rfl (by omega) ?_
   refine esr <| w_val (v_eql rfl rfl) rfl <| wa rfl rfl <| w_nil ?_
   refine e_condDT rfl (by omega) ?_
   refine e_region <| wa rfl rfl <| wa rfl rfl <| w_nil <| e_blk ?_
   rw [lims_store hk]
   exact e_cutEnd (()) (by omega) (by repeat first | exact .nil _ | refine .cons rfl ?_) (fun _ hw => hw)
  ·refine e_block <| e_seq <| esr <| w_val (v_eql rfl rfl) rfl <| wa rfl rfl <| w_nil ?_
   refine e_condDF rfl (by omega) ?_
   refine e_region <| w_val (v_eql rfl rfl) rfl <| wa rfl rfl <| w_nil ?_
   refine e_condDF rfl (by omega) ?_
   refine esr <| w_val (v_eql rfl rfl) rfl <| wa rfl rfl <| w_nil ?_
   refine e_condDF rfl (by omega) ?_
   refine e_seq <| esr <| w_val (v_eql rfl rfl) rfl <| wa rfl rfl <| w_nil ?_
   refine e_condDF rfl (by omega) ?_
   refine esr <| w_val (v_eql rfl rfl) rfl <| wa rfl rfl <| w_nil ?_
   refine e_condDF rfl (by omega) ?_
   refine esr <| w_val (v_eql rfl rfl) rfl <| wa rfl rfl <| w_nil ?_
   refine e_condDF rfl (by omega) ?_
   refine e_region <| w_val (v_eql rfl rfl) rfl <| wa rfl rfl <| w_nil ?_
   refine e_condDF rfl (by omega) ?_
   refine esr <| w_val (v_eql rfl rfl) rfl <| wa rfl rfl <| w_nil ?_
   refine e_condDF rfl (by omega) ?_
   refine esr <| w_val (v_eql rfl rfl) rfl <| wa rfl rfl <| w_nil ?_
   refine e_condDT rfl (by omega) ?_
   refine e_region <| wa rfl rfl <| wa rfl rfl <| w_nil <| e_blk ?_
   rw [lims_skip hk]
   exact e_cutEnd (()) (by omega) (by repeat first | exact .nil _ | refine .cons rfl ?_) (fun _ hw => hw)
 ·rintro - hk'
  refine e_seq <| esr <| w_val (v_fieldAddrB (o := 1) uT109 rfl rfl Tryz.nz3 rfl) rfl <| w_val (v_loadB 0 rfl uT3 rfl rfl rfl) rfl <| wm rfl rfl <| w_op rfl ?_
  refine x_call0 (v := .int .i64 (badL o.a ((limL o.kind).getD 0 0))) rfl rfl rfl Tryz.call130 rfl (fun w hw => bad_spec _ _ w) ?_
  refine wa rfl rfl <| wsr <| wm rfl rfl <| w_val (v_neq rfl rfl) rfl <| w_nil ?_
  refine e_condD rfl (fun h1 => ?_) (fun h1 => ?_)
  ·refine esr <| wm rfl rfl <| wa rfl rfl <| w_nil ?_
   refine e_retQ (q_ret1 rfl (.tmp rfl) ?_)
   exact fun w' hw' => ⟨by simp only [opFaultL]; rw [if_neg hk', if_pos h1], hw'.res.nil⟩
  ·refine e_skip <| e_seq <| esr <| w_val (v_fieldAddrB (o := 2) uT109 rfl rfl Tryz.nz3 rfl) rfl <| w_val (v_loadB 0 rfl uT3 rfl rfl rfl) rfl <| wm rfl rfl <| w_op rfl ?_
   refine x_call0 (v := .int .i64 (badL o.b ((limL o.kind).getD 1 0))) rfl rfl rfl Tryz.call130 rfl (fun w hw => bad_spec _ _ w) ?_
   refine wa rfl rfl <| wsr <| wm rfl rfl <| w_val (v_neq rfl rfl) rfl <| w_nil ?_
   refine e_condD rfl (fun h2 => ?_) (fun h2 => ?_)
   ·refine esr <| wm rfl rfl <| wa rfl rfl <| w_nil ?_
    refine e_retQ (q_ret1 rfl (.tmp rfl) ?_)
    exact fun w' hw' => ⟨by simp only [opFaultL]; rw [if_neg hk', if_neg h1, if_pos h2], hw'.res.nil⟩
   ·refine e_skip <| e_seq <| esr <| w_val (v_fieldAddrB (o := 3) uT109 rfl rfl Tryz.nz3 rfl) rfl <| w_val (v_loadB 0 rfl uT3 rfl rfl rfl) rfl <| wm rfl rfl <| w_op rfl ?_
    refine x_call0 (v := .int .i64 (badL o.c ((limL o.kind).getD 2 0))) rfl rfl rfl Tryz.call130 rfl (fun w hw => bad_spec _ _ w) ?_
    refine wa rfl rfl <| wsr <| wm rfl rfl <| w_val (v_neq rfl rfl) rfl <| w_nil ?_
    refine e_condD rfl (fun h3 => ?_) (fun h3 => ?_)
    ·refine esr <| wm rfl rfl <| wa rfl rfl <| w_nil ?_
     refine e_retQ (q_ret1 rfl (.tmp rfl) ?_)
     exact fun w' hw' => ⟨by simp only [opFaultL]; rw [if_neg hk', if_neg h1, if_neg h2, if_pos h3], hw'.res.nil⟩
    ·refine e_skip <| e_seq <| e_seq ?_
     refine e_test 53 (decide (o.kind ≠ 1 ∧ o.n ≠ 0)) ?_ ?_
     ·refine e_region <| w_val (v_fieldAddrB (o := 4) uT109 rfl rfl Tryz.nz2 rfl) rfl <| w_val (v_loadB 0 rfl uT2 rfl rfl rfl) rfl ?_
      refine w_valD (v_neq rfl rfl) rfl (fun hg2 => ?_) (fun hg2 => ?_)
      ·refine wm rfl rfl <| w_want rfl rfl <| w_val (v_fieldAddrB (o := 0) uT109 rfl rfl Tryz.nz3 rfl) rfl <| w_want rfl rfl <| w_val (v_loadB 0 rfl uT3 rfl rfl rfl) rfl <| w_want rfl rfl ?_
       refine w_valD (v_neq rfl rfl) rfl (fun hg6 => ?_) (fun hg6 => ?_)
       ·refine w_val (v_pickT rfl rfl) rfl <| w_nil ?_
        exact e_testEnd rfl (by first | (simp_all; done) | (simp_all; omega)) (by repeat (first | exact Sub.refl _ | exact Sub.nil _ | exact Sub.del _ _ | refine Sub.skip rfl ?_)) (fun _ hw => hw)
       ·refine w_val (v_pickT rfl rfl) rfl <| w_nil ?_
        exact e_testEnd rfl (by first | (simp_all; done) | (simp_all; omega)) (by repeat (first | exact Sub.refl _ | exact Sub.nil _ | exact Sub.del _ _ | refine Sub.skip rfl ?_)) (fun _ hw => hw)
      ·refine wm rfl rfl <| w_skip rfl rfl rfl rfl <| w_skip rfl rfl rfl rfl <| w_skip rfl rfl rfl rfl <| w_val (v_pickF rfl rfl) rfl <| w_nil ?_
       exact e_testEnd rfl (by first | (simp_all; done) | (simp_all; omega)) (by repeat (first | exact Sub.refl _ | exact Sub.nil _ | exact Sub.del _ _ | refine Sub.skip rfl ?_)) (fun _ hw => hw)
     refine e_condD rfl (fun h4 => ?_) (fun h4 => ?_)
     ·refine esr <| wa rfl rfl <| w_nil ?_
      refine e_retQ (q_ret1 rfl (.tmp rfl) ?_)
      exact fun w' hw' => ⟨by simp only [opFaultL]; rw [if_neg hk', if_neg h1, if_neg h2, if_neg h3, if_pos h4], hw'.res.nil⟩
     ·refine e_skip <| esr <| wa rfl rfl <| w_nil ?_
      refine e_retQ (q_ret1 rfl (.tmp rfl) ?_)
      exact fun w' hw' => ⟨by simp only [opFaultL]; rw [if_neg hk', if_neg h1, if_neg h2, if_neg h3, if_neg h4], hw'.res.nil⟩
end Go.SL
end
section
open Go Go.Proofs Go.SL
set_option maxRecDepth 100000
namespace Go.SL
def opCheckL (total i : Nat) (st : Bool) (o : OpL) : Int :=
 if opFaultL o ≠ 0 then opFaultL o else if o.kind = 8 ∧ st = true then 5 else if o.kind = 9 ∧ (o.b < 1 ∨ (total : Int) - i - 1 < o.b) then 1 else 0
def checkFrom (total : Nat) : Nat → Bool → DeedL → Int × Int
 | _, _, [] => (0, 0)
 | i, st, o :: rest => if opCheckL total i st o ≠ 0 then (opCheckL total i st o, i) else checkFrom total (i + 1) (st || decide (o.kind = 7)) rest
def checkL (d : DeedL) : Int × Int := if 14 < d.length then (4, -1) else checkFrom d.length 0 false d
theorem checkFrom_hit {total i : Nat} {st : Bool} {d : DeedL} (h : i < d.length) (hc : opCheckL total i st d[i] ≠ 0) : checkFrom total i st (d.drop i) = (opCheckL total i st d[i], (i : Int)) := by
 rw [List.drop_eq_getElem_cons h]
 simp only [checkFrom]
 rw [if_pos hc]
theorem checkFrom_next {total i : Nat} {st : Bool} {d : DeedL} (h : i < d.length) (hc : opCheckL total i st d[i] = 0) : checkFrom total i st (d.drop i) = checkFrom total (i + 1) (st || decide (d[i].kind = 7)) (d.drop (i + 1)) := by
 rw [List.drop_eq_getElem_cons h]
 simp only [checkFrom]
 rw [if_neg (by simp [hc])]
theorem checkFrom_end {total : Nat} {st : Bool} {d : DeedL} : checkFrom total d.length st (d.drop d.length) = (0, 0) := by simp [checkFrom]
theorem IsDeed.cells {c : View} {A : Option Addr} {d : DeedL} (hc : d ≠ [] → ∃ ad, A = some ad ∧ Cells c ad (deedCells d)) {k : Nat} (hk : k < d.length) : ∃ ad, A = some ad ∧ Cells c (ad.add (k * 5)) (opCells d[k]) := by
 obtain ⟨ad, h1, h2⟩ := hc (by intro e; subst e; simp at hk)
 exact ⟨ad, h1, deed_op h2 (by simp [hk])⟩
theorem check_spec (v : Value) (d : DeedL) (w : World) (h : IsDeed w.cell? v d) : Calls Tryz.prog 75 #[v] w fun e w' => e = .returned (faultV (checkL d)) ∧ Res w [] [] w' := by
 rw [← off_none w] at h
 obtain ⟨A, kp, rfl, hle, hc⟩ := h.form
 refine enter0 (N := 62) Tryz.func75 rfl rfl rfl <| esr <| w_op rfl ?_
 refine x_alloc (z := .agg #[.int .i64 0, .int .i64 0]) (by intro w; exact Tryz.zeroValue42 w) rfl (fun b2 => ?_)
 refine w_nil <| e_seq <| esr <| wm rfl rfl <| w_val (v_lenS uT80 rfl) rfl <| w_val (v_gtr rfl rfl) rfl <| w_nil ?_
 refine e_condD rfl (fun h14 => ?_) (fun h14 => ?_)
 ·refine esr ?_
  refine w_val (v_build _ rfl (by intro _; simp [Instr.build, Instr.fill, Tryz.zeroValue42, go_sem]; rfl)) rfl ?_
  refine w_op rfl ?_
  refine x_storeA 0 rfl rfl rfl Tryz.hi42 Tryz.cz42 rfl (by first | (simp [Value.oneCell', opCells]; done) | assumption | exact one_ints _ | exact one_resCells _ _ | exact one_slotC _) ?_
  refine w_nil ?_
  refine e_retQ (q_ret1 rfl (ResV.agg 0 rfl rfl (by rw [isAggD, uT42]; rfl) (Tryz.cz42) Tryz.hi42) ?_)
  exact fun w' hw' => ⟨by simp only [checkL]; rw [if_pos (by omega)]; rfl, hw'.res.nil⟩
 ·refine e_skip <| esr <| wa rfl rfl <| w_nil <| e_seq <| esr <| wm rfl rfl <| w_val (v_lenS uT80 rfl) rfl <| wm rfl rfl <| w_nil <| e_block ?_
  refine e_loopK (σ := Nat × Bool) [0, 2, 11, 12] (.cons rfl (.cons rfl (.cons rfl (.cons rfl .nil)))) (fun s => [(13, .int .i64 s.1), (3, .bool s.2)]) (fun s => s.1 ≤ d.length ∧ checkFrom d.length s.1 s.2 (d.drop s.1) = checkL d) (fun s => d.length - s.1) (0, false) ⟨by simp, by simp only [checkL]; rw [if_neg (by omega)]; rfl⟩ (by repeat first | exact .nil _ | refine .cons rfl ?_) ?_
  rintro ⟨k, st⟩ ⟨hk, hrel⟩
  dsimp only at hk hrel ⊢
  refine esr <| w_val (v_lss rfl rfl) rfl <| w_nil <| e_seq ?_
  refine e_condD rfl (fun hlt => ?_) (fun hlt => ?_)
  ·have hlt' : k < d.length := by omega
   obtain ⟨ad, rfl, hop⟩ := IsDeed.cells hc hlt'
   have hnx := fun hc => checkFrom_next (total := d.length) (i := k) (st := st) (d := d) hlt' hc
   have hhit := fun hc => checkFrom_hit (total := d.length) (i := k) (st := st) (d := d) hlt' hc
   rw [hrel] at hnx hhit
   generalize ho : d[k] = o at *
   refine e_skip <| e_seq <| e_block <| esr <| wm rfl rfl ?_
   refine w_val (v_indexS uT80 Tryz.hi109 Tryz.cz109 rfl rfl (by first | omega | decide)) rfl ?_
   refine w_val (v_loadON uT109 rfl Tryz.hi109 rfl (hop) Tryz.cz109) rfl <| w_op rfl ?_
   refine x_alloc (z := .agg #[.int .i64 0, .int .i64 0, .int .i64 0, .int .i64 0, .int .i64 0]) (by intro w; exact Tryz.zeroValue109 w) rfl (fun b5 => ?_)
   refine wa rfl rfl <| w_op rfl ?_
   refine x_storeA 0 rfl rfl rfl Tryz.hi109 Tryz.cz109 rfl (by first | (simp [Value.oneCell', opCells]; done) | assumption | exact one_ints _ | exact one_resCells _ _ | exact one_slotC _) ?_
   refine wsr <| w_val (v_loadBA 0 rfl uT109 rfl Tryz.hi109 Tryz.cz109 rfl) rfl <| w_op rfl ?_
   refine x_call0 (v := .int .i64 (opFaultL o)) rfl rfl rfl Tryz.call115 rfl (fun w hw => op_spec o w) ?_
   refine wa rfl rfl <| w_nil <| e_seq ?_
   refine e_cutK (σ := Unit) [0, 2, 3, 4, 5, 11, 12, 13] (.cons rfl (.cons rfl (.cons rfl (.cons rfl (.cons rfl (.cons rfl (.cons rfl (.cons rfl .nil)))))))) (fun _ => [(6, .int .i64 (opCheckL d.length k st o))]) (fun _ => True) ?_ ?_
   ·refine e_block <| esr <| wm rfl rfl <| w_val (v_neq rfl rfl) rfl <| wa rfl rfl <| w_nil ?_
    refine e_condD rfl (fun h1 => ?_) (fun h1 => ?_)
    ·refine e_skip <| e_blk ?_
     have : opCheckL d.length k st o = opFaultL o := by simp only [opCheckL]; rw [if_pos h1]
     rw [this]
     exact e_cutEnd (()) (trivial) (by repeat first | exact .nil _ | refine .cons rfl ?_) (fun _ hw => hw)
    ·refine e_seq ?_
     refine e_test 23 (decide (o.kind = 8 ∧ st = true)) ?_ ?_
     ·refine e_region <| w_val (v_fieldAddrB (o := 0) uT109 rfl rfl Tryz.nz3 rfl) rfl <| w_val (v_loadB 0 rfl uT3 rfl rfl rfl) rfl ?_
      refine w_valD (v_eql rfl rfl) rfl (fun hg2 => ?_) (fun hg2 => ?_)
      ·refine wm rfl rfl <| w_want rfl rfl <| wm rfl rfl <| w_val (v_pickT rfl rfl) rfl <| wa rfl rfl <| w_nil ?_
       exact e_testEnd rfl (by first | (simp_all; done) | (simp_all; omega)) (by repeat (first | exact Sub.refl _ | exact Sub.nil _ | exact Sub.del _ _ | refine Sub.skip rfl ?_)) (fun _ hw => hw)
      ·refine wm rfl rfl <| w_skip rfl rfl rfl rfl <| w_val (v_pickF rfl rfl) rfl <| wa rfl rfl <| w_nil ?_
       exact e_testEnd rfl (by first | (simp_all; done) | (simp_all; omega)) (by repeat (first | exact Sub.refl _ | exact Sub.nil _ | exact Sub.del _ _ | refine Sub.skip rfl ?_)) (fun _ hw => hw)
     refine e_condD rfl (fun h2 => ?_) (fun h2 => ?_)
     ·refine e_region <| wa rfl rfl <| w_nil <| e_blk ?_
      have : opCheckL d.length k st o = 5 := by simp only [opCheckL]; rw [if_neg h1, if_pos h2]
      rw [this]
      exact e_cutEnd (()) (trivial) (by repeat first | exact .nil _ | refine .cons rfl ?_) (fun _ hw => hw)
     ·refine e_seq ?_
      refine e_test 30 (decide (o.kind = 9 ∧ (o.b < 1 ∨ (d.length : Int) - k - 1 < o.b))) ?_ ?_
      ·refine e_region <| w_val (v_fieldAddrB (o := 0) uT109 rfl rfl Tryz.nz3 rfl) rfl <| w_val (v_loadB 0 rfl uT3 rfl rfl rfl) rfl ?_
       refine w_valD (v_eql rfl rfl) rfl (fun hg2 => ?_) (fun hg2 => ?_)
       ·refine wm rfl rfl <| w_want rfl rfl <| w_val (v_fieldAddrB (o := 2) uT109 rfl rfl Tryz.nz3 rfl) rfl <| w_want rfl rfl <| w_val (v_loadB 0 rfl uT3 rfl rfl rfl) rfl <| w_want rfl rfl ?_
        refine w_valD (v_lss rfl rfl) rfl (fun hg6 => ?_) (fun hg6 => ?_)
        ·refine w_want rfl rfl <| wm rfl rfl <| w_skip rfl rfl rfl rfl <| w_skip rfl rfl rfl rfl <| w_skip rfl rfl rfl rfl <| w_skip rfl rfl rfl rfl <| w_skip rfl rfl rfl rfl <| w_skip rfl rfl rfl rfl <| w_skip rfl rfl rfl rfl <| w_skip rfl rfl rfl rfl <| w_want rfl rfl <| w_val (v_pickT rfl rfl) rfl <| w_val (v_pickT rfl rfl) rfl <| wa rfl rfl <| w_nil ?_
         exact e_testEnd rfl (by first | (simp_all; done) | (simp_all; omega)) (by repeat (first | exact Sub.refl _ | exact Sub.nil _ | exact Sub.del _ _ | refine Sub.skip rfl ?_)) (fun _ hw => hw)
        ·refine w_want rfl rfl <| wm rfl rfl <| w_want rfl rfl <| w_val (v_fieldAddrB (o := 2) uT109 rfl rfl Tryz.nz3 rfl) rfl <| w_want rfl rfl <| w_val (v_loadB 0 rfl uT3 rfl rfl rfl) rfl <| w_want rfl rfl <| wm rfl rfl <| w_want rfl rfl <| w_val (v_lenS uT80 rfl) rfl <| w_want rfl rfl <| wm rfl rfl <| w_want rfl rfl ?_
         refine w_val (v_sub rfl rfl (by omega)) rfl ?_
         refine w_want rfl rfl ?_
         refine w_val (v_sub rfl rfl (by omega)) rfl ?_
         refine w_want rfl rfl ?_
         refine w_valD (v_gtr rfl rfl) rfl (fun hg15 => ?_) (fun hg15 => ?_)
         ·refine w_want rfl rfl <| w_val (v_pickF rfl rfl) rfl <| w_val (v_pickT rfl rfl) rfl <| wa rfl rfl <| w_nil ?_
          exact e_testEnd rfl (by first | (simp_all; done) | (simp_all; omega)) (by repeat (first | exact Sub.refl _ | exact Sub.nil _ | exact Sub.del _ _ | refine Sub.skip rfl ?_)) (fun _ hw => hw)
         ·refine w_want rfl rfl <| w_val (v_pickF rfl rfl) rfl <| w_val (v_pickT rfl rfl) rfl <| wa rfl rfl <| w_nil ?_
          exact e_testEnd rfl (by first | (simp_all; done) | (simp_all; omega)) (by repeat (first | exact Sub.refl _ | exact Sub.nil _ | exact Sub.del _ _ | refine Sub.skip rfl ?_)) (fun _ hw => hw)
       ·refine wm rfl rfl <| w_skip rfl rfl rfl rfl <| w_skip rfl rfl rfl rfl <| w_skip rfl rfl rfl rfl <| w_skip rfl rfl rfl rfl <| w_skip rfl rfl rfl rfl <| w_skip rfl rfl rfl rfl <| w_skip rfl rfl rfl rfl <| w_skip rfl rfl rfl rfl <| w_skip rfl rfl rfl rfl <| w_skip rfl rfl rfl rfl <| w_skip rfl rfl rfl rfl <| w_skip rfl rfl rfl rfl <| w_skip rfl rfl rfl rfl <| w_val (v_pickF rfl rfl) rfl <| wa rfl rfl <| w_nil ?_
        exact e_testEnd rfl (by first | (simp_all; done) | (simp_all; omega)) (by repeat (first | exact Sub.refl _ | exact Sub.nil _ | exact Sub.del _ _ | refine Sub.skip rfl ?_)) (fun _ hw => hw)
      refine e_condD rfl (fun h3 => ?_) (fun h3 => ?_)
      ·refine e_region <| wa rfl rfl <| w_nil <| e_blk ?_
       have : opCheckL d.length k st o = 1 := by simp only [opCheckL]; rw [if_neg h1, if_neg h2, if_pos h3]
       rw [this]
       exact e_cutEnd (()) (trivial) (by repeat first | exact .nil _ | refine .cons rfl ?_) (fun _ hw => hw)
      ·refine e_skip <| e_blk ?_
       have : opCheckL d.length k st o = opFaultL o := by simp only [opCheckL]; rw [if_neg h1, if_neg h2, if_neg h3]; omega
       rw [this]
       exact e_cutEnd (()) (trivial) (by repeat first | exact .nil _ | refine .cons rfl ?_) (fun _ hw => hw)
   ·rintro - -
    refine e_seq <| esr <| wm rfl rfl <| w_val (v_neq rfl rfl) rfl <| w_nil ?_
    refine e_condD rfl (fun h1 => ?_) (fun h1 => ?_)
    ·refine esr <| wm rfl rfl <| wm rfl rfl ?_
     refine w_val (v_build _ rfl (by intro _; simp [Instr.build, Instr.fill, Tryz.zeroValue42, go_sem]; rfl)) rfl ?_
     refine w_op rfl ?_
     refine x_storeA 1 rfl rfl rfl Tryz.hi42 Tryz.cz42 rfl (by first | (simp [Value.oneCell', opCells]; done) | assumption | exact one_ints _ | exact one_resCells _ _ | exact one_slotC _) ?_
     refine w_nil ?_
     refine e_retQ (q_ret1 rfl (ResV.agg 1 rfl rfl (by rw [isAggD, uT42]; rfl) (Tryz.cz42) Tryz.hi42) ?_)
     exact fun w' hw' => ⟨by rw [hhit h1]; rfl, hw'.res.nil⟩
    ·have h0 : opCheckL d.length k st o = 0 := by omega
     refine e_skip ?_
     have hrel' := hnx h0
     cases st
     ·refine e_test 3 (false || decide (o.kind = 7)) ?_ ?_
      ·refine e_region <| wm rfl rfl <| wm rfl rfl <| w_want rfl rfl <| w_val (v_fieldAddrB (o := 0) uT109 rfl rfl Tryz.nz3 rfl) rfl <| w_want rfl rfl <| w_val (v_loadB 0 rfl uT3 rfl rfl rfl) rfl <| w_want rfl rfl ?_
       refine w_valD (v_eql rfl rfl) rfl (fun hg4 => ?_) (fun hg4 => ?_)
       ·refine w_val (v_pickF rfl rfl) rfl <| wa rfl rfl <| w_nil ?_
        exact e_testEnd rfl (by simp_all) (by repeat (first | exact Sub.refl _ | exact Sub.nil _ | exact Sub.del _ _ | refine Sub.skip rfl ?_)) (fun _ hw => hw)
       ·refine w_val (v_pickF rfl rfl) rfl <| wa rfl rfl <| w_nil ?_
        exact e_testEnd rfl (by simp_all) (by repeat (first | exact Sub.refl _ | exact Sub.nil _ | exact Sub.del _ _ | refine Sub.skip rfl ?_)) (fun _ hw => hw)
      refine e_blk <| e_region ?_
      refine w_val (v_add rfl rfl (by omega)) rfl ?_
      refine wm rfl rfl <| w_nil ?_
      exact e_round ((k + 1, false || decide (o.kind = 7))) (⟨by simp only; omega, hrel'.symm⟩) (by simp only; omega) (by repeat first | exact .nil _ | refine .cons rfl ?_) (fun _ hw => hw.sub (List.sublist_cons_self _ _))
     ·refine e_test 3 (true || decide (o.kind = 7)) ?_ ?_
      ·refine e_region <| wm rfl rfl <| wm rfl rfl <| w_skip rfl rfl rfl rfl <| w_skip rfl rfl rfl rfl <| w_skip rfl rfl rfl rfl <| w_val (v_pickT rfl rfl) rfl <| wa rfl rfl <| w_nil ?_
       exact e_testEnd rfl (by simp_all) (by repeat (first | exact Sub.refl _ | exact Sub.nil _ | exact Sub.del _ _ | refine Sub.skip rfl ?_)) (fun _ hw => hw)
      refine e_blk <| e_region ?_
      refine w_val (v_add rfl rfl (by omega)) rfl ?_
      refine wm rfl rfl <| w_nil ?_
      exact e_round ((k + 1, true || decide (o.kind = 7))) (⟨by simp only; omega, hrel'.symm⟩) (by simp only; omega) (by repeat first | exact .nil _ | refine .cons rfl ?_) (fun _ hw => hw.sub (List.sublist_cons_self _ _))
  ·obtain rfl : k = d.length := by omega
   refine e_exit rfl <| esr ?_
   refine w_val (v_build _ rfl (by intro _; simp [Instr.build, Instr.fill, Tryz.zeroValue42, go_sem]; rfl)) rfl ?_
   refine w_op rfl ?_
   refine x_storeA 0 rfl rfl rfl Tryz.hi42 Tryz.cz42 rfl (by first | (simp [Value.oneCell', opCells]; done) | assumption | exact one_ints _ | exact one_resCells _ _ | exact one_slotC _) ?_
   refine w_nil ?_
   refine e_retQ (q_ret1 rfl (ResV.agg 0 rfl rfl (by rw [isAggD, uT42]; rfl) (Tryz.cz42) Tryz.hi42) ?_)
   exact fun w' hw' => ⟨by rw [← hrel, checkFrom_end]; rfl, hw'.res.nil⟩
end Go.SL
end
section
open Go Go.Proofs Go.SL
set_option maxRecDepth 100000
namespace Go.SL
def storedL (d : DeedL) (i : Nat) : Bool := (d.take i).any fun o => decide (o.kind = 7)
theorem storedL_succ {d : DeedL} {i : Nat} (h : i < d.length) : storedL d (i + 1) = (storedL d i || decide (d[i].kind = 7)) := by
 unfold storedL
 rw [List.take_succ_eq_append_getElem h, List.any_append]
 simp
theorem storedL_true {d : DeedL} {i k : Nat} (hk : k < i) (h : k < d.length) (h7 : d[k].kind = 7) : storedL d i = true := by
 unfold storedL
 rw [List.any_eq_true]
 exact ⟨d[k], List.mem_take_iff_getElem.2 ⟨k, by omega, rfl⟩, by simp [h7]⟩
theorem storedL_false {d : DeedL} {i : Nat} (h : ∀ k (hk : k < d.length), k < i → d[k].kind ≠ 7) : storedL d i = false := by
 unfold storedL
 rw [List.any_eq_false]
 intro o ho
 obtain ⟨k, hk, rfl⟩ := List.mem_take_iff_getElem.1 ho
 have := h k (by omega) (by omega)
 simp [this]
theorem skip_b {o : OpL} (h : opFaultL o = 0) : o.kind ≠ 9 ∨ (0 ≤ o.b ∧ o.b < 14) := by
 by_cases hk : o.kind = 9
 ·right
  unfold opFaultL at h
  rw [if_neg (by omega), lims_skip hk] at h
  simp only [List.getD_cons_zero, List.getD_cons_succ] at h
  split at h
  ·simp_all
  ·split at h
   ·simp_all
   ·rename_i h1
    simp only [badL] at h1
    simp at h1
    omega
 ·exact .inl hk
theorem DeedFault_spec (v : Value) (d : DeedL) (w : World) (h : IsDeed w.cell? v d) : Calls Tryz.prog 59 #[v] w fun e w' => e = .returned (faultV (checkL d)) ∧ Res w [] [] w' := by
 rw [← off_none w] at h
 obtain ⟨A, kp, rfl, hle, hc⟩ := h.form
 refine enter0 (N := 74) Tryz.func59 rfl rfl rfl <| esr <| w_op rfl ?_
 refine x_alloc (z := .agg #[.int .i64 0, .int .i64 0]) (by intro w; exact Tryz.zeroValue42 w) rfl (fun b2 => ?_)
 refine w_nil <| e_seq <| esr <| wm rfl rfl <| w_val (v_lenS uT80 rfl) rfl <| w_val (v_gtr rfl rfl) rfl <| w_nil ?_
 refine e_condD rfl (fun h14 => ?_) (fun h14 => ?_)
 ·refine esr <| w_op rfl ?_
  refine x_call0 (v := faultV (4, -1)) rfl rfl rfl Tryz.call15 rfl (fun w hw => F_spec _ _ w) ?_
  refine w_op rfl ?_
  refine x_storeA 0 rfl rfl rfl Tryz.hi42 Tryz.cz42 rfl (by first | (simp [Value.oneCell', opCells]; done) | assumption | exact one_ints _ | exact one_resCells _ _ | exact one_slotC _) ?_
  refine w_nil ?_
  refine e_retQ (q_ret1 rfl (ResV.agg 0 rfl rfl (by rw [isAggD, uT42]; rfl) (Tryz.cz42) Tryz.hi42) ?_)
  exact fun w' hw' => ⟨by simp only [checkL]; rw [if_pos (by omega)]; rfl, hw'.res.nil⟩
 ·refine e_skip <| e_seq <| esr <| wa rfl rfl <| w_nil <| e_block ?_
  refine e_loopK (σ := Nat) [0, 2] (.cons rfl (.cons rfl .nil)) (fun k => [(3, .int .i64 k)]) (fun k => k ≤ d.length ∧ checkFrom d.length k (storedL d k) (d.drop k) = checkL d) (fun k => d.length - k) 0 ⟨by simp, by simp only [checkL]; rw [if_neg (by omega)]; rfl⟩ (by repeat first | exact .nil _ | refine .cons rfl ?_) ?_
  rintro k ⟨hk, hrel⟩
  refine e_seq <| esr <| wm rfl rfl <| wm rfl rfl <| w_val (v_lenS uT80 rfl) rfl <| w_val (v_lss rfl rfl) rfl <| w_nil ?_
  refine e_condD rfl (fun hlt => ?_) (fun hlt => ?_)
  ·have hlt' : k < d.length := by omega
   obtain ⟨ad, rfl, hop⟩ := IsDeed.cells hc hlt'
   have hnx := fun hc => checkFrom_next (total := d.length) (i := k) (st := storedL d k) (d := d) hlt' hc
   have hhit := fun hc => checkFrom_hit (total := d.length) (i := k) (st := storedL d k) (d := d) hlt' hc
   rw [← storedL_succ hlt'] at hnx
   rw [hrel] at hnx hhit
   generalize ho : d[k] = o at *
   refine e_skip <| e_seq <| e_block <| e_seq <| esr <| wm rfl rfl <| wm rfl rfl ?_
   refine w_val (v_indexS uT80 Tryz.hi109 Tryz.cz109 rfl rfl (by first | omega | decide)) rfl ?_
   refine w_val (v_loadON uT109 rfl Tryz.hi109 rfl (hop) Tryz.cz109) rfl <| w_op rfl ?_
   refine x_call0 (v := .int .i64 (opFaultL o)) rfl rfl rfl Tryz.call96 rfl (fun w hw => OpFault_spec o w) ?_
   refine wa rfl rfl <| wsr <| wm rfl rfl <| w_val (v_neq rfl rfl) rfl <| w_nil ?_
   refine e_condD rfl (fun h1 => ?_) (fun h1 => ?_)
   ·have hthis : opCheckL d.length k (storedL d k) o = opFaultL o := by simp only [opCheckL]; rw [if_pos h1]
    refine esr <| wm rfl rfl <| wm rfl rfl <| w_op rfl ?_
    refine x_call0 (v := faultV (opFaultL o, k)) rfl rfl rfl Tryz.call15 rfl (fun w hw => F_spec _ _ w) ?_
    refine w_op rfl ?_
    refine x_storeA 0 rfl rfl rfl Tryz.hi42 Tryz.cz42 rfl (by first | (simp [Value.oneCell', opCells]; done) | assumption | exact one_ints _ | exact one_resCells _ _ | exact one_slotC _) ?_
    refine w_nil ?_
    refine e_retQ (q_ret1 rfl (ResV.agg 0 rfl rfl (by rw [isAggD, uT42]; rfl) (Tryz.cz42) Tryz.hi42) ?_)
    exact fun w' hw' => ⟨by rw [hhit (by rw [hthis]; exact h1), hthis]; rfl, hw'.res.nil⟩
   ·have hB := skip_b (o := o) (by omega)
    refine e_skip <| e_seq <| esr <| wm rfl rfl <| wm rfl rfl ?_
    refine w_val (v_indexS uT80 Tryz.hi109 Tryz.cz109 rfl rfl (by first | omega | decide)) rfl ?_
    refine w_val (v_fieldAddr (o := 0) uT109 rfl rfl Tryz.nz3 rfl) rfl <| w_val (v_loadO uT3 rfl rfl ((hop) _ _ rfl)) rfl <| w_val (v_eql rfl rfl) rfl <| w_nil ?_
    refine e_cutK (σ := Unit) [0, 2, 3] (.cons rfl (.cons rfl (.cons rfl .nil))) (fun _ => []) (fun _ => o.kind = 8 → storedL d k = false) ?_ ?_
    ·refine e_condD rfl (fun h8 => ?_) (fun h8 => ?_)
     ·refine esr <| wa rfl rfl <| w_nil <| e_block ?_
      refine e_loopK (σ := Nat) [0, 2, 3] (.cons rfl (.cons rfl (.cons rfl .nil))) (fun j => [(5, .int .i64 j)]) (fun j => j ≤ k ∧ ∀ i (hi : i < d.length), i < j → d[i].kind ≠ 7) (fun j => k - j) 0 ⟨by omega, by omega⟩ (by repeat first | exact .nil _ | refine .cons rfl ?_) ?_
      rintro j ⟨hjk, hall⟩
      refine e_seq <| esr <| wm rfl rfl <| wm rfl rfl <| w_val (v_lss rfl rfl) rfl <| w_nil ?_
      refine e_condD rfl (fun hj => ?_) (fun hj => ?_)
      ·have hj' : j < d.length := by omega
       obtain ⟨ad', had, hopj⟩ := IsDeed.cells hc hj'
       injection had with had
       subst had
       generalize hoj : d[j] = oj at *
       refine e_skip <| e_seq <| e_block <| esr <| wm rfl rfl <| wm rfl rfl ?_
       refine w_val (v_indexS uT80 Tryz.hi109 Tryz.cz109 rfl rfl (by first | omega | decide)) rfl ?_
       refine w_val (v_fieldAddr (o := 0) uT109 rfl rfl Tryz.nz3 rfl) rfl <| w_val (v_loadO uT3 rfl rfl ((hopj) _ _ rfl)) rfl <| w_val (v_eql rfl rfl) rfl <| w_nil ?_
       refine e_condD rfl (fun h7 => ?_) (fun h7 => ?_)
       ·have hthis : opCheckL d.length k (storedL d k) o = 5 := by simp only [opCheckL]; rw [if_neg h1, if_pos ⟨h8, storedL_true (k := j) (by omega) hj' (by rw [hoj]; exact h7)⟩]
        refine esr <| wm rfl rfl <| w_op rfl ?_
        refine x_call0 (v := faultV (5, k)) rfl rfl rfl Tryz.call15 rfl (fun w hw => F_spec _ _ w) ?_
        refine w_op rfl ?_
        refine x_storeA 0 rfl rfl rfl Tryz.hi42 Tryz.cz42 rfl (by first | (simp [Value.oneCell', opCells]; done) | assumption | exact one_ints _ | exact one_resCells _ _ | exact one_slotC _) ?_
        refine w_nil ?_
        refine e_retQ (q_ret1 rfl (ResV.agg 0 rfl rfl (by rw [isAggD, uT42]; rfl) (Tryz.cz42) Tryz.hi42) ?_)
        exact fun w' hw' => ⟨by rw [hhit (by rw [hthis]; omega), hthis]; rfl, hw'.res.nil⟩
       ·refine e_skip <| e_blk <| e_region <| wm rfl rfl ?_
        refine w_val (v_add rfl rfl (by omega)) rfl ?_
        refine wa rfl rfl <| w_nil ?_
        exact e_round (j + 1) (⟨by omega, fun i hi hij => by rcases (by omega : i < j ∨ i = j) with h | rfl; exact hall i hi h; rw [hoj]; exact h7⟩) (by omega) (by repeat first | exact .nil _ | refine .cons rfl ?_) (fun _ hw => hw)
      ·refine e_exit rfl ?_
       exact e_cutEnd (()) (fun _ => storedL_false (fun i hi hik => hall i hi (by omega))) (by repeat first | exact .nil _ | refine .cons rfl ?_) (fun _ hw => hw)
     ·refine e_skip ?_
      exact e_cutEnd (()) (fun h => absurd h h8) (by repeat first | exact .nil _ | refine .cons rfl ?_) (fun _ hw => hw)
    ·rintro - hst
     refine e_seq ?_
     refine e_test 70 (decide (o.kind = 9 ∧ (o.b < 1 ∨ (d.length : Int) ≤ k + o.b))) ?_ ?_
     ·refine e_region <| wm rfl rfl <| wm rfl rfl ?_
      refine w_val (v_indexS uT80 Tryz.hi109 Tryz.cz109 rfl rfl (by first | omega | decide)) rfl ?_
      refine w_val (v_fieldAddr (o := 0) uT109 rfl rfl Tryz.nz3 rfl) rfl <| w_val (v_loadO uT3 rfl rfl ((hop) _ _ rfl)) rfl ?_
      refine w_valD (v_eql rfl rfl) rfl (fun hg5 => ?_) (fun hg5 => ?_)
      ·refine wm rfl rfl <| w_want rfl rfl <| wm rfl rfl <| w_want rfl rfl <| wm rfl rfl <| w_want rfl rfl ?_
       refine w_val (v_indexS uT80 Tryz.hi109 Tryz.cz109 rfl rfl (by first | omega | decide)) rfl ?_
       refine w_want rfl rfl <| w_val (v_fieldAddr (o := 2) uT109 rfl rfl Tryz.nz3 rfl) rfl <| w_want rfl rfl <| w_val (v_loadO uT3 rfl rfl ((hop) _ _ rfl)) rfl <| w_want rfl rfl ?_
       refine w_valD (v_lss rfl rfl) rfl (fun hg12 => ?_) (fun hg12 => ?_)
       ·refine w_want rfl rfl <| wm rfl rfl <| w_skip rfl rfl rfl rfl <| w_skip rfl rfl rfl rfl <| w_skip rfl rfl rfl rfl <| w_skip rfl rfl rfl rfl <| w_skip rfl rfl rfl rfl <| w_skip rfl rfl rfl rfl <| w_skip rfl rfl rfl rfl <| w_skip rfl rfl rfl rfl <| w_skip rfl rfl rfl rfl <| w_skip rfl rfl rfl rfl <| w_want rfl rfl <| w_val (v_pickT rfl rfl) rfl <| w_val (v_pickT rfl rfl) rfl <| w_nil ?_
        exact e_testEnd rfl (by first | (simp_all; done) | (simp_all; omega)) (by repeat (first | exact Sub.refl _ | exact Sub.nil _ | exact Sub.del _ _ | refine Sub.skip rfl ?_)) (fun _ hw => hw)
       ·refine w_want rfl rfl <| wm rfl rfl <| w_want rfl rfl <| wm rfl rfl <| w_want rfl rfl <| wm rfl rfl <| w_want rfl rfl <| wm rfl rfl <| w_want rfl rfl ?_
        refine w_val (v_indexS uT80 Tryz.hi109 Tryz.cz109 rfl rfl (by first | omega | decide)) rfl ?_
        refine w_want rfl rfl <| w_val (v_fieldAddr (o := 2) uT109 rfl rfl Tryz.nz3 rfl) rfl <| w_want rfl rfl <| w_val (v_loadO uT3 rfl rfl ((hop) _ _ rfl)) rfl <| w_want rfl rfl ?_
        refine w_val (v_add rfl rfl (by omega)) rfl ?_
        refine w_want rfl rfl <| wm rfl rfl <| w_want rfl rfl <| w_val (v_lenS uT80 rfl) rfl <| w_want rfl rfl ?_
        refine w_valD (v_geq rfl rfl) rfl (fun hg23 => ?_) (fun hg23 => ?_)
        ·refine w_want rfl rfl <| w_val (v_pickF rfl rfl) rfl <| w_val (v_pickT rfl rfl) rfl <| w_nil ?_
         exact e_testEnd rfl (by first | (simp_all; done) | (simp_all; omega)) (by repeat (first | exact Sub.refl _ | exact Sub.nil _ | exact Sub.del _ _ | refine Sub.skip rfl ?_)) (fun _ hw => hw)
        ·refine w_want rfl rfl <| w_val (v_pickF rfl rfl) rfl <| w_val (v_pickT rfl rfl) rfl <| w_nil ?_
         exact e_testEnd rfl (by first | (simp_all; done) | (simp_all; omega)) (by repeat (first | exact Sub.refl _ | exact Sub.nil _ | exact Sub.del _ _ | refine Sub.skip rfl ?_)) (fun _ hw => hw)
      ·refine wm rfl rfl <| w_skip rfl rfl rfl rfl <| w_skip rfl rfl rfl rfl <| w_skip rfl rfl rfl rfl <| w_skip rfl rfl rfl rfl <| w_skip rfl rfl rfl rfl <| w_skip rfl rfl rfl rfl <| w_skip rfl rfl rfl rfl <| w_skip rfl rfl rfl rfl <| w_skip rfl rfl rfl rfl <| w_skip rfl rfl rfl rfl <| w_skip rfl rfl rfl rfl <| w_skip rfl rfl rfl rfl <| w_skip rfl rfl rfl rfl <| w_skip rfl rfl rfl rfl <| w_skip rfl rfl rfl rfl <| w_skip rfl rfl rfl rfl <| w_skip rfl rfl rfl rfl <| w_skip rfl rfl rfl rfl <| w_val (v_pickF rfl rfl) rfl <| w_nil ?_
       exact e_testEnd rfl (by first | (simp_all; done) | (simp_all; omega)) (by repeat (first | exact Sub.refl _ | exact Sub.nil _ | exact Sub.del _ _ | refine Sub.skip rfl ?_)) (fun _ hw => hw)
     refine e_condD rfl (fun h9 => ?_) (fun h9 => ?_)
     ·have hthis : opCheckL d.length k (storedL d k) o = 1 := by simp only [opCheckL]; rw [if_neg h1, if_neg (by omega), if_pos ⟨h9.1, by omega⟩]
      refine esr <| wm rfl rfl <| w_op rfl ?_
      refine x_call0 (v := faultV (1, k)) rfl rfl rfl Tryz.call15 rfl (fun w hw => F_spec _ _ w) ?_
      refine w_op rfl ?_
      refine x_storeA 0 rfl rfl rfl Tryz.hi42 Tryz.cz42 rfl (by first | (simp [Value.oneCell', opCells]; done) | assumption | exact one_ints _ | exact one_resCells _ _ | exact one_slotC _) ?_
      refine w_nil ?_
      refine e_retQ (q_ret1 rfl (ResV.agg 0 rfl rfl (by rw [isAggD, uT42]; rfl) (Tryz.cz42) Tryz.hi42) ?_)
      exact fun w' hw' => ⟨by rw [hhit (by rw [hthis]; omega), hthis]; rfl, hw'.res.nil⟩
     ·have hthis : opCheckL d.length k (storedL d k) o = 0 := by
       simp only [opCheckL]
       rw [if_neg h1, if_neg (fun h => by rw [hst h.1] at h; exact absurd h.2 (by simp)), if_neg (by omega)]
      refine e_skip <| e_blk <| e_region <| wm rfl rfl ?_
      refine w_val (v_add rfl rfl (by omega)) rfl ?_
      refine wa rfl rfl <| w_nil ?_
      exact e_round (k + 1) (⟨by omega, (hnx hthis).symm⟩) (by omega) (by repeat first | exact .nil _ | refine .cons rfl ?_) (fun _ hw => hw)
  ·obtain rfl : k = d.length := by omega
   refine e_exit rfl <| esr ?_
   refine w_val (v_build _ rfl (by intro _; simp [Instr.build, Instr.fill, Tryz.zeroValue42, go_sem]; rfl)) rfl ?_
   refine w_op rfl ?_
   refine x_storeA 0 rfl rfl rfl Tryz.hi42 Tryz.cz42 rfl (by first | (simp [Value.oneCell', opCells]; done) | assumption | exact one_ints _ | exact one_resCells _ _ | exact one_slotC _) ?_
   refine w_nil ?_
   refine e_retQ (q_ret1 rfl (ResV.agg 0 rfl rfl (by rw [isAggD, uT42]; rfl) (Tryz.cz42) Tryz.hi42) ?_)
   exact fun w' hw' => ⟨by rw [← hrel, checkFrom_end]; rfl, hw'.res.nil⟩
end Go.SL
end
section
open Go Go.Proofs Go.SL
set_option maxRecDepth 100000
namespace Go.SL
def roundFrom : RoundL → Int
 | [] => 0
 | d :: r => if (checkL d).1 ≠ 0 then (checkL d).1 else roundFrom r
def roundFaultL (r : RoundL) : Int := if 8 < r.length then 4 else roundFrom r
theorem roundFrom_at {r : RoundL} {k : Nat} (h : k < r.length) : roundFrom (r.drop k) = if (checkL r[k]).1 ≠ 0 then (checkL r[k]).1 else roundFrom (r.drop (k + 1)) := by
 rw [List.drop_eq_getElem_cons h]; rfl
theorem IsRound.form {c : View} {v : Value} {r : RoundL} (h : IsRound c v r) : ∃ A k, v = .slice A r.length k ∧ r.length ≤ k ∧ ∀ i (hi : i < r.length), ∃ ad u, A = some ad ∧ c (ad.add (((i : Int)).toNat * 1)) = some u ∧ IsDeed c u r[i] := by
 obtain ⟨vs, ⟨A, k, h1, h2, h3, h4⟩, h5⟩ := h
 refine ⟨A, k, h1, h2, fun i hi => ?_⟩
 obtain ⟨ad, h6, h7⟩ := h4 (by omega)
 obtain ⟨u, h8, h9⟩ := h5 i hi
 exact ⟨ad, u, h6, by have := h7 i u h8; simpa using this, h9⟩
theorem codeRound_spec (v : Value) (r : RoundL) (w : World) (h : IsRound w.cell? v r) : Calls Tryz.prog 144 #[v] w fun e w' => e = .returned (.int .i64 (roundFaultL r)) ∧ Res w [] [] w' := by
 rw [← off_none w] at h
 obtain ⟨A, kp, rfl, hle, hc⟩ := h.form
 refine enter0 (N := 23) Tryz.func144 rfl rfl rfl <| esr <| wa rfl rfl <| w_nil <| e_seq <| esr <| wm rfl rfl <| w_val (v_lenS uT37 rfl) rfl <| w_val (v_gtr rfl rfl) rfl <| w_nil ?_
 refine e_condD rfl (fun h8 => ?_) (fun h8 => ?_)
 ·refine esr <| wa rfl rfl <| w_nil ?_
  refine e_retQ (q_ret1 rfl (.tmp rfl) ?_)
  exact fun w' hw' => ⟨by simp only [roundFaultL]; rw [if_pos (by omega)], hw'.res.nil⟩
 ·refine e_skip <| e_seq <| esr <| wm rfl rfl <| w_val (v_lenS uT37 rfl) rfl <| wm rfl rfl <| w_nil <| e_block ?_
  refine e_loopK (σ := Nat) [0, 2, 9, 10] (.cons rfl (.cons rfl (.cons rfl (.cons rfl .nil)))) (fun k => [(11, .int .i64 k)]) (fun k => k ≤ r.length ∧ roundFrom (r.drop k) = roundFaultL r) (fun k => r.length - k) 0 ⟨by simp, by simp only [roundFaultL]; rw [if_neg (by omega)]; rfl⟩ (by repeat first | exact .nil _ | refine .cons rfl ?_) ?_
  rintro k ⟨hk, hrel⟩
  refine esr <| w_val (v_lss rfl rfl) rfl <| w_nil <| e_seq ?_
  refine e_condD rfl (fun hlt => ?_) (fun hlt => ?_)
  ·have hlt' : k < r.length := by omega
   obtain ⟨ad, u, rfl, hcell, hd⟩ := hc k hlt'
   rw [roundFrom_at hlt'] at hrel
   generalize r[k] = d at *
   refine e_skip <| e_seq <| e_block <| esr ?_
   refine w_val (v_indexS uT37 Tryz.hi80 Tryz.cz80 rfl rfl (by first | omega | decide)) rfl ?_
   refine w_val (v_loadO uT80 rfl rfl (hcell)) rfl <| wa rfl rfl <| wsr <| wm rfl rfl <| w_op rfl ?_
   refine x_call0 (v := faultV (checkL d)) rfl rfl rfl Tryz.call75 rfl (fun w hw => check_spec u d w (hd.mono hw.off)) ?_
   refine w_op rfl ?_
   refine x_alloc (z := .agg #[.int .i64 0, .int .i64 0]) (by intro w; exact Tryz.zeroValue42 w) rfl (fun b5 => ?_)
   refine w_op rfl ?_
   refine x_storeA 0 rfl rfl rfl Tryz.hi42 Tryz.cz42 rfl (by first | (simp [Value.oneCell', opCells]; done) | assumption | exact one_ints _ | exact one_resCells _ _ | exact one_slotC _) ?_
   refine wsr <| w_val (v_fieldAddrB (o := 0) uT42 rfl rfl Tryz.nz3 rfl) rfl <| w_val (v_loadB 0 rfl uT3 rfl rfl rfl) rfl <| w_val (v_neq rfl rfl) rfl <| w_nil ?_
   refine e_condD rfl (fun h1 => ?_) (fun h1 => ?_)
   ·refine esr <| w_val (v_fieldAddrB (o := 0) uT42 rfl rfl Tryz.nz3 rfl) rfl <| w_val (v_loadB 0 rfl uT3 rfl rfl rfl) rfl <| wa rfl rfl <| w_nil ?_
    refine e_retQ (q_ret1 rfl (.tmp rfl) ?_)
    exact fun w' hw' => ⟨by rw [← hrel, if_pos h1], hw'.res.nil⟩
   ·refine e_skip <| e_blk <| e_region ?_
    refine w_val (v_add rfl rfl (by omega)) rfl ?_
    refine wm rfl rfl <| w_nil ?_
    exact e_round (k + 1) (⟨by omega, by rw [← hrel, if_neg h1]⟩) (by omega) (by repeat first | exact .nil _ | refine .cons rfl ?_) (fun _ hw => hw.sub (List.sublist_cons_self _ _))
  ·obtain rfl : k = r.length := by omega
   refine e_exit rfl <| esr <| wa rfl rfl <| w_nil ?_
   refine e_retQ (q_ret1 rfl (.tmp rfl) ?_)
   exact fun w' hw' => ⟨by rw [← hrel]; simp [roundFrom], hw'.res.nil⟩
theorem RoundFault_spec (v : Value) (r : RoundL) (w : World) (h : IsRound w.cell? v r) : Calls Tryz.prog 98 #[v] w fun e w' => e = .returned (.int .i64 (roundFaultL r)) ∧ Res w [] [] w' := by
 rw [← off_none w] at h
 obtain ⟨A, kp, rfl, hle, hc⟩ := h.form
 refine enter0 (N := 24) Tryz.func98 rfl rfl rfl <| esr <| wa rfl rfl <| w_nil <| e_seq <| esr <| wm rfl rfl <| w_val (v_lenS uT37 rfl) rfl <| w_val (v_gtr rfl rfl) rfl <| w_nil ?_
 refine e_condD rfl (fun h8 => ?_) (fun h8 => ?_)
 ·refine esr <| wa rfl rfl <| w_nil ?_
  refine e_retQ (q_ret1 rfl (.tmp rfl) ?_)
  exact fun w' hw' => ⟨by simp only [roundFaultL]; rw [if_pos (by omega)], hw'.res.nil⟩
 ·refine e_skip <| e_seq <| esr <| wa rfl rfl <| w_nil <| e_block ?_
  refine e_loopK (σ := Nat) [0, 2] (.cons rfl (.cons rfl .nil)) (fun k => [(3, .int .i64 k)]) (fun k => k ≤ r.length ∧ roundFrom (r.drop k) = roundFaultL r) (fun k => r.length - k) 0 ⟨by simp, by simp only [roundFaultL]; rw [if_neg (by omega)]; rfl⟩ (by repeat first | exact .nil _ | refine .cons rfl ?_) ?_
  rintro k ⟨hk, hrel⟩
  refine e_seq <| esr <| wm rfl rfl <| wm rfl rfl <| w_val (v_lenS uT37 rfl) rfl <| w_val (v_lss rfl rfl) rfl <| w_nil ?_
  refine e_condD rfl (fun hlt => ?_) (fun hlt => ?_)
  ·have hlt' : k < r.length := by omega
   obtain ⟨ad, u, rfl, hcell, hd⟩ := hc k hlt'
   rw [roundFrom_at hlt'] at hrel
   generalize r[k] = d at *
   refine e_skip <| e_seq <| e_block <| esr <| wm rfl rfl <| wm rfl rfl ?_
   refine w_val (v_indexS uT37 Tryz.hi80 Tryz.cz80 rfl rfl (by first | omega | decide)) rfl ?_
   refine w_val (v_loadO uT80 rfl rfl (hcell)) rfl <| w_op rfl ?_
   refine x_call0 (v := faultV (checkL d)) rfl rfl rfl Tryz.call59 rfl (fun w hw => DeedFault_spec u d w (hd.mono hw.off)) ?_
   refine w_op rfl ?_
   refine x_alloc (z := .agg #[.int .i64 0, .int .i64 0]) (by intro w; exact Tryz.zeroValue42 w) rfl (fun b4 => ?_)
   refine w_op rfl ?_
   refine x_storeA 0 rfl rfl rfl Tryz.hi42 Tryz.cz42 rfl (by first | (simp [Value.oneCell', opCells]; done) | assumption | exact one_ints _ | exact one_resCells _ _ | exact one_slotC _) ?_
   refine wsr <| w_val (v_fieldAddrB (o := 0) uT42 rfl rfl Tryz.nz3 rfl) rfl <| w_val (v_loadB 0 rfl uT3 rfl rfl rfl) rfl <| w_val (v_neq rfl rfl) rfl <| w_nil ?_
   refine e_condD rfl (fun h1 => ?_) (fun h1 => ?_)
   ·refine esr <| w_val (v_fieldAddrB (o := 0) uT42 rfl rfl Tryz.nz3 rfl) rfl <| w_val (v_loadB 0 rfl uT3 rfl rfl rfl) rfl <| wa rfl rfl <| w_nil ?_
    refine e_retQ (q_ret1 rfl (.tmp rfl) ?_)
    exact fun w' hw' => ⟨by rw [← hrel, if_pos h1], hw'.res.nil⟩
   ·refine e_skip <| e_blk <| e_region <| wm rfl rfl ?_
    refine w_val (v_add rfl rfl (by omega)) rfl ?_
    refine wa rfl rfl <| w_nil ?_
    exact e_round (k + 1) (⟨by omega, by rw [← hrel, if_neg h1]⟩) (by omega) (by repeat first | exact .nil _ | refine .cons rfl ?_) (fun _ hw => hw.sub (List.sublist_cons_self _ _))
  ·obtain rfl : k = r.length := by omega
   refine e_exit rfl <| esr <| wa rfl rfl <| w_nil ?_
   refine e_retQ (q_ret1 rfl (.tmp rfl) ?_)
   exact fun w' hw' => ⟨by rw [← hrel]; simp [roundFrom], hw'.res.nil⟩
end Go.SL
end
