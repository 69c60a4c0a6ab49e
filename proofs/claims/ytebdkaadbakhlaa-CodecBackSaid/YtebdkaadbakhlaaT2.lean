/- Ytebdkaadbakhlaa: part T2 of this seat's own texts. -/
import Derived.Test.YtebdkaadbakhlaaTab
set_option linter.unusedVariables false
set_option linter.unusedSimpArgs false
open Go Go.Proofs Go.SL
set_option maxRecDepth 100000
namespace Go.SL
def limL (k : Int) : List Int := if k = 1 ∨ k = 8 then [4, 0, 0] else if k = 2 then [4, 10, 0] else if k = 7 then [10, 4, 0] else if k = 9 then [4, 14, 0] else [4, 4, 4]
theorem limL_len (k : Int) : (limL k).length = 3 := by
  unfold limL
  (repeat' split) <;> rfl
theorem one_ints (l : List Int) : ∀ u ∈ (l.map (Value.int .i64)).toArray.toList, u.oneCell' = true := by
  intro u hu
  simp only [List.mem_map] at hu
  obtain ⟨x, _, rfl⟩ := hu
  rfl
theorem lim_ex (k : Int) (h1 : 1 ≤ k) (h2 : k ≤ 9) : (#[Value.int IntKind.i64 0, Value.int IntKind.i64 0, Value.int IntKind.i64 0, Value.int IntKind.i64 4,
            Value.int IntKind.i64 0, Value.int IntKind.i64 0, Value.int IntKind.i64 4, Value.int IntKind.i64 10,
            Value.int IntKind.i64 0, Value.int IntKind.i64 4, Value.int IntKind.i64 4, Value.int IntKind.i64 4,
            Value.int IntKind.i64 4, Value.int IntKind.i64 4, Value.int IntKind.i64 4, Value.int IntKind.i64 4,
            Value.int IntKind.i64 4, Value.int IntKind.i64 4, Value.int IntKind.i64 4, Value.int IntKind.i64 4,
            Value.int IntKind.i64 4, Value.int IntKind.i64 10, Value.int IntKind.i64 4, Value.int IntKind.i64 0,
            Value.int IntKind.i64 4, Value.int IntKind.i64 0, Value.int IntKind.i64 0, Value.int IntKind.i64 4,
            Value.int IntKind.i64 14, Value.int IntKind.i64 0] : Array Value).extract (k.toNat * 3) (k.toNat * 3 + 3) = ((limL k).map (Value.int .i64)).toArray := by
  have : k = 1 ∨ k = 2 ∨ k = 3 ∨ k = 4 ∨ k = 5 ∨ k = 6 ∨ k = 7 ∨ k = 8 ∨ k = 9 := by omega
  rcases this with rfl | rfl | rfl | rfl | rfl | rfl | rfl | rfl | rfl <;> simp [limL]
theorem limits_spec (k : Int) (h1 : 1 ≤ k) (h2 : k ≤ 9) (w : World) : Calls Try.prog 67 #[.int .i64 k] w fun e w' => e = .returned (.agg ((limL k).map (Value.int .i64)).toArray) ∧ Res w [] [] w' := by
  refine enter0 (N := 37) Try.func67 rfl rfl rfl ?_
  refine e_seq ?_
  refine e_region ?_
  refine w_op rfl ?_
  refine x_alloc (z := .agg #[.int .i64 0, .int .i64 0, .int .i64 0]) (by intro w; exact Try.zeroValue115 w) rfl (fun b2 => ?_)
  refine w_nil ?_
  refine e_seq ?_
  refine e_region ?_
  refine w_val (v_assign rfl) rfl ?_
  refine w_val (v_assign rfl) rfl ?_
  refine w_nil ?_
  refine e_seq ?_
  refine e_region ?_
  refine w_val (v_build _ rfl (by intro _; simp [Instr.build, Instr.fill, Try.zeroValue115, go_sem]; rfl)) rfl ?_
  refine w_val (v_move rfl) rfl ?_
  refine w_val (v_build _ rfl (by intro _; simp [Instr.build, Instr.fill, Try.zeroValue115, go_sem]; rfl)) rfl ?_
  refine w_val (v_move rfl) rfl ?_
  refine w_val (v_move rfl) rfl ?_
  refine w_val (v_build _ rfl (by intro _; simp [Instr.build, Instr.fill, Try.zeroValue115, go_sem]; rfl)) rfl ?_
  refine w_val (v_move rfl) rfl ?_
  refine w_val (v_move rfl) rfl ?_
  refine w_val (v_move rfl) rfl ?_
  refine w_val (v_build _ rfl (by intro _; simp [Instr.build, Instr.fill, Try.zeroValue115, go_sem]; rfl)) rfl ?_
  refine w_val (v_move rfl) rfl ?_
  refine w_val (v_move rfl) rfl ?_
  refine w_val (v_move rfl) rfl ?_
  refine w_val (v_build _ rfl (by intro _; simp [Instr.build, Instr.fill, Try.zeroValue115, go_sem]; rfl)) rfl ?_
  refine w_val (v_move rfl) rfl ?_
  refine w_val (v_move rfl) rfl ?_
  refine w_val (v_move rfl) rfl ?_
  refine w_val (v_build _ rfl (by intro _; simp [Instr.build, Instr.fill, Try.zeroValue115, go_sem]; rfl)) rfl ?_
  refine w_val (v_move rfl) rfl ?_
  refine w_val (v_move rfl) rfl ?_
  refine w_val (v_move rfl) rfl ?_
  refine w_val (v_build _ rfl (by intro _; simp [Instr.build, Instr.fill, Try.zeroValue115, go_sem]; rfl)) rfl ?_
  refine w_val (v_move rfl) rfl ?_
  refine w_val (v_move rfl) rfl ?_
  refine w_val (v_build _ rfl (by intro _; simp [Instr.build, Instr.fill, Try.zeroValue115, go_sem]; rfl)) rfl ?_
  refine w_val (v_move rfl) rfl ?_
  refine w_val (v_build _ rfl (by intro _; simp [Instr.build, Instr.fill, Try.zeroValue115, go_sem]; rfl)) rfl ?_
  refine w_val (v_move rfl) rfl ?_
  refine w_val (v_build _ rfl (by intro _; simp [Instr.build, Instr.fill, Try.zeroValue115, go_sem]; rfl)) rfl ?_
  refine w_val (v_build _ rfl (by intro _; simp [Instr.build, Instr.fill, Try.zeroValue118, go_sem]; rfl)) rfl ?_
  refine w_val (v_move rfl) rfl ?_
  refine w_val (v := .agg ((limL k).map (Value.int .i64)).toArray) (by rw [← lim_ex k h1 h2]; exact v_indexVN Try.underlying118 Try.underlying115 rfl Try.hi115 Try.cz115 rfl rfl (by omega)) rfl ?_
  refine w_op rfl ?_
  refine x_storeA 0 rfl rfl rfl Try.hi115 (by simp only [Try.cz115]; simp [limL_len]) (by simp [limL_len]; rfl) (one_ints _) ?_
  refine w_nil ?_
  refine e_retQ (q_ret1 rfl (ResV.agg 0 rfl rfl (by rw [isAggD, Try.underlying115]; rfl) (Try.cz115.trans (by simp [limL_len])) Try.hi115) ?_)
  exact fun w' hw' => ⟨rfl, hw'.res.nil⟩
end Go.SL
