/- Ytebdkaadbakhlaa: part D1 of this seat's own texts. -/
import Derived.Test.YtebdkaadbakhlaaF1
import Derived.Test.YtebdkaadbakhlaaEqu
import Derived.Test.YtebdkaadbakhlaaMo3
set_option linter.unusedVariables false
set_option linter.unusedSimpArgs false
open Go Go.Proofs Go.SL
set_option maxRecDepth 100000
namespace Go.SL
/-- a writer: its slice, the bytes -/
abbrev wrH (b : Nat) (v : Value) (bs : List UInt8) : Hp := [.blk b 95 [v], Own v 5 1 bs.length (byteCells bs)]
theorem writerPut_spec (b : Nat) (v : Value) (bs : List UInt8) (n : Int) (w : World) (h : ∀ c ∈ wrH b v bs, c.holds w) (hsep : (wrH b v bs).Pairwise Disj) (hk : bs.length ≤ 1000000) :
    Calls Try.prog 50 #[.pointer (some ⟨b, 0, none⟩), .int .i64 n] w fun e w' => ∃ v', True ∧ e = .returned (.tuple #[]) ∧ Res w (wrH b v bs) (wrH b v' (bs ++ [ub n])) w' := by
  refine enter (mc := wrH b v bs) (N := 13) Try.func50 rfl rfl rfl ?_ ?_ ?_
  · exact h
  · exact hsep
  have hub : IntKind.u8.wrap n = ((ub n).toNat : Int) := by rw [wrap_u8, ub_toNat]
  refine e_region ?_
  refine w_val (v_move rfl) rfl ?_
  refine w_val (v_move rfl) rfl ?_
  refine w_val (v_nilCheck rfl) rfl ?_
  first | refine w_val (v_loadB 0 rfl Try.underlying95 rfl rfl rfl) rfl ?_ | refine w_val (v_loadB 1 rfl Try.underlying95 rfl rfl rfl) rfl ?_ | refine w_val (v_loadB 2 rfl Try.underlying95 rfl rfl rfl) rfl ?_ | refine w_val (v_loadB 3 rfl Try.underlying95 rfl rfl rfl) rfl ?_ | refine w_val (v_loadB 4 rfl Try.underlying95 rfl rfl rfl) rfl ?_ | refine w_val (v_loadB 5 rfl Try.underlying95 rfl rfl rfl) rfl ?_ | refine w_val (v_loadB 6 rfl Try.underlying95 rfl rfl rfl) rfl ?_ | refine w_val (v_loadB 7 rfl Try.underlying95 rfl rfl rfl) rfl ?_
  refine w_val (v_move rfl) rfl ?_
  refine w_val (v_is (v' := .int .u8 ((ub n).toNat : Int)) (v_conv Try.underlying5 (by rw [Try.underlying3]; rfl) rfl) (by rw [hub])) rfl ?_
  refine w_op rfl ?_
  refine x_buildSlice _ (byteCells [ub n]) rfl (run_buildSlice Try.underlying95 Try.hi5 Try.cz5 Try.zeroValue5 rfl (by kernel_rfl)) rfl (fun b10 => ?_)
  refine w_op rfl ?_
  refine x_appendI (z := .int .u8 0) (n := bs.length) (xs := byteCells bs) (size := 1) (bytes := 1) (k := 1) (news := byteCells [ub n]) 2 rfl rfl rfl Try.underlying95 (by kernel_rfl) rfl (by decide) (fun w hw => blk_rds (hw.hold _ (List.mem_cons_self ..)) rfl) (one_byteCells _) (by omega) (by simp only [maxLen]; omega) rfl (fun v' => ?_)
  refine g_shape 2 rfl fun A1 k1 hv1 hk1 => ?_
  subst hv1
  refine w_val (v_nilCheck rfl) rfl ?_
  refine w_op rfl ?_
  first | refine x_store1 0 rfl rfl rfl Try.hi95 Try.cz95 rfl (by first | (simp; done) | (simp [intCells_len]; omega) | exact Nat.zero_lt_succ _) rfl ?_ | refine x_store1 1 rfl rfl rfl Try.hi95 Try.cz95 rfl (by first | (simp; done) | (simp [intCells_len]; omega) | exact Nat.zero_lt_succ _) rfl ?_ | refine x_store1 2 rfl rfl rfl Try.hi95 Try.cz95 rfl (by first | (simp; done) | (simp [intCells_len]; omega) | exact Nat.zero_lt_succ _) rfl ?_ | refine x_store1 3 rfl rfl rfl Try.hi95 Try.cz95 rfl (by first | (simp; done) | (simp [intCells_len]; omega) | exact Nat.zero_lt_succ _) rfl ?_ | refine x_store1 4 rfl rfl rfl Try.hi95 Try.cz95 rfl (by first | (simp; done) | (simp [intCells_len]; omega) | exact Nat.zero_lt_succ _) rfl ?_ | refine x_store1 5 rfl rfl rfl Try.hi95 Try.cz95 rfl (by first | (simp; done) | (simp [intCells_len]; omega) | exact Nat.zero_lt_succ _) rfl ?_ | refine x_store1 6 rfl rfl rfl Try.hi95 Try.cz95 rfl (by first | (simp; done) | (simp [intCells_len]; omega) | exact Nat.zero_lt_succ _) rfl ?_ | refine x_store1 7 rfl rfl rfl Try.hi95 Try.cz95 rfl (by first | (simp; done) | (simp [intCells_len]; omega) | exact Nat.zero_lt_succ _) rfl ?_
  refine w_nil ?_
  refine e_endQ (q_ret0 rfl ?_)
  refine fun w' hw' => ⟨.slice A1 (bs.length + 1) k1, trivial, rfl, ?_⟩
  simp only [wrH, byteCells_app, List.length_append]
  exact (hw'.sub (.cons _ (List.Sublist.refl _))).res
theorem long8_at (n : Int) {i : Nat} (hi : i < 8) : (long8 n)[i]? = some (ub (n / 256 ^ i)) := by
  have : i = 0 ∨ i = 1 ∨ i = 2 ∨ i = 3 ∨ i = 4 ∨ i = 5 ∨ i = 6 ∨ i = 7 := by omega
  rcases this with rfl | rfl | rfl | rfl | rfl | rfl | rfl | rfl <;> simp [long8]
theorem long_byte {n : Int} (h1 : -9223372036854775808 ≤ n) (h2 : n ≤ 9223372036854775807) {i : Nat} (hi : i < 8) : IntKind.u64.wrap n / 2 ^ (8 * i) % 256 = n / 256 ^ i % 256 := by
  have hw : IntKind.u64.wrap n = n % 18446744073709551616 := by simp [IntKind.wrap, IntKind.bits, IntKind.signed]
  have : i = 0 ∨ i = 1 ∨ i = 2 ∨ i = 3 ∨ i = 4 ∨ i = 5 ∨ i = 6 ∨ i = 7 := by omega
  rw [hw]
  rcases this with rfl | rfl | rfl | rfl | rfl | rfl | rfl | rfl <;> simp <;> omega
theorem writerLong_spec (b : Nat) (v : Value) (bs : List UInt8) (n : Int) (w : World) (h : ∀ c ∈ wrH b v bs, c.holds w) (hsep : (wrH b v bs).Pairwise Disj) (hk : bs.length ≤ 900000) (hn1 : -9223372036854775808 ≤ n) (hn2 : n ≤ 9223372036854775807) :
    Calls Try.prog 51 #[.pointer (some ⟨b, 0, none⟩), .int .i64 n] w fun e w' => ∃ v', True ∧ e = .returned (.tuple #[]) ∧ Res w (wrH b v bs) (wrH b v' (bs ++ long8 n)) w' := by
  refine enter (mc := wrH b v bs) (N := 18) Try.func51 rfl rfl rfl ?_ ?_ ?_
  · exact h
  · exact hsep
  refine e_seq ?_
  refine e_region ?_
  refine w_val (v_move rfl) rfl ?_
  refine w_nil ?_
  refine e_block ?_
  refine e_loopH (σ := Nat × Value) [0, 1] (.cons rfl (.cons rfl .nil)) (fun x => [(5, .int .i64 x.1)]) (fun x => wrH b x.2 (bs ++ (long8 n).take x.1)) (fun x => x.1 ≤ 8) (fun x => 8 - x.1) (0, v) (by dsimp only; omega) (by repeat (first | exact Sub.nil _ | refine Sub.cons rfl ?_)) (fun _ hw => by simpa using hw) ?_
  rintro ⟨i, v⟩ hi
  dsimp only at hi
  refine e_seq ?_
  refine e_region ?_
  refine w_val (v_lss rfl rfl) rfl ?_
  refine w_nil ?_
  refine e_seq ?_
  refine e_condD rfl (fun hlt => ?_) (fun hlt => ?_)
  · have hlt' : i < 8 := by omega
    have e1 : (8 * (i : Int)).toNat = 8 * i := by omega
    have e2 : min (8 * i) IntKind.u64.bits = 8 * i := by have : IntKind.u64.bits = 64 := rfl; omega
    have hb := long_byte hn1 hn2 hlt'
    have hm := and_mask (k := .u64) (.inr rfl) (p := IntKind.u64.wrap n / 2 ^ (8 * i)) (Int.ediv_nonneg (u64_nonneg n) (Int.pow_nonneg (by decide))) (by
      refine Int.lt_of_le_of_lt (Int.ediv_le_self _ (u64_nonneg n)) ?_
      have hw : IntKind.u64.wrap n = n % 18446744073709551616 := by simp [IntKind.wrap, IntKind.bits, IntKind.signed]
      have : IntKind.u64.bits = 64 := rfl
      rw [hw, this]
      omega) 8 (by decide)
    rw [show (2 : Int) ^ 8 = 256 from rfl, hb] at hm
    refine e_skip ?_
    refine e_seq ?_
    refine e_block ?_
    refine e_seq ?_
    refine e_region ?_
    refine w_val (v_move rfl) rfl ?_
    refine w_val (v_assign rfl) rfl ?_
    refine w_nil ?_
    refine e_region ?_
    refine w_val (v_move rfl) rfl ?_
    refine w_val (v_move rfl) rfl ?_
    refine w_val (v_conv Try.underlying97 (by rw [Try.underlying2]; rfl) rfl) rfl ?_
    refine w_val (v_move rfl) rfl ?_
    first | refine w_val (v_mul rfl rfl (by omega)) rfl ?_ | refine w_val (v_mulw rfl rfl) rfl ?_
    refine w_val (v_is (v' := .int .u64 (IntKind.u64.wrap n / 2 ^ (8 * i))) (v_shr rfl rfl (by omega)) (by rw [e1, e2])) rfl ?_
    refine w_val (v_is (v' := .int .u64 (n / 256 ^ i % 256)) (v_and rfl rfl) (by rw [← hm]; rfl)) rfl ?_
    refine w_val (v_is (v' := .int .i64 (n / 256 ^ i % 256)) (v_conv Try.underlying3 (by rw [Try.underlying97]; rfl) rfl) (by rw [wrap_i64 (by omega) (by omega)])) rfl ?_
    refine w_op rfl ?_
    refine x_call (dst := some 16) (mc := wrH b v (bs ++ (long8 n).take i)) (mr := []) (σ := Value) (fun _ => True) (fun _ => .tuple #[]) (fun v' => wrH b v' (bs ++ (long8 n).take i ++ [ub (n / 256 ^ i % 256)])) rfl rfl rfl Try.call50 (fun w hw => writerPut_spec b v (bs ++ (long8 n).take i) _ w hw.part.1 hw.part.2 (by simp; omega)) rfl (fun v' _ => ?_)
    refine w_nil ?_
    have hnext : bs ++ (long8 n).take i ++ [ub (n / 256 ^ i % 256)] = bs ++ (long8 n).take (i + 1) := by
      have h1 := long8_at n hlt'
      have h2 : ub (n / 256 ^ i % 256) = ub (n / 256 ^ i) := by unfold ub; congr 2; omega
      rw [List.take_add_one, h1, h2]
      simp
    rw [hnext]
    refine e_blk ?_
    refine e_region ?_
    first | refine w_val (v_add rfl rfl (by omega)) rfl ?_ | refine w_val (v_addw rfl rfl) rfl ?_
    refine w_val (v_move rfl) rfl ?_
    refine w_nil ?_
    exact e_round ((i + 1, v')) (by dsimp only; omega) (by dsimp only; omega) (by repeat (first | exact Sub.nil _ | refine Sub.cons rfl ?_)) (fun _ hw => by simpa using hw)
  · obtain rfl : i = 8 := by omega
    refine e_exit rfl ?_
    refine e_endQ (q_ret0 rfl ?_)
    exact fun w' hw' => ⟨v, trivial, rfl, by have := hw'.res; rwa [show (long8 n).take 8 = long8 n from rfl] at this⟩
end Go.SL
