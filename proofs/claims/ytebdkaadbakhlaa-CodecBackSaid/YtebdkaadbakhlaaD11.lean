/- Ytebdkaadbakhlaa: part D11 of this seat's own texts. -/
import Derived.Test.YtebdkaadbakhlaaD10
import Derived.Test.YtebdkaadbakhlaaMo6
set_option linter.unusedVariables false
set_option linter.unusedSimpArgs false
open Go Go.Proofs Go.SL
set_option maxRecDepth 100000
namespace Go.SL
theorem lit_round {w : World} {b12 b11 e e' : Nat} {d : DeedL} (h12 : (Chunk.blk b12 e [.slice (some ⟨b11, 0, none⟩) d.length d.length]).holds w) (h11 : (Chunk.blk b11 e' (deedCells d)).holds w) : IsRound w.cell? (.slice (some ⟨b12, 0, none⟩) 1 1) [d] :=
  ⟨[.slice (some ⟨b11, 0, none⟩) d.length d.length], blk_rds h12 rfl, fun i hi => by
    have : i = 0 := by simpa using hi
    subst this
    exact ⟨_, rfl, isDeed_blk h11 (Nat.le_refl _)⟩⟩
abbrev op0 : OpL := ⟨2, 1, 2, 0, 0⟩
theorem begun_enc : encodeL [[op0]] = ([5, 0, 1, 1, 2, 33, 0], 0) := by decide +kernel
theorem begun_dec : decL roundFaultL [5, 0, 1, 1, 2, 33, 0, 9] = ([[op0]], 7, 0) := by decide +kernel
theorem begun_dec1 : decL roundFaultL [1] = ([], 0, 6) := by decide +kernel
theorem op0_in : ∀ d ∈ [[op0]], ∀ o ∈ d, OpIn o := by
  intro d hd o ho
  simp only [List.mem_singleton] at hd
  subst hd
  simp only [List.mem_singleton] at ho
  subst ho
  refine ⟨?_, ?_, ?_, ?_, ?_⟩ <;> (unfold In64; decide)
theorem codecBegun_spec (w : World) : Calls Try.prog 27 #[] w fun e w' => e = .returned (.bool true) ∧ Res w [] [] w' := by
  refine enter0 (N := 64) Try.func27 rfl rfl rfl ?_
  have hcE := fun (v : Value) (w : World) (h : IsRound w.cell? v [[op0]]) => Encode_spec v [[op0]] w h op0_in
  rw [begun_enc] at hcE
  refine e_seq ?_
  refine e_region ?_
  refine w_val (v_assign rfl) rfl ?_
  refine w_nil ?_
  refine e_seq ?_
  refine e_region ?_
  refine w_val (v_build (v := opV op0) _ rfl (by intro _; simp [Instr.build, Instr.fill, Try.zeroValue36, go_sem]; rfl)) rfl ?_
  refine w_op rfl ?_
  refine x_buildSlice _ (deedCells [op0]) rfl (run_buildSlice Try.underlying25 Try.hi36 Try.cz36 Try.zeroValue36 rfl (by kernel_rfl)) rfl (fun b11 => ?_)
  refine w_op rfl ?_
  refine x_buildSlice _ ([.slice (some ⟨b11, 0, none⟩) 1 1]) rfl (run_buildSlice Try.underlying40 Try.hi25 Try.cz25 Try.zeroValue25 rfl (by kernel_rfl)) rfl (fun b12 => ?_)
  refine w_op rfl ?_
  refine x_call (dst := some 13) (mc := []) (σ := Value) (fun _ => True) (fun sl => .tuple #[sl, .int .i64 0]) (fun sl => [Own sl 5 1 7 (byteCells [5, 0, 1, 1, 2, 33, 0])]) rfl rfl rfl Try.call29 (fun w hw => hcE _ w (lit_round (d := [op0]) (hw.mem (i := 0) rfl) (hw.mem (i := 1) rfl))) rfl (fun sl _ => ?_)
  refine g_shape 0 rfl fun A1 k1 hv1 hk1 => ?_
  subst hv1
  refine w_val (v_move rfl) rfl ?_
  refine w_val (v_extract rfl rfl) rfl ?_
  refine w_val (v_extract rfl rfl) rfl ?_
  refine w_val (v_assign rfl) rfl ?_
  refine w_val (v_assign rfl) rfl ?_
  refine w_nil ?_
  refine e_seq ?_
  refine e_region ?_
  refine w_val (v_move rfl) rfl ?_
  refine w_heap (fun _ hw => hw.ownNil 5 1) ?_
  refine w_op rfl ?_
  refine x_appendI (z := .int .u8 0) (n := 0) (xs := []) (size := 1) (bytes := 1) (k := 7) (news := byteCells [5, 0, 1, 1, 2, 33, 0]) 0 rfl rfl rfl Try.underlying58 (by kernel_rfl) rfl (by decide) (fun w hw => own_rds (hw.mem (i := 1) rfl)) (one_byteCells _) (by decide) (by decide) rfl (fun v18 => ?_)
  refine w_op rfl ?_
  refine x_buildSlice _ (byteCells [9]) rfl (run_buildSlice Try.underlying58 Try.hi5 Try.cz5 Try.zeroValue5 rfl (by kernel_rfl)) rfl (fun b19 => ?_)
  refine w_op rfl ?_
  refine x_appendI (z := .int .u8 0) (n := 7) (xs := byteCells [5, 0, 1, 1, 2, 33, 0]) (size := 1) (bytes := 1) (k := 1) (news := byteCells [9]) 1 rfl rfl rfl Try.underlying58 (by kernel_rfl) rfl (by decide) (fun w hw => blk_rds (hw.hold _ (List.mem_cons_self ..)) rfl) (one_byteCells _) (by decide) (by decide) rfl (fun v20 => ?_)
  have hcD := fun (v : Value) (w : World) (h : IsBytes w.cell? v [5, 0, 1, 1, 2, 33, 0, 9]) => Decode_spec v [5, 0, 1, 1, 2, 33, 0, 9] w h
  have hcD1 := fun (v : Value) (w : World) (h : IsBytes w.cell? v [1]) => Decode_spec v [1] w h
  rw [begun_dec] at hcD
  rw [begun_dec1] at hcD1
  dsimp only at hcD hcD1
  refine w_op rfl ?_
  refine x_call (dst := some 21) (mc := []) (σ := Value × (Nat → Prop)) (fun _ => True) (fun s => .tuple #[s.1, .int .i64 7, .int .i64 0]) (fun s => [Keep s.2 (fun c => IsRound c s.1 [[op0]])]) rfl rfl rfl Try.call31 (fun w hw => hcD _ w (own_rds (hw.mem (i := 1) rfl))) rfl (fun s _ => ?_)
  obtain ⟨sl, G⟩ := s
  dsimp only
  refine g_roundV 0 rfl fun A2 k2 vs hsl hk2 had hvl hvs => ?_
  subst hsl
  obtain ⟨ad, rfl⟩ := had (by decide)
  obtain ⟨A3, k3, hv0, _, _⟩ := hvs 0 (by decide)
  refine w_val (v_move rfl) rfl ?_
  refine w_val (v_extract rfl rfl) rfl ?_
  refine w_val (v_extract rfl rfl) rfl ?_
  refine w_val (v_extract rfl rfl) rfl ?_
  refine w_val (v_assign rfl) rfl ?_
  refine w_val (v_assign rfl) rfl ?_
  refine w_val (v_assign rfl) rfl ?_
  refine w_nil ?_
  refine e_seq ?_
  refine e_region ?_
  refine w_op rfl ?_
  refine x_buildSlice _ (byteCells [1]) rfl (run_buildSlice Try.underlying58 Try.hi5 Try.cz5 Try.zeroValue5 rfl (by kernel_rfl)) rfl (fun b26 => ?_)
  refine w_op rfl ?_
  refine x_call (dst := some 27) (mc := []) (σ := Value × (Nat → Prop)) (fun _ => True) (fun s => .tuple #[s.1, .int .i64 0, .int .i64 6]) (fun s => [Keep s.2 (fun c => IsRound c s.1 [])]) rfl rfl rfl Try.call31 (fun w hw => hcD1 _ w (blk_rds (hw.mem (i := 0) rfl) rfl)) rfl (fun s2 _ => ?_)
  obtain ⟨sl2, G2⟩ := s2
  dsimp only
  refine w_val (v_move rfl) rfl ?_
  refine w_val (v_extract rfl rfl) rfl ?_
  refine w_val (v_extract rfl rfl) rfl ?_
  refine w_val (v_extract rfl rfl) rfl ?_
  refine w_val (v_assign rfl) rfl ?_
  refine w_val (v_assign rfl) rfl ?_
  refine w_val (v_assign rfl) rfl ?_
  refine w_nil ?_
  refine e_seq ?_
  refine e_region ?_
  refine w_val (v_move rfl) rfl ?_
  refine w_val (v_is (v' := .bool true) (v_eql rfl rfl) (by rfl)) rfl ?_
  refine w_val (v_move rfl) rfl ?_
  refine w_want rfl rfl ?_
  refine w_val (v_move rfl) rfl ?_
  refine w_want rfl rfl ?_
  refine w_val (v_is (v' := .bool true) (v_eql rfl rfl) (by rfl)) rfl ?_
  first | refine w_val (v_pickT rfl rfl) rfl ?_ | refine w_val (v_pickF rfl rfl) rfl ?_
  refine w_val (v_move rfl) rfl ?_
  refine w_want rfl rfl ?_
  refine w_val (v_move rfl) rfl ?_
  refine w_want rfl rfl ?_
  refine w_val (v_is (v' := .bool true) (v_eql rfl rfl) (by rfl)) rfl ?_
  first | refine w_val (v_pickT rfl rfl) rfl ?_ | refine w_val (v_pickF rfl rfl) rfl ?_
  refine w_val (v_move rfl) rfl ?_
  refine w_want rfl rfl ?_
  refine w_val (v_move rfl) rfl ?_
  refine w_want rfl rfl ?_
  refine w_val (v_move rfl) rfl ?_
  refine w_want rfl rfl ?_
  refine w_val (v_lenS Try.underlying58 rfl) rfl ?_
  refine w_want rfl rfl ?_
  refine w_val (v_is (v' := .bool true) (v_eql rfl rfl) (by rfl)) rfl ?_
  first | refine w_val (v_pickT rfl rfl) rfl ?_ | refine w_val (v_pickF rfl rfl) rfl ?_
  refine w_val (v_move rfl) rfl ?_
  refine w_want rfl rfl ?_
  refine w_val (v_move rfl) rfl ?_
  refine w_want rfl rfl ?_
  refine w_val (v_bytesStr (b := [5, 0, 1, 1, 2, 33, 0]) Try.underlying58 Try.underlying5 Try.underlying9 rfl (fun w hw => own_rds (hw.mem (i := 5) rfl))) rfl ?_
  refine w_want rfl rfl ?_
  refine w_val (v_is (v' := .bool true) (v_eqlStr rfl rfl) (congrArg Value.bool (by decide +kernel))) rfl ?_
  first | refine w_val (v_pickT rfl rfl) rfl ?_ | refine w_val (v_pickF rfl rfl) rfl ?_
  refine w_val (v_move rfl) rfl ?_
  refine w_want rfl rfl ?_
  refine w_val (v_move rfl) rfl ?_
  refine w_want rfl rfl ?_
  refine w_val (v_lenS Try.underlying40 rfl) rfl ?_
  refine w_want rfl rfl ?_
  refine w_val (v_is (v' := .bool true) (v_eql rfl rfl) (by rfl)) rfl ?_
  first | refine w_val (v_pickT rfl rfl) rfl ?_ | refine w_val (v_pickF rfl rfl) rfl ?_
  refine w_val (v_move rfl) rfl ?_
  refine w_want rfl rfl ?_
  refine w_val (v_move rfl) rfl ?_
  refine w_want rfl rfl ?_
  first | refine w_val (v_indexSB Try.underlying40 Try.hi25 Try.cz25 rfl rfl (by first | omega | decide)) rfl ?_ | refine w_val (v_indexS Try.underlying40 Try.hi25 Try.cz25 rfl rfl (by first | omega | decide)) rfl ?_
  refine w_want rfl rfl ?_
  refine w_val (v_loadK 2 rfl (RoundV.up _ _ _) (fun c hc => by obtain ⟨ad', e, h⟩ := hc.cell hv0; injection e with e; subst e; exact h) Try.underlying25 rfl rfl) rfl ?_
  refine w_want rfl rfl ?_
  refine w_val (v_lenS Try.underlying25 rfl) rfl ?_
  refine w_want rfl rfl ?_
  refine w_val (v_is (v' := .bool true) (v_eql rfl rfl) (by rfl)) rfl ?_
  first | refine w_val (v_pickT rfl rfl) rfl ?_ | refine w_val (v_pickF rfl rfl) rfl ?_
  refine w_val (v_assign rfl) rfl ?_
  refine w_nil ?_
  refine e_retQ (q_ret1 rfl (.tmp rfl) ?_)
  exact fun w' hw' => ⟨rfl, hw'.res.nil⟩
end Go.SL
