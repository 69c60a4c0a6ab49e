/- Ytebdkaadbakhlaa: part D4 of this seat's own texts. -/
import Derived.Test.YtebdkaadbakhlaaD3
set_option linter.unusedVariables false
set_option linter.unusedSimpArgs false
open Go Go.Proofs Go.SL
set_option maxRecDepth 100000
namespace Go.SL
theorem list8 {α : Type} {l : List α} (h : 8 ≤ l.length) : ∃ a b c d e f g h' r, l = a :: b :: c :: d :: e :: f :: g :: h' :: r := by
  match l, h with
  | a :: b :: c :: d :: e :: f :: g :: h' :: r, _ => exact ⟨a, b, c, d, e, f, g, h', r, rfl⟩
theorem getOp_num {a : UInt8} {rest : List UInt8} (h : 8 ≤ rest.length) : getOp (1 :: a :: rest) = some (⟨1, a.toNat, 0, 0, numOf (rest.take 8)⟩, rest.drop 8) := by
  obtain ⟨b0, b1, b2, b3, b4, b5, b6, b7, r, rfl⟩ := list8 h
  simp only [getOp, if_true, List.take_succ_cons, List.take_zero, List.drop_succ_cons, List.drop_zero, numOf, num8_le]
theorem getOp_short {a : UInt8} {rest : List UInt8} (h : rest.length < 8) : getOp (1 :: a :: rest) = none := by
  simp only [getOp, if_true]
  split
  · rename_i heq
    simp only [List.cons.injEq] at heq
    obtain ⟨_, rfl⟩ := heq
    simp at h
    omega
  · rfl
theorem is1 {x : UInt8} (h : (x.toNat : Int) = 1) : x = 1 := by
  rw [← UInt8.toNat_inj]
  have : (1 : UInt8).toNat = 1 := rfl
  omega
theorem readerOp_spec (b : Nat) (v : Value) (bs : List UInt8) (w : World) (hb : (rdB b v).holds w) (h : IsBytes (ofb w b) v bs) :
    Calls Try.prog 69 #[.pointer (some ⟨b, 0, none⟩)] w fun e w' =>
      (∃ s : Value × OpL × List UInt8, (getOp bs = some (s.2.1, s.2.2) ∧ Tail v bs s.1 s.2.2) ∧ e = .returned (opV s.2.1) ∧ Res w [rdB b v] [rdB b s.1] w') ∨
      (∃ _u : Unit, getOp bs = none ∧ e = .panicked [{ v := gone3, recovered := false }] ∧ Res w [rdB b v] [] w') := by
  rw [ofb_eq w b 112 [v]] at h
  refine enter (mc := [rdB b v]) (N := 30) Try.func69 rfl rfl rfl ?_ ?_ ?_
  · intro c hc; simp only [List.mem_singleton] at hc; subst hc; exact hb
  · simp
  refine e_seq ?_
  refine e_region ?_
  refine w_op rfl ?_
  refine x_alloc (z := .agg #[.int .i64 0, .int .i64 0, .int .i64 0, .int .i64 0, .int .i64 0]) (by intro w; exact Try.zeroValue36 w) rfl (fun b2 => ?_)
  refine w_nil ?_
  refine e_seq ?_
  refine e_region ?_
  refine w_val (v_move rfl) rfl ?_
  refine w_heap (fun _ hw => hw.perm (.swap _ _ _)) ?_
  refine w_op rfl ?_
  refine x_callP (dst := some 6) (mc := [rdB b v]) (mr := [_]) (σ := Value × UInt8 × List UInt8) (τ := Unit) (fun s => bs = s.2.1 :: s.2.2 ∧ Tail v bs s.1 s.2.2) (fun s => .int .i64 (s.2.1.toNat : Int)) (fun s => [rdB b s.1]) (fun _ => bs = []) (fun _ => gone3) (fun _ => []) rfl rfl rfl Try.call68 (fun w hw => readerByte_spec b v bs w (hw.mem (i := 0) rfl) (h.mono (hw.ofb 0 rfl))) rfl (fun _ hn => g_panic (q_panic fun w' hw' => .inr ⟨(), by rw [hn]; rfl, rfl, hw'.res.nil⟩)) ?_
  rintro ⟨v1, k, b1⟩ ⟨rfl, ht1⟩
  dsimp only at ht1 ⊢
  have hk8 := k.toNat_lt
  have h1 := ht1 _ h
  refine w_val (v_build _ rfl (by intro _; simp [Instr.build, Instr.fill, Try.zeroValue36, go_sem]; rfl)) rfl ?_
  refine w_op rfl ?_
  refine x_alloc (z := .agg #[.int .i64 0, .int .i64 0, .int .i64 0, .int .i64 0, .int .i64 0]) (by intro w; exact Try.zeroValue36 w) rfl (fun b3 => ?_)
  refine w_op rfl ?_
  first | refine x_storeA 0 rfl rfl rfl Try.hi36 Try.cz36 rfl (by first | (simp [Value.oneCell', opCells]; done) | assumption | exact one_ints _ | exact one_resCells _ _) ?_ | refine x_storeA 1 rfl rfl rfl Try.hi36 Try.cz36 rfl (by first | (simp [Value.oneCell', opCells]; done) | assumption | exact one_ints _ | exact one_resCells _ _) ?_ | refine x_storeA 2 rfl rfl rfl Try.hi36 Try.cz36 rfl (by first | (simp [Value.oneCell', opCells]; done) | assumption | exact one_ints _ | exact one_resCells _ _) ?_ | refine x_storeA 3 rfl rfl rfl Try.hi36 Try.cz36 rfl (by first | (simp [Value.oneCell', opCells]; done) | assumption | exact one_ints _ | exact one_resCells _ _) ?_ | refine x_storeA 4 rfl rfl rfl Try.hi36 Try.cz36 rfl (by first | (simp [Value.oneCell', opCells]; done) | assumption | exact one_ints _ | exact one_resCells _ _) ?_ | refine x_storeA 5 rfl rfl rfl Try.hi36 Try.cz36 rfl (by first | (simp [Value.oneCell', opCells]; done) | assumption | exact one_ints _ | exact one_resCells _ _) ?_ | refine x_storeA 6 rfl rfl rfl Try.hi36 Try.cz36 rfl (by first | (simp [Value.oneCell', opCells]; done) | assumption | exact one_ints _ | exact one_resCells _ _) ?_ | refine x_storeA 7 rfl rfl rfl Try.hi36 Try.cz36 rfl (by first | (simp [Value.oneCell', opCells]; done) | assumption | exact one_ints _ | exact one_resCells _ _) ?_
  refine w_nil ?_
  refine e_seq ?_
  refine e_seq ?_
  refine e_region ?_
  first | refine w_val (v_fieldAddrB (o := 0) Try.underlying36 rfl rfl Try.nz3 rfl) rfl ?_ | refine w_val (v_fieldAddr (o := 0) Try.underlying36 rfl rfl Try.nz3 rfl) rfl ?_
  first | refine w_val (v_loadB 0 rfl Try.underlying3 rfl rfl rfl) rfl ?_ | refine w_val (v_loadB 1 rfl Try.underlying3 rfl rfl rfl) rfl ?_ | refine w_val (v_loadB 2 rfl Try.underlying3 rfl rfl rfl) rfl ?_ | refine w_val (v_loadB 3 rfl Try.underlying3 rfl rfl rfl) rfl ?_ | refine w_val (v_loadB 4 rfl Try.underlying3 rfl rfl rfl) rfl ?_ | refine w_val (v_loadB 5 rfl Try.underlying3 rfl rfl rfl) rfl ?_ | refine w_val (v_loadB 6 rfl Try.underlying3 rfl rfl rfl) rfl ?_ | refine w_val (v_loadB 7 rfl Try.underlying3 rfl rfl rfl) rfl ?_
  refine w_val (v_eql rfl rfl) rfl ?_
  refine w_nil ?_
  refine e_condD rfl (fun hk1 => ?_) (fun hk1 => ?_)
  · have hk1' := is1 hk1
    subst hk1'
    refine e_seq ?_
    refine e_region ?_
    refine w_val (v_move rfl) rfl ?_
    refine w_heap (fun _ hw => hw.perm (.swap _ _ _)) ?_
    refine w_op rfl ?_
    refine x_callP (dst := some 12) (mc := [rdB b v1]) (mr := [_, _]) (σ := Value × UInt8 × List UInt8) (τ := Unit) (fun s => b1 = s.2.1 :: s.2.2 ∧ Tail v1 b1 s.1 s.2.2) (fun s => .int .i64 (s.2.1.toNat : Int)) (fun s => [rdB b s.1]) (fun _ => b1 = []) (fun _ => gone3) (fun _ => []) rfl rfl rfl Try.call68 (fun w hw => readerByte_spec b v1 b1 w (hw.mem (i := 0) rfl) (h1.mono (hw.ofb 0 rfl))) rfl (fun _ hn => g_panic (q_panic fun w' hw' => .inr ⟨(), by rw [hn]; rfl, rfl, hw'.res.nil⟩)) ?_
    rintro ⟨v2, a, b2⟩ ⟨rfl, ht2⟩
    dsimp only at ht2 ⊢
    have h2 := ht2 _ h1
    first | refine w_val (v_fieldAddrB (o := 1) Try.underlying36 rfl rfl Try.nz3 rfl) rfl ?_ | refine w_val (v_fieldAddr (o := 1) Try.underlying36 rfl rfl Try.nz3 rfl) rfl ?_
    refine w_op rfl ?_
    first | refine x_store1 0 rfl rfl rfl Try.hi3 Try.cz3 rfl (by first | (simp; done) | (simp [intCells_len]; omega) | exact Nat.zero_lt_succ _) rfl ?_ | refine x_store1 1 rfl rfl rfl Try.hi3 Try.cz3 rfl (by first | (simp; done) | (simp [intCells_len]; omega) | exact Nat.zero_lt_succ _) rfl ?_ | refine x_store1 2 rfl rfl rfl Try.hi3 Try.cz3 rfl (by first | (simp; done) | (simp [intCells_len]; omega) | exact Nat.zero_lt_succ _) rfl ?_ | refine x_store1 3 rfl rfl rfl Try.hi3 Try.cz3 rfl (by first | (simp; done) | (simp [intCells_len]; omega) | exact Nat.zero_lt_succ _) rfl ?_ | refine x_store1 4 rfl rfl rfl Try.hi3 Try.cz3 rfl (by first | (simp; done) | (simp [intCells_len]; omega) | exact Nat.zero_lt_succ _) rfl ?_ | refine x_store1 5 rfl rfl rfl Try.hi3 Try.cz3 rfl (by first | (simp; done) | (simp [intCells_len]; omega) | exact Nat.zero_lt_succ _) rfl ?_ | refine x_store1 6 rfl rfl rfl Try.hi3 Try.cz3 rfl (by first | (simp; done) | (simp [intCells_len]; omega) | exact Nat.zero_lt_succ _) rfl ?_ | refine x_store1 7 rfl rfl rfl Try.hi3 Try.cz3 rfl (by first | (simp; done) | (simp [intCells_len]; omega) | exact Nat.zero_lt_succ _) rfl ?_
    refine w_nil ?_
    refine e_seq ?_
    refine e_region ?_
    refine w_val (v_move rfl) rfl ?_
    refine w_op rfl ?_
    refine x_callP (dst := some 15) (mc := [rdB b v2]) (mr := [_, _]) (σ := Value) (τ := Unit) (fun s => 8 ≤ b2.length ∧ Tail v2 b2 s (b2.drop 8)) (fun s => .int .i64 (numOf (b2.take 8))) (fun s => [rdB b s]) (fun _ => b2.length < 8) (fun _ => gone3) (fun _ => []) rfl rfl rfl Try.call70 (fun w hw => readerLong_spec b v2 b2 w (hw.mem (i := 0) rfl) (h2.mono (hw.ofb 0 rfl))) rfl (fun _ hn => g_panic (q_panic fun w' hw' => .inr ⟨(), getOp_short hn, rfl, hw'.res.nil⟩)) ?_
    rintro v3 ⟨h8, ht3⟩
    dsimp only
    first | refine w_val (v_fieldAddrB (o := 4) Try.underlying36 rfl rfl Try.nz2 rfl) rfl ?_ | refine w_val (v_fieldAddr (o := 4) Try.underlying36 rfl rfl Try.nz2 rfl) rfl ?_
    refine w_op rfl ?_
    first | refine x_store1 0 rfl rfl rfl Try.hi2 Try.cz2 rfl (by first | (simp; done) | (simp [intCells_len]; omega) | exact Nat.zero_lt_succ _) rfl ?_ | refine x_store1 1 rfl rfl rfl Try.hi2 Try.cz2 rfl (by first | (simp; done) | (simp [intCells_len]; omega) | exact Nat.zero_lt_succ _) rfl ?_ | refine x_store1 2 rfl rfl rfl Try.hi2 Try.cz2 rfl (by first | (simp; done) | (simp [intCells_len]; omega) | exact Nat.zero_lt_succ _) rfl ?_ | refine x_store1 3 rfl rfl rfl Try.hi2 Try.cz2 rfl (by first | (simp; done) | (simp [intCells_len]; omega) | exact Nat.zero_lt_succ _) rfl ?_ | refine x_store1 4 rfl rfl rfl Try.hi2 Try.cz2 rfl (by first | (simp; done) | (simp [intCells_len]; omega) | exact Nat.zero_lt_succ _) rfl ?_ | refine x_store1 5 rfl rfl rfl Try.hi2 Try.cz2 rfl (by first | (simp; done) | (simp [intCells_len]; omega) | exact Nat.zero_lt_succ _) rfl ?_ | refine x_store1 6 rfl rfl rfl Try.hi2 Try.cz2 rfl (by first | (simp; done) | (simp [intCells_len]; omega) | exact Nat.zero_lt_succ _) rfl ?_ | refine x_store1 7 rfl rfl rfl Try.hi2 Try.cz2 rfl (by first | (simp; done) | (simp [intCells_len]; omega) | exact Nat.zero_lt_succ _) rfl ?_
    refine w_nil ?_
    refine e_seq ?_
    refine e_region ?_
    first | refine w_val (v_loadBA 0 rfl Try.underlying36 rfl Try.hi36 Try.cz36 rfl) rfl ?_ | refine w_val (v_loadBA 1 rfl Try.underlying36 rfl Try.hi36 Try.cz36 rfl) rfl ?_ | refine w_val (v_loadBA 2 rfl Try.underlying36 rfl Try.hi36 Try.cz36 rfl) rfl ?_ | refine w_val (v_loadBA 3 rfl Try.underlying36 rfl Try.hi36 Try.cz36 rfl) rfl ?_ | refine w_val (v_loadBA 4 rfl Try.underlying36 rfl Try.hi36 Try.cz36 rfl) rfl ?_ | refine w_val (v_loadBA 5 rfl Try.underlying36 rfl Try.hi36 Try.cz36 rfl) rfl ?_ | refine w_val (v_loadBA 6 rfl Try.underlying36 rfl Try.hi36 Try.cz36 rfl) rfl ?_ | refine w_val (v_loadBA 7 rfl Try.underlying36 rfl Try.hi36 Try.cz36 rfl) rfl ?_ | refine w_val (v_loadBN 0 rfl Try.underlying36 rfl Try.hi36 Try.cz36 rfl rfl rfl) rfl ?_ | refine w_val (v_loadBN 1 rfl Try.underlying36 rfl Try.hi36 Try.cz36 rfl rfl rfl) rfl ?_ | refine w_val (v_loadBN 2 rfl Try.underlying36 rfl Try.hi36 Try.cz36 rfl rfl rfl) rfl ?_ | refine w_val (v_loadBN 3 rfl Try.underlying36 rfl Try.hi36 Try.cz36 rfl rfl rfl) rfl ?_ | refine w_val (v_loadBN 4 rfl Try.underlying36 rfl Try.hi36 Try.cz36 rfl rfl rfl) rfl ?_ | refine w_val (v_loadBN 5 rfl Try.underlying36 rfl Try.hi36 Try.cz36 rfl rfl rfl) rfl ?_ | refine w_val (v_loadBN 6 rfl Try.underlying36 rfl Try.hi36 Try.cz36 rfl rfl rfl) rfl ?_ | refine w_val (v_loadBN 7 rfl Try.underlying36 rfl Try.hi36 Try.cz36 rfl rfl rfl) rfl ?_
    refine w_op rfl ?_
    first | refine x_storeA 0 rfl rfl rfl Try.hi36 Try.cz36 rfl (by first | (simp [Value.oneCell', opCells]; done) | assumption | exact one_ints _ | exact one_resCells _ _) ?_ | refine x_storeA 1 rfl rfl rfl Try.hi36 Try.cz36 rfl (by first | (simp [Value.oneCell', opCells]; done) | assumption | exact one_ints _ | exact one_resCells _ _) ?_ | refine x_storeA 2 rfl rfl rfl Try.hi36 Try.cz36 rfl (by first | (simp [Value.oneCell', opCells]; done) | assumption | exact one_ints _ | exact one_resCells _ _) ?_ | refine x_storeA 3 rfl rfl rfl Try.hi36 Try.cz36 rfl (by first | (simp [Value.oneCell', opCells]; done) | assumption | exact one_ints _ | exact one_resCells _ _) ?_ | refine x_storeA 4 rfl rfl rfl Try.hi36 Try.cz36 rfl (by first | (simp [Value.oneCell', opCells]; done) | assumption | exact one_ints _ | exact one_resCells _ _) ?_ | refine x_storeA 5 rfl rfl rfl Try.hi36 Try.cz36 rfl (by first | (simp [Value.oneCell', opCells]; done) | assumption | exact one_ints _ | exact one_resCells _ _) ?_ | refine x_storeA 6 rfl rfl rfl Try.hi36 Try.cz36 rfl (by first | (simp [Value.oneCell', opCells]; done) | assumption | exact one_ints _ | exact one_resCells _ _) ?_ | refine x_storeA 7 rfl rfl rfl Try.hi36 Try.cz36 rfl (by first | (simp [Value.oneCell', opCells]; done) | assumption | exact one_ints _ | exact one_resCells _ _) ?_
    refine w_nil ?_
    refine e_retQ (q_ret1 rfl (ResV.agg 2 rfl rfl (by rw [isAggD, Try.underlying36]; rfl) (Try.cz36) Try.hi36) ?_)
    exact fun w' hw' => .inl ⟨(v3, ⟨1, a.toNat, 0, 0, numOf (b2.take 8)⟩, b2.drop 8), ⟨getOp_num h8, (ht1.trans ht2).trans ht3⟩, rfl, (hw'.sub (m' := [rdB b v3]) (.cons_cons _ (List.nil_sublist _))).res⟩
  · have hk1' : ¬ k = 1 := fun h => hk1 (by rw [h]; rfl)
    refine e_skip ?_
    refine e_seq ?_
    refine e_region ?_
    refine w_val (v_move rfl) rfl ?_
    refine w_heap (fun _ hw => hw.perm (.swap _ _ _)) ?_
    refine w_op rfl ?_
    refine x_callP (dst := some 19) (mc := [rdB b v1]) (mr := [_, _]) (σ := Value × UInt8 × List UInt8) (τ := Unit) (fun s => b1 = s.2.1 :: s.2.2 ∧ Tail v1 b1 s.1 s.2.2) (fun s => .int .i64 (s.2.1.toNat : Int)) (fun s => [rdB b s.1]) (fun _ => b1 = []) (fun _ => gone3) (fun _ => []) rfl rfl rfl Try.call68 (fun w hw => readerByte_spec b v1 b1 w (hw.mem (i := 0) rfl) (h1.mono (hw.ofb 0 rfl))) rfl (fun _ hn => g_panic (q_panic fun w' hw' => .inr ⟨(), by rw [hn]; simp [getOp, hk1'], rfl, hw'.res.nil⟩)) ?_
    rintro ⟨v2, x, b2⟩ ⟨rfl, ht2⟩
    dsimp only at ht2 ⊢
    have h2 := ht2 _ h1
    have hx8 := x.toNat_lt
    refine w_val (v_assign rfl) rfl ?_
    refine w_nil ?_
    refine e_seq ?_
    refine e_region ?_
    refine w_val (v_move rfl) rfl ?_
    refine w_val (v_is (v' := .int .i64 ((x.toNat : Int) % 16)) (v_and rfl rfl) (by rw [show (15 : Int) = ((2 ^ 4 - 1 : Nat) : Int) from rfl, and_mask (.inl rfl) (by omega) (by rw [show IntKind.i64.bits = 64 from rfl]; omega) 4 (by decide)]; rfl)) rfl ?_
    refine w_val (v_move rfl) rfl ?_
    refine w_val (v_is (v' := .int .i64 ((x.toNat : Int) / 16)) (v_shr rfl rfl (by omega)) (by rfl)) rfl ?_
    refine w_val (v_move rfl) rfl ?_
    refine w_op rfl ?_
    refine x_callP (dst := some 25) (mc := [rdB b v2]) (mr := [_, _]) (σ := Value × UInt8 × List UInt8) (τ := Unit) (fun s => b2 = s.2.1 :: s.2.2 ∧ Tail v2 b2 s.1 s.2.2) (fun s => .int .i64 (s.2.1.toNat : Int)) (fun s => [rdB b s.1]) (fun _ => b2 = []) (fun _ => gone3) (fun _ => []) rfl rfl rfl Try.call68 (fun w hw => readerByte_spec b v2 b2 w (hw.mem (i := 0) rfl) (h2.mono (hw.ofb 0 rfl))) rfl (fun _ hn => g_panic (q_panic fun w' hw' => .inr ⟨(), by rw [hn]; simp [getOp, hk1'], rfl, hw'.res.nil⟩)) ?_
    rintro ⟨v3, c, b3'⟩ ⟨rfl, ht3⟩
    dsimp only at ht3 ⊢
    first | refine w_val (v_fieldAddrB (o := 1) Try.underlying36 rfl rfl Try.nz3 rfl) rfl ?_ | refine w_val (v_fieldAddr (o := 1) Try.underlying36 rfl rfl Try.nz3 rfl) rfl ?_
    refine w_op rfl ?_
    first | refine x_store1 0 rfl rfl rfl Try.hi3 Try.cz3 rfl (by first | (simp; done) | (simp [intCells_len]; omega) | exact Nat.zero_lt_succ _) rfl ?_ | refine x_store1 1 rfl rfl rfl Try.hi3 Try.cz3 rfl (by first | (simp; done) | (simp [intCells_len]; omega) | exact Nat.zero_lt_succ _) rfl ?_ | refine x_store1 2 rfl rfl rfl Try.hi3 Try.cz3 rfl (by first | (simp; done) | (simp [intCells_len]; omega) | exact Nat.zero_lt_succ _) rfl ?_ | refine x_store1 3 rfl rfl rfl Try.hi3 Try.cz3 rfl (by first | (simp; done) | (simp [intCells_len]; omega) | exact Nat.zero_lt_succ _) rfl ?_ | refine x_store1 4 rfl rfl rfl Try.hi3 Try.cz3 rfl (by first | (simp; done) | (simp [intCells_len]; omega) | exact Nat.zero_lt_succ _) rfl ?_ | refine x_store1 5 rfl rfl rfl Try.hi3 Try.cz3 rfl (by first | (simp; done) | (simp [intCells_len]; omega) | exact Nat.zero_lt_succ _) rfl ?_ | refine x_store1 6 rfl rfl rfl Try.hi3 Try.cz3 rfl (by first | (simp; done) | (simp [intCells_len]; omega) | exact Nat.zero_lt_succ _) rfl ?_ | refine x_store1 7 rfl rfl rfl Try.hi3 Try.cz3 rfl (by first | (simp; done) | (simp [intCells_len]; omega) | exact Nat.zero_lt_succ _) rfl ?_
    first | refine w_val (v_fieldAddrB (o := 2) Try.underlying36 rfl rfl Try.nz3 rfl) rfl ?_ | refine w_val (v_fieldAddr (o := 2) Try.underlying36 rfl rfl Try.nz3 rfl) rfl ?_
    refine w_op rfl ?_
    first | refine x_store1 0 rfl rfl rfl Try.hi3 Try.cz3 rfl (by first | (simp; done) | (simp [intCells_len]; omega) | exact Nat.zero_lt_succ _) rfl ?_ | refine x_store1 1 rfl rfl rfl Try.hi3 Try.cz3 rfl (by first | (simp; done) | (simp [intCells_len]; omega) | exact Nat.zero_lt_succ _) rfl ?_ | refine x_store1 2 rfl rfl rfl Try.hi3 Try.cz3 rfl (by first | (simp; done) | (simp [intCells_len]; omega) | exact Nat.zero_lt_succ _) rfl ?_ | refine x_store1 3 rfl rfl rfl Try.hi3 Try.cz3 rfl (by first | (simp; done) | (simp [intCells_len]; omega) | exact Nat.zero_lt_succ _) rfl ?_ | refine x_store1 4 rfl rfl rfl Try.hi3 Try.cz3 rfl (by first | (simp; done) | (simp [intCells_len]; omega) | exact Nat.zero_lt_succ _) rfl ?_ | refine x_store1 5 rfl rfl rfl Try.hi3 Try.cz3 rfl (by first | (simp; done) | (simp [intCells_len]; omega) | exact Nat.zero_lt_succ _) rfl ?_ | refine x_store1 6 rfl rfl rfl Try.hi3 Try.cz3 rfl (by first | (simp; done) | (simp [intCells_len]; omega) | exact Nat.zero_lt_succ _) rfl ?_ | refine x_store1 7 rfl rfl rfl Try.hi3 Try.cz3 rfl (by first | (simp; done) | (simp [intCells_len]; omega) | exact Nat.zero_lt_succ _) rfl ?_
    first | refine w_val (v_fieldAddrB (o := 3) Try.underlying36 rfl rfl Try.nz3 rfl) rfl ?_ | refine w_val (v_fieldAddr (o := 3) Try.underlying36 rfl rfl Try.nz3 rfl) rfl ?_
    refine w_op rfl ?_
    first | refine x_store1 0 rfl rfl rfl Try.hi3 Try.cz3 rfl (by first | (simp; done) | (simp [intCells_len]; omega) | exact Nat.zero_lt_succ _) rfl ?_ | refine x_store1 1 rfl rfl rfl Try.hi3 Try.cz3 rfl (by first | (simp; done) | (simp [intCells_len]; omega) | exact Nat.zero_lt_succ _) rfl ?_ | refine x_store1 2 rfl rfl rfl Try.hi3 Try.cz3 rfl (by first | (simp; done) | (simp [intCells_len]; omega) | exact Nat.zero_lt_succ _) rfl ?_ | refine x_store1 3 rfl rfl rfl Try.hi3 Try.cz3 rfl (by first | (simp; done) | (simp [intCells_len]; omega) | exact Nat.zero_lt_succ _) rfl ?_ | refine x_store1 4 rfl rfl rfl Try.hi3 Try.cz3 rfl (by first | (simp; done) | (simp [intCells_len]; omega) | exact Nat.zero_lt_succ _) rfl ?_ | refine x_store1 5 rfl rfl rfl Try.hi3 Try.cz3 rfl (by first | (simp; done) | (simp [intCells_len]; omega) | exact Nat.zero_lt_succ _) rfl ?_ | refine x_store1 6 rfl rfl rfl Try.hi3 Try.cz3 rfl (by first | (simp; done) | (simp [intCells_len]; omega) | exact Nat.zero_lt_succ _) rfl ?_ | refine x_store1 7 rfl rfl rfl Try.hi3 Try.cz3 rfl (by first | (simp; done) | (simp [intCells_len]; omega) | exact Nat.zero_lt_succ _) rfl ?_
    refine w_nil ?_
    refine e_seq ?_
    refine e_region ?_
    first | refine w_val (v_loadBA 0 rfl Try.underlying36 rfl Try.hi36 Try.cz36 rfl) rfl ?_ | refine w_val (v_loadBA 1 rfl Try.underlying36 rfl Try.hi36 Try.cz36 rfl) rfl ?_ | refine w_val (v_loadBA 2 rfl Try.underlying36 rfl Try.hi36 Try.cz36 rfl) rfl ?_ | refine w_val (v_loadBA 3 rfl Try.underlying36 rfl Try.hi36 Try.cz36 rfl) rfl ?_ | refine w_val (v_loadBA 4 rfl Try.underlying36 rfl Try.hi36 Try.cz36 rfl) rfl ?_ | refine w_val (v_loadBA 5 rfl Try.underlying36 rfl Try.hi36 Try.cz36 rfl) rfl ?_ | refine w_val (v_loadBA 6 rfl Try.underlying36 rfl Try.hi36 Try.cz36 rfl) rfl ?_ | refine w_val (v_loadBA 7 rfl Try.underlying36 rfl Try.hi36 Try.cz36 rfl) rfl ?_ | refine w_val (v_loadBN 0 rfl Try.underlying36 rfl Try.hi36 Try.cz36 rfl rfl rfl) rfl ?_ | refine w_val (v_loadBN 1 rfl Try.underlying36 rfl Try.hi36 Try.cz36 rfl rfl rfl) rfl ?_ | refine w_val (v_loadBN 2 rfl Try.underlying36 rfl Try.hi36 Try.cz36 rfl rfl rfl) rfl ?_ | refine w_val (v_loadBN 3 rfl Try.underlying36 rfl Try.hi36 Try.cz36 rfl rfl rfl) rfl ?_ | refine w_val (v_loadBN 4 rfl Try.underlying36 rfl Try.hi36 Try.cz36 rfl rfl rfl) rfl ?_ | refine w_val (v_loadBN 5 rfl Try.underlying36 rfl Try.hi36 Try.cz36 rfl rfl rfl) rfl ?_ | refine w_val (v_loadBN 6 rfl Try.underlying36 rfl Try.hi36 Try.cz36 rfl rfl rfl) rfl ?_ | refine w_val (v_loadBN 7 rfl Try.underlying36 rfl Try.hi36 Try.cz36 rfl rfl rfl) rfl ?_
    refine w_op rfl ?_
    first | refine x_storeA 0 rfl rfl rfl Try.hi36 Try.cz36 rfl (by first | (simp [Value.oneCell', opCells]; done) | assumption | exact one_ints _ | exact one_resCells _ _) ?_ | refine x_storeA 1 rfl rfl rfl Try.hi36 Try.cz36 rfl (by first | (simp [Value.oneCell', opCells]; done) | assumption | exact one_ints _ | exact one_resCells _ _) ?_ | refine x_storeA 2 rfl rfl rfl Try.hi36 Try.cz36 rfl (by first | (simp [Value.oneCell', opCells]; done) | assumption | exact one_ints _ | exact one_resCells _ _) ?_ | refine x_storeA 3 rfl rfl rfl Try.hi36 Try.cz36 rfl (by first | (simp [Value.oneCell', opCells]; done) | assumption | exact one_ints _ | exact one_resCells _ _) ?_ | refine x_storeA 4 rfl rfl rfl Try.hi36 Try.cz36 rfl (by first | (simp [Value.oneCell', opCells]; done) | assumption | exact one_ints _ | exact one_resCells _ _) ?_ | refine x_storeA 5 rfl rfl rfl Try.hi36 Try.cz36 rfl (by first | (simp [Value.oneCell', opCells]; done) | assumption | exact one_ints _ | exact one_resCells _ _) ?_ | refine x_storeA 6 rfl rfl rfl Try.hi36 Try.cz36 rfl (by first | (simp [Value.oneCell', opCells]; done) | assumption | exact one_ints _ | exact one_resCells _ _) ?_ | refine x_storeA 7 rfl rfl rfl Try.hi36 Try.cz36 rfl (by first | (simp [Value.oneCell', opCells]; done) | assumption | exact one_ints _ | exact one_resCells _ _) ?_
    refine w_nil ?_
    refine e_retQ (q_ret1 rfl (ResV.agg 2 rfl rfl (by rw [isAggD, Try.underlying36]; rfl) (Try.cz36) Try.hi36) ?_)
    exact fun w' hw' => .inl ⟨(v3, ⟨k.toNat, (x.toNat : Int) % 16, (x.toNat : Int) / 16, c.toNat, 0⟩, b3'), ⟨by simp [getOp, hk1'], (ht1.trans ht2).trans ht3⟩, rfl, (hw'.sub (m' := [rdB b v3]) (.cons_cons _ (List.nil_sublist _))).res⟩
end Go.SL
