/- Ytebdkaadbakhlaa: part D3 of this seat's own texts. -/
import Derived.Test.YtebdkaadbakhlaaD2
set_option linter.unusedVariables false
set_option linter.unusedSimpArgs false
open Go Go.Proofs Go.SL
set_option maxRecDepth 100000
namespace Go.SL
abbrev rdB (b : Nat) (v : Value) : Chunk := .blk b 112 [v]
/-- what reads as bs (by v) reads as rest (by v') -/
def Tail (v : Value) (bs : List UInt8) (v' : Value) (rest : List UInt8) : Prop := ∀ c : View, IsBytes c v bs → IsBytes c v' rest
theorem Tail.refl (v : Value) (bs : List UInt8) : Tail v bs v bs := fun _ h => h
theorem Tail.trans {v v' v'' : Value} {a b c : List UInt8} (h : Tail v a v' b) (h' : Tail v' b v'' c) : Tail v a v'' c := fun x hx => h' x (h x hx)
abbrev gone3 : Value := .iface 108 (.int .i64 3)
theorem readerByte_spec (b : Nat) (v : Value) (bs : List UInt8) (w : World) (hb : (rdB b v).holds w) (h : IsBytes (ofb w b) v bs) :
    Calls Try.prog 68 #[.pointer (some ⟨b, 0, none⟩)] w fun e w' =>
      (∃ s : Value × UInt8 × List UInt8, (bs = s.2.1 :: s.2.2 ∧ Tail v bs s.1 s.2.2) ∧ e = .returned (.int .i64 (s.2.1.toNat : Int)) ∧ Res w [rdB b v] [rdB b s.1] w') ∨
      (∃ _u : Unit, bs = [] ∧ e = .panicked [{ v := gone3, recovered := false }] ∧ Res w [rdB b v] [] w') := by
  rw [ofb_eq w b 112 [v]] at h
  obtain ⟨A, k, rfl, hk, hl, hc⟩ := h
  refine enter (mc := [rdB b (.slice A bs.length k)]) (N := 27) Try.func68 rfl rfl rfl ?_ ?_ ?_
  · intro c hc; simp only [List.mem_singleton] at hc; subst hc; exact hb
  · simp
  refine e_seq ?_
  refine e_region ?_
  refine w_val (v_assign rfl) rfl ?_
  refine w_nil ?_
  refine e_seq ?_
  refine e_seq ?_
  refine e_region ?_
  refine w_val (v_move rfl) rfl ?_
  refine w_val (v_nilCheck rfl) rfl ?_
  first | refine w_val (v_fieldAddrB (o := 0) Try.underlying112 rfl rfl Try.nz58 rfl) rfl ?_ | refine w_val (v_fieldAddr (o := 0) Try.underlying112 rfl rfl Try.nz58 rfl) rfl ?_
  first | refine w_val (v_loadB 0 rfl Try.underlying58 rfl rfl rfl) rfl ?_ | refine w_val (v_loadB 1 rfl Try.underlying58 rfl rfl rfl) rfl ?_ | refine w_val (v_loadB 2 rfl Try.underlying58 rfl rfl rfl) rfl ?_ | refine w_val (v_loadB 3 rfl Try.underlying58 rfl rfl rfl) rfl ?_ | refine w_val (v_loadB 4 rfl Try.underlying58 rfl rfl rfl) rfl ?_ | refine w_val (v_loadB 5 rfl Try.underlying58 rfl rfl rfl) rfl ?_ | refine w_val (v_loadB 6 rfl Try.underlying58 rfl rfl rfl) rfl ?_ | refine w_val (v_loadB 7 rfl Try.underlying58 rfl rfl rfl) rfl ?_
  refine w_val (v_lenS Try.underlying58 rfl) rfl ?_
  refine w_val (v_eql rfl rfl) rfl ?_
  refine w_nil ?_
  refine e_condD rfl (fun h0 => ?_) (fun h0 => ?_)
  · have hnil : bs = [] := List.eq_nil_of_length_eq_zero (by omega)
    refine e_region ?_
    refine w_val (v_makeIface (by kernel_rfl) rfl) rfl ?_
    refine w_op rfl ?_
    refine x_panic rfl (g_panic (q_panic ?_))
    exact fun w' hw' => .inr ⟨(), hnil, rfl, hw'.res.nil⟩
  · obtain ⟨x, rest, rfl⟩ : ∃ x rest, bs = x :: rest := by
      cases bs with
      | nil => simp at h0
      | cons x rest => exact ⟨x, rest, rfl⟩
    obtain ⟨ad, rfl, hcl⟩ := hc (by simp)
    have hcell : off w (feet [rdB b (.slice (some ad) (x :: rest).length k)]) (ad.add (((0 : Int)).toNat * 1)) = some (.int .u8 (x.toNat : Int)) := hcl 0 _ (by simp [byteCells])
    have hlen : 0 < (x :: rest).length := by simp
    have hx := x.toNat_lt
    refine e_skip ?_
    refine e_seq ?_
    refine e_region ?_
    refine w_val (v_move rfl) rfl ?_
    refine w_val (v_nilCheck rfl) rfl ?_
    first | refine w_val (v_fieldAddrB (o := 0) Try.underlying112 rfl rfl Try.nz58 rfl) rfl ?_ | refine w_val (v_fieldAddr (o := 0) Try.underlying112 rfl rfl Try.nz58 rfl) rfl ?_
    first | refine w_val (v_loadO Try.underlying58 rfl rfl (hcell)) rfl ?_ | refine w_val (v_loadB 0 rfl Try.underlying58 rfl rfl rfl) rfl ?_ | refine w_val (v_loadB 1 rfl Try.underlying58 rfl rfl rfl) rfl ?_ | refine w_val (v_loadB 2 rfl Try.underlying58 rfl rfl rfl) rfl ?_ | refine w_val (v_loadB 3 rfl Try.underlying58 rfl rfl rfl) rfl ?_ | refine w_val (v_loadB 4 rfl Try.underlying58 rfl rfl rfl) rfl ?_ | refine w_val (v_loadB 5 rfl Try.underlying58 rfl rfl rfl) rfl ?_ | refine w_val (v_loadB 6 rfl Try.underlying58 rfl rfl rfl) rfl ?_ | refine w_val (v_loadB 7 rfl Try.underlying58 rfl rfl rfl) rfl ?_
    first | refine w_val (v_indexSB Try.underlying58 Try.hi5 Try.cz5 rfl rfl (by first | omega | decide)) rfl ?_ | refine w_val (v_indexS Try.underlying58 Try.hi5 Try.cz5 rfl rfl (by first | omega | decide)) rfl ?_
    first | refine w_val (v_loadO Try.underlying5 rfl rfl (hcell)) rfl ?_ | refine w_val (v_loadB 0 rfl Try.underlying5 rfl rfl rfl) rfl ?_ | refine w_val (v_loadB 1 rfl Try.underlying5 rfl rfl rfl) rfl ?_ | refine w_val (v_loadB 2 rfl Try.underlying5 rfl rfl rfl) rfl ?_ | refine w_val (v_loadB 3 rfl Try.underlying5 rfl rfl rfl) rfl ?_ | refine w_val (v_loadB 4 rfl Try.underlying5 rfl rfl rfl) rfl ?_ | refine w_val (v_loadB 5 rfl Try.underlying5 rfl rfl rfl) rfl ?_ | refine w_val (v_loadB 6 rfl Try.underlying5 rfl rfl rfl) rfl ?_ | refine w_val (v_loadB 7 rfl Try.underlying5 rfl rfl rfl) rfl ?_
    refine w_val (v_assign rfl) rfl ?_
    refine w_nil ?_
    refine e_seq ?_
    refine e_region ?_
    refine w_val (v_move rfl) rfl ?_
    refine w_val (v_move rfl) rfl ?_
    refine w_val (v_nilCheck rfl) rfl ?_
    first | refine w_val (v_fieldAddrB (o := 0) Try.underlying112 rfl rfl Try.nz58 rfl) rfl ?_ | refine w_val (v_fieldAddr (o := 0) Try.underlying112 rfl rfl Try.nz58 rfl) rfl ?_
    first | refine w_val (v_loadO Try.underlying58 rfl rfl (hcell)) rfl ?_ | refine w_val (v_loadB 0 rfl Try.underlying58 rfl rfl rfl) rfl ?_ | refine w_val (v_loadB 1 rfl Try.underlying58 rfl rfl rfl) rfl ?_ | refine w_val (v_loadB 2 rfl Try.underlying58 rfl rfl rfl) rfl ?_ | refine w_val (v_loadB 3 rfl Try.underlying58 rfl rfl rfl) rfl ?_ | refine w_val (v_loadB 4 rfl Try.underlying58 rfl rfl rfl) rfl ?_ | refine w_val (v_loadB 5 rfl Try.underlying58 rfl rfl rfl) rfl ?_ | refine w_val (v_loadB 6 rfl Try.underlying58 rfl rfl rfl) rfl ?_ | refine w_val (v_loadB 7 rfl Try.underlying58 rfl rfl rfl) rfl ?_
    refine w_val (v_sliceL Try.underlying58 Try.hi5 Try.cz5 rfl rfl (by omega)) rfl ?_
    refine w_val (v_nilCheck rfl) rfl ?_
    first | refine w_val (v_fieldAddrB (o := 0) Try.underlying112 rfl rfl Try.nz58 rfl) rfl ?_ | refine w_val (v_fieldAddr (o := 0) Try.underlying112 rfl rfl Try.nz58 rfl) rfl ?_
    refine w_op rfl ?_
    first | refine x_store1 0 rfl rfl rfl Try.hi58 Try.cz58 rfl (by first | (simp; done) | (simp [intCells_len]; omega) | exact Nat.zero_lt_succ _) rfl ?_ | refine x_store1 1 rfl rfl rfl Try.hi58 Try.cz58 rfl (by first | (simp; done) | (simp [intCells_len]; omega) | exact Nat.zero_lt_succ _) rfl ?_ | refine x_store1 2 rfl rfl rfl Try.hi58 Try.cz58 rfl (by first | (simp; done) | (simp [intCells_len]; omega) | exact Nat.zero_lt_succ _) rfl ?_ | refine x_store1 3 rfl rfl rfl Try.hi58 Try.cz58 rfl (by first | (simp; done) | (simp [intCells_len]; omega) | exact Nat.zero_lt_succ _) rfl ?_ | refine x_store1 4 rfl rfl rfl Try.hi58 Try.cz58 rfl (by first | (simp; done) | (simp [intCells_len]; omega) | exact Nat.zero_lt_succ _) rfl ?_ | refine x_store1 5 rfl rfl rfl Try.hi58 Try.cz58 rfl (by first | (simp; done) | (simp [intCells_len]; omega) | exact Nat.zero_lt_succ _) rfl ?_ | refine x_store1 6 rfl rfl rfl Try.hi58 Try.cz58 rfl (by first | (simp; done) | (simp [intCells_len]; omega) | exact Nat.zero_lt_succ _) rfl ?_ | refine x_store1 7 rfl rfl rfl Try.hi58 Try.cz58 rfl (by first | (simp; done) | (simp [intCells_len]; omega) | exact Nat.zero_lt_succ _) rfl ?_
    refine w_nil ?_
    refine e_seq ?_
    refine e_region ?_
    refine w_val (v_move rfl) rfl ?_
    refine w_val (v_is (v' := .int .i64 (x.toNat : Int)) (v_conv Try.underlying3 (by rw [Try.underlying5]; rfl) rfl) (by rw [wrap_i64 (by omega) (by omega)])) rfl ?_
    refine w_val (v_assign rfl) rfl ?_
    refine w_nil ?_
    refine e_retQ (q_ret1 rfl (.tmp rfl) ?_)
    exact fun w' hw' => .inl ⟨(slV (some ad) 1 (x :: rest).length k 1, x, rest), ⟨rfl, fun _ h => h.tail⟩, rfl, hw'.res⟩
def le : List UInt8 → Int
  | [] => 0
  | x :: l => x.toNat + 256 * le l
theorem le_app (l : List UInt8) (x : UInt8) : le (l ++ [x]) = le l + x.toNat * 2 ^ (8 * l.length) := by
  induction l with
  | nil => simp [le]
  | cons y l ih =>
    simp only [List.cons_append, le, ih, List.length_cons]
    rw [show 8 * (l.length + 1) = 8 * l.length + 8 from by omega, Int.pow_add, Int.mul_add, Int.add_assoc]
    congr 2
    rw [show (2 : Int) ^ 8 = 256 from rfl, Int.mul_left_comm, Int.mul_comm (2 ^ (8 * l.length))]
theorem le_range (l : List UInt8) : 0 ≤ le l ∧ le l < 2 ^ (8 * l.length) := by
  induction l with
  | nil => simp [le]
  | cons y l ih =>
    have hy := toNat_lt' y
    simp only [le, List.length_cons]
    rw [show 8 * (l.length + 1) = 8 * l.length + 8 from by omega, Int.pow_add, show (2 : Int) ^ 8 = 256 from rfl]
    omega
theorem num8_le (a b c d e f g h : UInt8) : IntKind.i64.wrap (le [a, b, c, d, e, f, g, h]) = num8 a b c d e f g h := by
  unfold num8
  congr 1
  simp only [le]
  omega
def numOf (l : List UInt8) : Int := IntKind.i64.wrap (le l)
theorem readerLong_spec (b : Nat) (v : Value) (bs : List UInt8) (w : World) (hb : (rdB b v).holds w) (h : IsBytes (ofb w b) v bs) :
    Calls Try.prog 70 #[.pointer (some ⟨b, 0, none⟩)] w fun e w' =>
      (∃ v', (8 ≤ bs.length ∧ Tail v bs v' (bs.drop 8)) ∧ e = .returned (.int .i64 (numOf (bs.take 8))) ∧ Res w [rdB b v] [rdB b v'] w') ∨
      (∃ _u : Unit, bs.length < 8 ∧ e = .panicked [{ v := gone3, recovered := false }] ∧ Res w [rdB b v] [] w') := by
  rw [ofb_eq w b 112 [v]] at h
  refine enter (mc := [rdB b v]) (N := 19) Try.func70 rfl rfl rfl ?_ ?_ ?_
  · intro c hc; simp only [List.mem_singleton] at hc; subst hc; exact hb
  · simp
  refine e_seq ?_
  refine e_region ?_
  refine w_val (v_assign rfl) rfl ?_
  refine w_nil ?_
  refine e_seq ?_
  refine e_region ?_
  refine w_val (v_assign rfl) rfl ?_
  refine w_nil ?_
  refine e_seq ?_
  refine e_seq ?_
  refine e_region ?_
  refine w_val (v_move rfl) rfl ?_
  refine w_nil ?_
  refine e_block ?_
  refine e_loopH (σ := Nat × Value) [0] (.cons rfl .nil) (fun x => [(3, .int .u64 (le (bs.take x.1))), (5, .int .i64 x.1)]) (fun x => [rdB b x.2]) (fun x => x.1 ≤ 8 ∧ x.1 ≤ bs.length ∧ Tail v bs x.2 (bs.drop x.1)) (fun x => 8 - x.1) (0, v) ⟨by dsimp only; omega, by dsimp only; omega, Tail.refl _ _⟩ (by repeat (first | exact Sub.nil _ | refine Sub.cons rfl ?_)) (fun _ hw => hw) ?_
  rintro ⟨i, v1⟩ ⟨hi, hib, ht⟩
  dsimp only at hi hib ht
  refine e_seq ?_
  refine e_region ?_
  refine w_val (v_lss rfl rfl) rfl ?_
  refine w_nil ?_
  refine e_seq ?_
  refine e_condD rfl (fun hlt => ?_) (fun hlt => ?_)
  · have hlt' : i < 8 := by omega
    refine e_skip ?_
    refine e_seq ?_
    refine e_block ?_
    refine e_seq ?_
    refine e_region ?_
    refine w_val (v_move rfl) rfl ?_
    refine w_val (v_assign rfl) rfl ?_
    refine w_nil ?_
    refine e_region ?_
    refine w_val (v_move rfl) rfl ?_
    refine w_val (v_move rfl) rfl ?_
    refine w_op rfl ?_
    refine x_callP (dst := some 10) (mc := [rdB b v1]) (mr := []) (σ := Value × UInt8 × List UInt8) (τ := Unit) (fun s => bs.drop i = s.2.1 :: s.2.2 ∧ Tail v1 (bs.drop i) s.1 s.2.2) (fun s => .int .i64 (s.2.1.toNat : Int)) (fun s => [rdB b s.1]) (fun _ => bs.drop i = []) (fun _ => gone3) (fun _ => []) rfl rfl rfl Try.call68 (fun w hw => readerByte_spec b v1 (bs.drop i) w (hw.mem (i := 0) rfl) ((ht _ h).mono (hw.ofb 0 rfl))) rfl (fun _ hn => g_panic (q_panic fun w' hw' => .inr ⟨(), ?_, rfl, hw'.res.nil⟩)) ?_
    · have := congrArg List.length hn; simp at this; omega
    rintro ⟨v2, x, rest⟩ ⟨hx, ht2⟩
    dsimp only at hx ht2 ⊢
    have hx8 := toNat_lt' x
    have hil : i < bs.length := by have := congrArg List.length hx; simp at this; omega
    have hxi : bs.take (i + 1) = bs.take i ++ [x] := by
      rw [List.take_succ_eq_append_getElem hil]
      rw [List.drop_eq_getElem_cons hil] at hx
      injection hx with h1 h2
      rw [h1]
    have hrest : rest = bs.drop (i + 1) := by
      rw [List.drop_eq_getElem_cons hil] at hx
      injection hx with h1 h2
      exact h2.symm
    have hle := le_app (bs.take i) x
    rw [← hxi] at hle
    have hr1 := le_range (bs.take i)
    have hr2 := le_range (bs.take (i + 1))
    have el : (bs.take i).length = i := by simp; omega
    have el2 : (bs.take (i + 1)).length = i + 1 := by simp; omega
    rw [el] at hle hr1
    rw [el2] at hr2
    have hp64 : (2 : Int) ^ (8 * (i + 1)) ≤ 18446744073709551616 := by
      have : i = 0 ∨ i = 1 ∨ i = 2 ∨ i = 3 ∨ i = 4 ∨ i = 5 ∨ i = 6 ∨ i = 7 := by omega
      rcases this with rfl | rfl | rfl | rfl | rfl | rfl | rfl | rfl <;> decide
    have hq0 : 0 ≤ (x.toNat : Int) * 2 ^ (8 * i) := Int.mul_nonneg (by omega) (Int.pow_nonneg (by decide))
    have e1 : (8 * (i : Int)).toNat = 8 * i := by omega
    have e2 : min (8 * i) IntKind.u64.bits = 8 * i := by have : IntKind.u64.bits = 64 := rfl; omega
    refine w_val (v_is (v' := .int .u64 (x.toNat : Int)) (v_conv Try.underlying97 (by rw [Try.underlying3]; rfl) rfl) (by rw [wrap_u64 (by omega) (by omega)])) rfl ?_
    refine w_val (v_move rfl) rfl ?_
    first | refine w_val (v_mul rfl rfl (by omega)) rfl ?_ | refine w_val (v_mulw rfl rfl) rfl ?_
    refine w_val (v_is (v' := .int .u64 ((x.toNat : Int) * 2 ^ (8 * i))) (v_shl rfl rfl (by omega)) (by rw [e1, e2, wrap_u64 hq0 (by omega)])) rfl ?_
    refine w_val (v_is (v' := .int .u64 (le (bs.take (i + 1)))) (v_or rfl rfl) (by rw [or_addU (8 * i) hr1.1 hr1.2 hq0 (Int.mul_emod_left _ _) (by omega), hle])) rfl ?_
    refine w_val (v_assign rfl) rfl ?_
    refine w_nil ?_
    refine e_blk ?_
    refine e_region ?_
    first | refine w_val (v_add rfl rfl (by omega)) rfl ?_ | refine w_val (v_addw rfl rfl) rfl ?_
    refine w_val (v_move rfl) rfl ?_
    refine w_nil ?_
    exact e_round ((i + 1, v2)) (⟨by dsimp only; omega, by dsimp only; omega, by dsimp only; rw [← hrest]; exact ht.trans ht2⟩) (by dsimp only; omega) (by repeat (first | exact Sub.nil _ | refine Sub.cons rfl ?_)) (fun _ hw => hw)
  · obtain rfl : i = 8 := by omega
    refine e_exit rfl ?_
    refine e_seq ?_
    refine e_region ?_
    refine w_val (v_move rfl) rfl ?_
    refine w_val (v_is (v' := .int .i64 (numOf (bs.take 8))) (v_conv Try.underlying2 (by rw [Try.underlying97]; rfl) rfl) rfl) rfl ?_
    refine w_val (v_assign rfl) rfl ?_
    refine w_nil ?_
    refine e_retQ (q_ret1 rfl (.tmp rfl) ?_)
    exact fun w' hw' => .inl ⟨v1, ⟨hib, ht⟩, rfl, hw'.res⟩
end Go.SL
