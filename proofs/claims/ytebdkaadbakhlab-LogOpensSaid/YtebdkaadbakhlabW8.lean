/- Ytebdkaadbakhlab: part W8 of this seat's own texts. -/
import Derived.Test.YtebdkaadbakhlabW4
set_option linter.unusedVariables false
set_option linter.unusedSimpArgs false
open Go Go.Proofs Go.SL
set_option maxRecDepth 100000
namespace Go.SL
theorem need_spec (b6 b5 : Nat) (k at' n : Int) (w : World) (h6 : w.cell? ⟨b6, 0, none⟩ = some (.int .i64 at')) (h5 : w.cell? ⟨b5, 0, none⟩ = some (.int .i64 n)) (hr : -9223372036854775808 ≤ at' + k ∧ at' + k ≤ 9223372036854775807) :
    Calls Try.prog 100 #[.int .i64 k, .pointer (some ⟨b6, 0, none⟩), .pointer (some ⟨b5, 0, none⟩)] w fun e w' => e = .returned (.bool (decide (at' + k ≤ n))) ∧ Res w [] [] w' := by
  rw [← off_none w] at h6 h5
  refine enter0 (N := 10) Try.func100 rfl rfl rfl ?_
  refine e_seq ?_
  refine e_region ?_
  refine w_val (v_assign rfl) rfl ?_
  refine w_nil ?_
  refine e_seq ?_
  refine e_region ?_
  first | refine w_val (v_loadO Try.underlying3 rfl rfl (h6)) rfl ?_ | refine w_val (v_loadO Try.underlying3 rfl rfl (h5)) rfl ?_ | refine w_val (v_loadB 0 rfl Try.underlying3 rfl rfl rfl) rfl ?_ | refine w_val (v_loadB 1 rfl Try.underlying3 rfl rfl rfl) rfl ?_ | refine w_val (v_loadB 2 rfl Try.underlying3 rfl rfl rfl) rfl ?_ | refine w_val (v_loadB 3 rfl Try.underlying3 rfl rfl rfl) rfl ?_ | refine w_val (v_loadB 4 rfl Try.underlying3 rfl rfl rfl) rfl ?_ | refine w_val (v_loadB 5 rfl Try.underlying3 rfl rfl rfl) rfl ?_ | refine w_val (v_loadB 6 rfl Try.underlying3 rfl rfl rfl) rfl ?_ | refine w_val (v_loadB 7 rfl Try.underlying3 rfl rfl rfl) rfl ?_ | refine w_val (v_loadB 8 rfl Try.underlying3 rfl rfl rfl) rfl ?_ | refine w_val (v_loadB 9 rfl Try.underlying3 rfl rfl rfl) rfl ?_ | refine w_val (v_loadB 10 rfl Try.underlying3 rfl rfl rfl) rfl ?_ | refine w_val (v_loadB 11 rfl Try.underlying3 rfl rfl rfl) rfl ?_
  refine w_val (v_move rfl) rfl ?_
  first | refine w_val (v_add rfl rfl (by omega)) rfl ?_ | refine w_val (v_addw rfl rfl) rfl ?_
  first | refine w_val (v_loadO Try.underlying3 rfl rfl (h6)) rfl ?_ | refine w_val (v_loadO Try.underlying3 rfl rfl (h5)) rfl ?_ | refine w_val (v_loadB 0 rfl Try.underlying3 rfl rfl rfl) rfl ?_ | refine w_val (v_loadB 1 rfl Try.underlying3 rfl rfl rfl) rfl ?_ | refine w_val (v_loadB 2 rfl Try.underlying3 rfl rfl rfl) rfl ?_ | refine w_val (v_loadB 3 rfl Try.underlying3 rfl rfl rfl) rfl ?_ | refine w_val (v_loadB 4 rfl Try.underlying3 rfl rfl rfl) rfl ?_ | refine w_val (v_loadB 5 rfl Try.underlying3 rfl rfl rfl) rfl ?_ | refine w_val (v_loadB 6 rfl Try.underlying3 rfl rfl rfl) rfl ?_ | refine w_val (v_loadB 7 rfl Try.underlying3 rfl rfl rfl) rfl ?_ | refine w_val (v_loadB 8 rfl Try.underlying3 rfl rfl rfl) rfl ?_ | refine w_val (v_loadB 9 rfl Try.underlying3 rfl rfl rfl) rfl ?_ | refine w_val (v_loadB 10 rfl Try.underlying3 rfl rfl rfl) rfl ?_ | refine w_val (v_loadB 11 rfl Try.underlying3 rfl rfl rfl) rfl ?_
  refine w_val (v_leq rfl rfl) rfl ?_
  refine w_val (v_assign rfl) rfl ?_
  refine w_nil ?_
  refine e_retQ (q_ret1 rfl (.tmp rfl) ?_)
  exact fun w' hw' => ⟨rfl, hw'.res.nil⟩
theorem cell_at {c : View} {ad : Addr} {bs : List UInt8} {n a j : Nat} {x : UInt8} (hcl : Cells c ad (byteCells bs)) (h : ((bs.take n).drop a)[j]? = some x) (i : Int) (hi : i = a + j) : c (ad.add (i.toNat * 1)) = some (.int .u8 (x.toNat : Int)) := by
  rw [List.getElem?_drop, List.getElem?_take] at h
  split at h
  · have e : i.toNat * 1 = a + j := by omega
    rw [e]
    exact hcl _ _ (by simp [byteCells, h])
  · cases h
theorem drop_cons {α : Type} {l : List α} {a : Nat} {x : α} {r : List α} (h : l.drop a = x :: r) : l.drop (a + 1) = r := by
  rw [← List.drop_drop, h]; rfl
theorem getOp_lt3 {b : List UInt8} (h : b.length < 3) : getOp b = none := by
  match b, h with
  | [], _ => rfl
  | [k], _ =>
    simp only [getOp]
    split <;> rfl
  | [k, a], _ =>
    simp only [getOp]
    split <;> rfl
theorem getOp_lt10 {b : List UInt8} (h : b.length < 9) : getOp (1 :: b) = none := by
  cases b with
  | nil => rfl
  | cons a rest => exact getOp_short (by simp at h; omega)
theorem le_get {l : List UInt8} {i : Nat} {x : UInt8} (hx : l[i]? = some x) (hi : i < 8) (hl : 8 ≤ l.length) : le ((l.drop i).take (8 - i)) = x.toNat + 256 * le ((l.drop (i + 1)).take (8 - (i + 1))) := by
  have hlt : i < l.length := by omega
  rw [List.getElem?_eq_getElem hlt] at hx
  injection hx with hx
  rw [List.drop_eq_getElem_cons hlt, show 8 - i = (8 - (i + 1)) + 1 from by omega, List.take_succ_cons, hx]
  rfl
theorem roundOf_spec (v : Value) (bs : List UInt8) (w : World) (h : IsBytes w.cell? v bs) :
    Calls Try.prog 78 #[v] w fun e w' =>
      ∃ s : Value × (Nat → Prop), True ∧ e = .returned (.tuple #[s.1, .int .i64 (decL roundFaultL bs).2.1, .int .i64 (decL roundFaultL bs).2.2]) ∧ Res w [] [Keep s.2 (fun c => IsRound c s.1 (decL roundFaultL bs).1)] w' := by
  have hnil : ∀ {w w' : World} {m : Hp}, St w (feet []) m w' → Res w [] [Keep (feet []) (fun c => IsRound c (.slice none 0 0) [])] w' := fun hw' =>
    ((hw'.sub (List.nil_sublist _)).keep0 _ (fun c => ⟨[], ⟨none, 0, rfl, Nat.le_refl _, rfl, fun h => absurd h (Nat.lt_irrefl _)⟩, fun i hi => by simp at hi⟩)).res
  have h0 := h
  rw [← off_none w] at h h0
  obtain ⟨A0, k0, rfl, hk0, hl0, hc0⟩ := h
  refine enter0 (N := 155) Try.func78 rfl rfl rfl ?_
  refine e_seq ?_
  refine e_region ?_
  refine w_val (v_assign rfl) rfl ?_
  refine w_val (v_assign rfl) rfl ?_
  refine w_val (v_assign rfl) rfl ?_
  refine w_nil ?_
  refine e_seq ?_
  refine e_seq ?_
  refine e_region ?_
  refine w_val (v_move rfl) rfl ?_
  refine w_val (v_lenS Try.underlying23 rfl) rfl ?_
  refine w_val (v_lss rfl rfl) rfl ?_
  refine w_nil ?_
  refine e_condD rfl (fun h2 => ?_) (fun h2 => ?_)
  · refine e_seq ?_
    refine e_region ?_
    refine w_val (v_assign rfl) rfl ?_
    refine w_val (v_assign rfl) rfl ?_
    refine w_val (v_assign rfl) rfl ?_
    refine w_nil ?_
    refine e_retQ (q_ret3 rfl (.tmp rfl) (.tmp rfl) (.tmp rfl) ?_)
    exact fun w' hw' => ⟨(.slice none 0 0, feet []), trivial, by rw [decL, if_pos (by omega)], by rw [decL, if_pos (by omega)]; exact hnil hw'⟩
  · have h2' : ¬ bs.length < 2 := by omega
    obtain ⟨x, y, rest0, hbs⟩ : ∃ x y rest, bs = x :: y :: rest := by
      match bs, h2' with
      | x :: y :: rest, _ => exact ⟨x, y, rest, rfl⟩
      | [], h => simp at h
      | [x], h => simp at h
    obtain ⟨ad, rfl, hcl⟩ := hc0 (by omega)
    have hx := x.toNat_lt
    have hy := y.toNat_lt
    have hc1 : off w (feet []) (ad.add (((0 : Int)).toNat * 1)) = some (.int .u8 (x.toNat : Int)) := hcl 0 _ (by simp [byteCells, hbs])
    have hc2 : off w (feet []) (ad.add (((1 : Int)).toNat * 1)) = some (.int .u8 (y.toNat : Int)) := hcl 1 _ (by simp [byteCells, hbs])
    have hlen : 1 < bs.length := by omega
    have hH : headN bs = 2 + x.toNat + 256 * y.toNat := by rw [hbs]; rfl
    clear hbs rest0
    refine e_skip ?_
    refine e_seq ?_
    refine e_draw ([]) Try.mixed ?_
    refine a_take 0 pan_cx (by kernel_rfl) (fun _ hw => hw.sub (by repeat (first | exact List.Sublist.slnil | exact List.Sublist.refl _ | apply List.Sublist.cons_cons | apply List.Sublist.cons))) rfl (by kernel_rfl) (by kernel_rfl) (v_move rfl) rfl ?_
    first | refine a_take 1 pan_cx (by kernel_rfl) (fun _ hw => hw.sub (by repeat (first | exact List.Sublist.slnil | exact List.Sublist.refl _ | apply List.Sublist.cons_cons | apply List.Sublist.cons))) rfl (by kernel_rfl) (by kernel_rfl) (v_indexSB Try.underlying23 Try.hi5 Try.cz5 rfl rfl (by first | omega | decide)) rfl ?_ | refine a_take 1 pan_cx (by kernel_rfl) (fun _ hw => hw.sub (by repeat (first | exact List.Sublist.slnil | exact List.Sublist.refl _ | apply List.Sublist.cons_cons | apply List.Sublist.cons))) rfl (by kernel_rfl) (by kernel_rfl) (v_indexS Try.underlying23 Try.hi5 Try.cz5 rfl rfl (by first | omega | decide)) rfl ?_
    first | refine a_take 2 pan_cx (by kernel_rfl) (fun _ hw => hw.sub (by repeat (first | exact List.Sublist.slnil | exact List.Sublist.refl _ | apply List.Sublist.cons_cons | apply List.Sublist.cons))) rfl (by kernel_rfl) (by kernel_rfl) (v_loadO Try.underlying5 rfl rfl (hc1)) rfl ?_ | refine a_take 2 pan_cx (by kernel_rfl) (fun _ hw => hw.sub (by repeat (first | exact List.Sublist.slnil | exact List.Sublist.refl _ | apply List.Sublist.cons_cons | apply List.Sublist.cons))) rfl (by kernel_rfl) (by kernel_rfl) (v_loadO Try.underlying5 rfl rfl (hc2)) rfl ?_ | refine a_take 2 pan_cx (by kernel_rfl) (fun _ hw => hw.sub (by repeat (first | exact List.Sublist.slnil | exact List.Sublist.refl _ | apply List.Sublist.cons_cons | apply List.Sublist.cons))) rfl (by kernel_rfl) (by kernel_rfl) (v_loadB 0 rfl Try.underlying5 rfl rfl rfl) rfl ?_ | refine a_take 2 pan_cx (by kernel_rfl) (fun _ hw => hw.sub (by repeat (first | exact List.Sublist.slnil | exact List.Sublist.refl _ | apply List.Sublist.cons_cons | apply List.Sublist.cons))) rfl (by kernel_rfl) (by kernel_rfl) (v_loadB 1 rfl Try.underlying5 rfl rfl rfl) rfl ?_ | refine a_take 2 pan_cx (by kernel_rfl) (fun _ hw => hw.sub (by repeat (first | exact List.Sublist.slnil | exact List.Sublist.refl _ | apply List.Sublist.cons_cons | apply List.Sublist.cons))) rfl (by kernel_rfl) (by kernel_rfl) (v_loadB 2 rfl Try.underlying5 rfl rfl rfl) rfl ?_ | refine a_take 2 pan_cx (by kernel_rfl) (fun _ hw => hw.sub (by repeat (first | exact List.Sublist.slnil | exact List.Sublist.refl _ | apply List.Sublist.cons_cons | apply List.Sublist.cons))) rfl (by kernel_rfl) (by kernel_rfl) (v_loadB 3 rfl Try.underlying5 rfl rfl rfl) rfl ?_ | refine a_take 2 pan_cx (by kernel_rfl) (fun _ hw => hw.sub (by repeat (first | exact List.Sublist.slnil | exact List.Sublist.refl _ | apply List.Sublist.cons_cons | apply List.Sublist.cons))) rfl (by kernel_rfl) (by kernel_rfl) (v_loadB 4 rfl Try.underlying5 rfl rfl rfl) rfl ?_ | refine a_take 2 pan_cx (by kernel_rfl) (fun _ hw => hw.sub (by repeat (first | exact List.Sublist.slnil | exact List.Sublist.refl _ | apply List.Sublist.cons_cons | apply List.Sublist.cons))) rfl (by kernel_rfl) (by kernel_rfl) (v_loadB 5 rfl Try.underlying5 rfl rfl rfl) rfl ?_ | refine a_take 2 pan_cx (by kernel_rfl) (fun _ hw => hw.sub (by repeat (first | exact List.Sublist.slnil | exact List.Sublist.refl _ | apply List.Sublist.cons_cons | apply List.Sublist.cons))) rfl (by kernel_rfl) (by kernel_rfl) (v_loadB 6 rfl Try.underlying5 rfl rfl rfl) rfl ?_ | refine a_take 2 pan_cx (by kernel_rfl) (fun _ hw => hw.sub (by repeat (first | exact List.Sublist.slnil | exact List.Sublist.refl _ | apply List.Sublist.cons_cons | apply List.Sublist.cons))) rfl (by kernel_rfl) (by kernel_rfl) (v_loadB 7 rfl Try.underlying5 rfl rfl rfl) rfl ?_ | refine a_take 2 pan_cx (by kernel_rfl) (fun _ hw => hw.sub (by repeat (first | exact List.Sublist.slnil | exact List.Sublist.refl _ | apply List.Sublist.cons_cons | apply List.Sublist.cons))) rfl (by kernel_rfl) (by kernel_rfl) (v_loadB 8 rfl Try.underlying5 rfl rfl rfl) rfl ?_ | refine a_take 2 pan_cx (by kernel_rfl) (fun _ hw => hw.sub (by repeat (first | exact List.Sublist.slnil | exact List.Sublist.refl _ | apply List.Sublist.cons_cons | apply List.Sublist.cons))) rfl (by kernel_rfl) (by kernel_rfl) (v_loadB 9 rfl Try.underlying5 rfl rfl rfl) rfl ?_ | refine a_take 2 pan_cx (by kernel_rfl) (fun _ hw => hw.sub (by repeat (first | exact List.Sublist.slnil | exact List.Sublist.refl _ | apply List.Sublist.cons_cons | apply List.Sublist.cons))) rfl (by kernel_rfl) (by kernel_rfl) (v_loadB 10 rfl Try.underlying5 rfl rfl rfl) rfl ?_ | refine a_take 2 pan_cx (by kernel_rfl) (fun _ hw => hw.sub (by repeat (first | exact List.Sublist.slnil | exact List.Sublist.refl _ | apply List.Sublist.cons_cons | apply List.Sublist.cons))) rfl (by kernel_rfl) (by kernel_rfl) (v_loadB 11 rfl Try.underlying5 rfl rfl rfl) rfl ?_
    refine a_take 3 pan_cx (by kernel_rfl) (fun _ hw => hw.sub (by repeat (first | exact List.Sublist.slnil | exact List.Sublist.refl _ | apply List.Sublist.cons_cons | apply List.Sublist.cons))) rfl (by kernel_rfl) (by kernel_rfl) (v_is (v' := .int .i64 (x.toNat : Int)) (v_conv Try.underlying3 (by rw [Try.underlying5]; rfl) rfl) (by rw [wrap_i64 (by omega) (by omega)])) rfl ?_
    refine a_take 4 pan_cx (by kernel_rfl) (fun _ hw => hw.sub (by repeat (first | exact List.Sublist.slnil | exact List.Sublist.refl _ | apply List.Sublist.cons_cons | apply List.Sublist.cons))) rfl (by kernel_rfl) (by kernel_rfl) (v_move rfl) rfl ?_
    first | refine a_take 5 pan_cx (by kernel_rfl) (fun _ hw => hw.sub (by repeat (first | exact List.Sublist.slnil | exact List.Sublist.refl _ | apply List.Sublist.cons_cons | apply List.Sublist.cons))) rfl (by kernel_rfl) (by kernel_rfl) (v_indexSB Try.underlying23 Try.hi5 Try.cz5 rfl rfl (by first | omega | decide)) rfl ?_ | refine a_take 5 pan_cx (by kernel_rfl) (fun _ hw => hw.sub (by repeat (first | exact List.Sublist.slnil | exact List.Sublist.refl _ | apply List.Sublist.cons_cons | apply List.Sublist.cons))) rfl (by kernel_rfl) (by kernel_rfl) (v_indexS Try.underlying23 Try.hi5 Try.cz5 rfl rfl (by first | omega | decide)) rfl ?_
    first | refine a_take 6 pan_cx (by kernel_rfl) (fun _ hw => hw.sub (by repeat (first | exact List.Sublist.slnil | exact List.Sublist.refl _ | apply List.Sublist.cons_cons | apply List.Sublist.cons))) rfl (by kernel_rfl) (by kernel_rfl) (v_loadO Try.underlying5 rfl rfl (hc1)) rfl ?_ | refine a_take 6 pan_cx (by kernel_rfl) (fun _ hw => hw.sub (by repeat (first | exact List.Sublist.slnil | exact List.Sublist.refl _ | apply List.Sublist.cons_cons | apply List.Sublist.cons))) rfl (by kernel_rfl) (by kernel_rfl) (v_loadO Try.underlying5 rfl rfl (hc2)) rfl ?_ | refine a_take 6 pan_cx (by kernel_rfl) (fun _ hw => hw.sub (by repeat (first | exact List.Sublist.slnil | exact List.Sublist.refl _ | apply List.Sublist.cons_cons | apply List.Sublist.cons))) rfl (by kernel_rfl) (by kernel_rfl) (v_loadB 0 rfl Try.underlying5 rfl rfl rfl) rfl ?_ | refine a_take 6 pan_cx (by kernel_rfl) (fun _ hw => hw.sub (by repeat (first | exact List.Sublist.slnil | exact List.Sublist.refl _ | apply List.Sublist.cons_cons | apply List.Sublist.cons))) rfl (by kernel_rfl) (by kernel_rfl) (v_loadB 1 rfl Try.underlying5 rfl rfl rfl) rfl ?_ | refine a_take 6 pan_cx (by kernel_rfl) (fun _ hw => hw.sub (by repeat (first | exact List.Sublist.slnil | exact List.Sublist.refl _ | apply List.Sublist.cons_cons | apply List.Sublist.cons))) rfl (by kernel_rfl) (by kernel_rfl) (v_loadB 2 rfl Try.underlying5 rfl rfl rfl) rfl ?_ | refine a_take 6 pan_cx (by kernel_rfl) (fun _ hw => hw.sub (by repeat (first | exact List.Sublist.slnil | exact List.Sublist.refl _ | apply List.Sublist.cons_cons | apply List.Sublist.cons))) rfl (by kernel_rfl) (by kernel_rfl) (v_loadB 3 rfl Try.underlying5 rfl rfl rfl) rfl ?_ | refine a_take 6 pan_cx (by kernel_rfl) (fun _ hw => hw.sub (by repeat (first | exact List.Sublist.slnil | exact List.Sublist.refl _ | apply List.Sublist.cons_cons | apply List.Sublist.cons))) rfl (by kernel_rfl) (by kernel_rfl) (v_loadB 4 rfl Try.underlying5 rfl rfl rfl) rfl ?_ | refine a_take 6 pan_cx (by kernel_rfl) (fun _ hw => hw.sub (by repeat (first | exact List.Sublist.slnil | exact List.Sublist.refl _ | apply List.Sublist.cons_cons | apply List.Sublist.cons))) rfl (by kernel_rfl) (by kernel_rfl) (v_loadB 5 rfl Try.underlying5 rfl rfl rfl) rfl ?_ | refine a_take 6 pan_cx (by kernel_rfl) (fun _ hw => hw.sub (by repeat (first | exact List.Sublist.slnil | exact List.Sublist.refl _ | apply List.Sublist.cons_cons | apply List.Sublist.cons))) rfl (by kernel_rfl) (by kernel_rfl) (v_loadB 6 rfl Try.underlying5 rfl rfl rfl) rfl ?_ | refine a_take 6 pan_cx (by kernel_rfl) (fun _ hw => hw.sub (by repeat (first | exact List.Sublist.slnil | exact List.Sublist.refl _ | apply List.Sublist.cons_cons | apply List.Sublist.cons))) rfl (by kernel_rfl) (by kernel_rfl) (v_loadB 7 rfl Try.underlying5 rfl rfl rfl) rfl ?_ | refine a_take 6 pan_cx (by kernel_rfl) (fun _ hw => hw.sub (by repeat (first | exact List.Sublist.slnil | exact List.Sublist.refl _ | apply List.Sublist.cons_cons | apply List.Sublist.cons))) rfl (by kernel_rfl) (by kernel_rfl) (v_loadB 8 rfl Try.underlying5 rfl rfl rfl) rfl ?_ | refine a_take 6 pan_cx (by kernel_rfl) (fun _ hw => hw.sub (by repeat (first | exact List.Sublist.slnil | exact List.Sublist.refl _ | apply List.Sublist.cons_cons | apply List.Sublist.cons))) rfl (by kernel_rfl) (by kernel_rfl) (v_loadB 9 rfl Try.underlying5 rfl rfl rfl) rfl ?_ | refine a_take 6 pan_cx (by kernel_rfl) (fun _ hw => hw.sub (by repeat (first | exact List.Sublist.slnil | exact List.Sublist.refl _ | apply List.Sublist.cons_cons | apply List.Sublist.cons))) rfl (by kernel_rfl) (by kernel_rfl) (v_loadB 10 rfl Try.underlying5 rfl rfl rfl) rfl ?_ | refine a_take 6 pan_cx (by kernel_rfl) (fun _ hw => hw.sub (by repeat (first | exact List.Sublist.slnil | exact List.Sublist.refl _ | apply List.Sublist.cons_cons | apply List.Sublist.cons))) rfl (by kernel_rfl) (by kernel_rfl) (v_loadB 11 rfl Try.underlying5 rfl rfl rfl) rfl ?_
    refine a_take 7 pan_cx (by kernel_rfl) (fun _ hw => hw.sub (by repeat (first | exact List.Sublist.slnil | exact List.Sublist.refl _ | apply List.Sublist.cons_cons | apply List.Sublist.cons))) rfl (by kernel_rfl) (by kernel_rfl) (v_is (v' := .int .i64 (y.toNat : Int)) (v_conv Try.underlying3 (by rw [Try.underlying5]; rfl) rfl) (by rw [wrap_i64 (by omega) (by omega)])) rfl ?_
    first | refine a_take 8 pan_cx (by kernel_rfl) (fun _ hw => hw.sub (by repeat (first | exact List.Sublist.slnil | exact List.Sublist.refl _ | apply List.Sublist.cons_cons | apply List.Sublist.cons))) rfl (by kernel_rfl) (by kernel_rfl) (v_mul rfl rfl (by omega)) rfl ?_ | refine a_take 8 pan_cx (by kernel_rfl) (fun _ hw => hw.sub (by repeat (first | exact List.Sublist.slnil | exact List.Sublist.refl _ | apply List.Sublist.cons_cons | apply List.Sublist.cons))) rfl (by kernel_rfl) (by kernel_rfl) (v_mulw rfl rfl) rfl ?_
    first | refine a_take 9 pan_cx (by kernel_rfl) (fun _ hw => hw.sub (by repeat (first | exact List.Sublist.slnil | exact List.Sublist.refl _ | apply List.Sublist.cons_cons | apply List.Sublist.cons))) rfl (by kernel_rfl) (by kernel_rfl) (v_add rfl rfl (by omega)) rfl ?_ | refine a_take 9 pan_cx (by kernel_rfl) (fun _ hw => hw.sub (by repeat (first | exact List.Sublist.slnil | exact List.Sublist.refl _ | apply List.Sublist.cons_cons | apply List.Sublist.cons))) rfl (by kernel_rfl) (by kernel_rfl) (v_addw rfl rfl) rfl ?_
    refine a_take 10 pan_cx (by kernel_rfl) (fun _ hw => hw.sub (by repeat (first | exact List.Sublist.slnil | exact List.Sublist.refl _ | apply List.Sublist.cons_cons | apply List.Sublist.cons))) rfl (by kernel_rfl) (by kernel_rfl) (v_is (v' := .int .i64 (headN bs : Int)) (v_add rfl rfl (by omega)) (by rw [hH]; congr 1; omega)) rfl ?_
    refine a_one 11 (by kernel_rfl) rfl rfl ?_
    refine x_alloc (z := .int .i64 0) (by intro w; exact Try.zeroValue3 w) rfl (fun b5 => ?_)
    refine a_and (fun _ hw => hw.sub (by repeat (first | exact List.Sublist.slnil | exact List.Sublist.refl _ | apply List.Sublist.cons_cons | apply List.Sublist.cons))) ?_
    refine a_one 12 (by kernel_rfl) rfl rfl ?_
    first | refine x_store1 0 rfl rfl rfl Try.hi3 Try.cz3 rfl (by first | (simp; done) | (simp [intCells_len]; omega) | exact Nat.zero_lt_succ _) rfl ?_ | refine x_store1 1 rfl rfl rfl Try.hi3 Try.cz3 rfl (by first | (simp; done) | (simp [intCells_len]; omega) | exact Nat.zero_lt_succ _) rfl ?_ | refine x_store1 2 rfl rfl rfl Try.hi3 Try.cz3 rfl (by first | (simp; done) | (simp [intCells_len]; omega) | exact Nat.zero_lt_succ _) rfl ?_ | refine x_store1 3 rfl rfl rfl Try.hi3 Try.cz3 rfl (by first | (simp; done) | (simp [intCells_len]; omega) | exact Nat.zero_lt_succ _) rfl ?_ | refine x_store1 4 rfl rfl rfl Try.hi3 Try.cz3 rfl (by first | (simp; done) | (simp [intCells_len]; omega) | exact Nat.zero_lt_succ _) rfl ?_ | refine x_store1 5 rfl rfl rfl Try.hi3 Try.cz3 rfl (by first | (simp; done) | (simp [intCells_len]; omega) | exact Nat.zero_lt_succ _) rfl ?_ | refine x_store1 6 rfl rfl rfl Try.hi3 Try.cz3 rfl (by first | (simp; done) | (simp [intCells_len]; omega) | exact Nat.zero_lt_succ _) rfl ?_ | refine x_store1 7 rfl rfl rfl Try.hi3 Try.cz3 rfl (by first | (simp; done) | (simp [intCells_len]; omega) | exact Nat.zero_lt_succ _) rfl ?_ | refine x_store1 8 rfl rfl rfl Try.hi3 Try.cz3 rfl (by first | (simp; done) | (simp [intCells_len]; omega) | exact Nat.zero_lt_succ _) rfl ?_ | refine x_store1 9 rfl rfl rfl Try.hi3 Try.cz3 rfl (by first | (simp; done) | (simp [intCells_len]; omega) | exact Nat.zero_lt_succ _) rfl ?_ | refine x_store1 10 rfl rfl rfl Try.hi3 Try.cz3 rfl (by first | (simp; done) | (simp [intCells_len]; omega) | exact Nat.zero_lt_succ _) rfl ?_ | refine x_store1 11 rfl rfl rfl Try.hi3 Try.cz3 rfl (by first | (simp; done) | (simp [intCells_len]; omega) | exact Nat.zero_lt_succ _) rfl ?_
    refine a_and (fun _ hw => hw.sub (by repeat (first | exact List.Sublist.slnil | exact List.Sublist.refl _ | apply List.Sublist.cons_cons | apply List.Sublist.cons))) ?_
    refine a_done (by kernel_rfl) ?_
    refine e_seq ?_
    refine e_seq ?_
    refine e_region ?_
    first | refine w_val (v_loadO Try.underlying3 rfl rfl (hc1)) rfl ?_ | refine w_val (v_loadO Try.underlying3 rfl rfl (hc2)) rfl ?_ | refine w_val (v_loadB 0 rfl Try.underlying3 rfl rfl rfl) rfl ?_ | refine w_val (v_loadB 1 rfl Try.underlying3 rfl rfl rfl) rfl ?_ | refine w_val (v_loadB 2 rfl Try.underlying3 rfl rfl rfl) rfl ?_ | refine w_val (v_loadB 3 rfl Try.underlying3 rfl rfl rfl) rfl ?_ | refine w_val (v_loadB 4 rfl Try.underlying3 rfl rfl rfl) rfl ?_ | refine w_val (v_loadB 5 rfl Try.underlying3 rfl rfl rfl) rfl ?_ | refine w_val (v_loadB 6 rfl Try.underlying3 rfl rfl rfl) rfl ?_ | refine w_val (v_loadB 7 rfl Try.underlying3 rfl rfl rfl) rfl ?_ | refine w_val (v_loadB 8 rfl Try.underlying3 rfl rfl rfl) rfl ?_ | refine w_val (v_loadB 9 rfl Try.underlying3 rfl rfl rfl) rfl ?_ | refine w_val (v_loadB 10 rfl Try.underlying3 rfl rfl rfl) rfl ?_ | refine w_val (v_loadB 11 rfl Try.underlying3 rfl rfl rfl) rfl ?_
    refine w_val (v_move rfl) rfl ?_
    refine w_val (v_lenS Try.underlying23 rfl) rfl ?_
    refine w_val (v_gtr rfl rfl) rfl ?_
    refine w_nil ?_
    refine e_condD rfl (fun h3 => ?_) (fun h3 => ?_)
    · refine e_seq ?_
      refine e_region ?_
      refine w_val (v_assign rfl) rfl ?_
      refine w_val (v_assign rfl) rfl ?_
      refine w_val (v_assign rfl) rfl ?_
      refine w_nil ?_
      refine e_retQ (q_ret3 rfl (.tmp rfl) (.tmp rfl) (.tmp rfl) ?_)
      exact fun w' hw' => ⟨(.slice none 0 0, feet []), trivial, by rw [decL, if_neg h2', if_pos (by omega)], by rw [decL, if_neg h2', if_pos (by omega)]; exact hnil hw'⟩
    · have hle : headN bs ≤ bs.length := by omega
      have hn2 : 2 ≤ headN bs := by omega
      have hnm : headN bs ≤ 66000 := by omega
      have hD : decL roundFaultL bs = if (bodyL roundFaultL ((bs.take (headN bs)).drop 2)).2 ≠ 0 then ([], 0, (bodyL roundFaultL ((bs.take (headN bs)).drop 2)).2) else ((bodyL roundFaultL ((bs.take (headN bs)).drop 2)).1, (headN bs : Int), 0) := by
        rw [decL, if_neg h2', if_neg (by omega)]
      rw [hD]
      have hbad : getRound ((bs.take (headN bs)).drop 2) = none → bodyL roundFaultL ((bs.take (headN bs)).drop 2) = ([], 3) := fun h => by simp only [bodyL, h]
      have hgood : ∀ r, getRound ((bs.take (headN bs)).drop 2) = some (r, []) → bodyL roundFaultL ((bs.take (headN bs)).drop 2) = if roundFaultL r ≠ 0 then ([], roundFaultL r) else (r, 0) := fun r h => by simp only [bodyL, h]; rfl
      have hmore : ∀ r rest, rest ≠ [] → getRound ((bs.take (headN bs)).drop 2) = some (r, rest) → bodyL roundFaultL ((bs.take (headN bs)).drop 2) = ([], 3) := fun r rest h h' => by simp only [bodyL, h', if_pos h]
      generalize hB : bodyL roundFaultL ((bs.take (headN bs)).drop 2) = B at *
      clear hD hH
      generalize hN : headN bs = n at *
      have hlenN : (bs.take n).length = n := by simp; omega
      refine e_skip ?_
      refine e_seq ?_
      refine e_region ?_
      refine w_op rfl ?_
      refine x_alloc (z := .int .i64 0) (by intro w; exact Try.zeroValue3 w) rfl (fun b6 => ?_)
      refine w_op rfl ?_
      first | refine x_store1 0 rfl rfl rfl Try.hi3 Try.cz3 rfl (by first | (simp; done) | (simp [intCells_len]; omega) | exact Nat.zero_lt_succ _) rfl ?_ | refine x_store1 1 rfl rfl rfl Try.hi3 Try.cz3 rfl (by first | (simp; done) | (simp [intCells_len]; omega) | exact Nat.zero_lt_succ _) rfl ?_ | refine x_store1 2 rfl rfl rfl Try.hi3 Try.cz3 rfl (by first | (simp; done) | (simp [intCells_len]; omega) | exact Nat.zero_lt_succ _) rfl ?_ | refine x_store1 3 rfl rfl rfl Try.hi3 Try.cz3 rfl (by first | (simp; done) | (simp [intCells_len]; omega) | exact Nat.zero_lt_succ _) rfl ?_ | refine x_store1 4 rfl rfl rfl Try.hi3 Try.cz3 rfl (by first | (simp; done) | (simp [intCells_len]; omega) | exact Nat.zero_lt_succ _) rfl ?_ | refine x_store1 5 rfl rfl rfl Try.hi3 Try.cz3 rfl (by first | (simp; done) | (simp [intCells_len]; omega) | exact Nat.zero_lt_succ _) rfl ?_ | refine x_store1 6 rfl rfl rfl Try.hi3 Try.cz3 rfl (by first | (simp; done) | (simp [intCells_len]; omega) | exact Nat.zero_lt_succ _) rfl ?_ | refine x_store1 7 rfl rfl rfl Try.hi3 Try.cz3 rfl (by first | (simp; done) | (simp [intCells_len]; omega) | exact Nat.zero_lt_succ _) rfl ?_ | refine x_store1 8 rfl rfl rfl Try.hi3 Try.cz3 rfl (by first | (simp; done) | (simp [intCells_len]; omega) | exact Nat.zero_lt_succ _) rfl ?_ | refine x_store1 9 rfl rfl rfl Try.hi3 Try.cz3 rfl (by first | (simp; done) | (simp [intCells_len]; omega) | exact Nat.zero_lt_succ _) rfl ?_ | refine x_store1 10 rfl rfl rfl Try.hi3 Try.cz3 rfl (by first | (simp; done) | (simp [intCells_len]; omega) | exact Nat.zero_lt_succ _) rfl ?_ | refine x_store1 11 rfl rfl rfl Try.hi3 Try.cz3 rfl (by first | (simp; done) | (simp [intCells_len]; omega) | exact Nat.zero_lt_succ _) rfl ?_
      refine w_nil ?_
      refine e_seq ?_
      refine e_region ?_
      refine w_val (v_makeFunc rfl) rfl ?_
      refine w_val (v_assign rfl) rfl ?_
      refine w_nil ?_
      refine e_seq ?_
      refine e_seq ?_
      refine e_region ?_
      refine w_val (v_move rfl) rfl ?_
      refine w_op rfl ?_
      refine x_call0 (v := .bool (decide ((2 : Int) + 1 ≤ n))) rfl rfl rfl Try.call100 rfl (fun w hw => need_spec b6 b5 1 2 n w (by rw [blk_cell (hw.mem (i := 0) rfl)]; rfl) (by rw [blk_cell (hw.mem (i := 1) rfl)]; rfl) (by omega)) ?_
      by_cases hn3 : (2 : Int) + 1 ≤ n
      · obtain ⟨x0, b1, hb1⟩ : ∃ x0 b1, (bs.take n).drop 2 = x0 :: b1 := by
          cases hh : (bs.take n).drop 2 with
          | nil => have := congrArg List.length hh; simp at this; omega
          | cons x0 b1 => exact ⟨x0, b1, rfl⟩
        have hx0 := x0.toNat_lt
        have hc3 := cell_at hcl (n := n) (a := 2) (j := 0) (x := x0) (by rw [hb1]; rfl) 2 (by omega)
        have hpos := drop_cons hb1
        generalize hNN : x0.toNat = NN at *
        have hgr : getRound ((bs.take n).drop 2) = getDeeds NN b1 := by rw [hb1]; simp only [getRound, hNN]
        rw [hgr] at hbad hgood hmore
        refine w_val (v_is (v' := .bool false) (v_not rfl) (by rw [decide_eq_true hn3]; rfl)) rfl ?_
        refine w_nil ?_
        first | refine e_condDF rfl (by omega) ?_ | refine e_condF rfl ?_
        refine e_skip ?_
        refine e_seq ?_
        refine e_region ?_
        refine w_val (v_assign rfl) rfl ?_
        refine w_nil ?_
        refine e_seq ?_
        refine e_region ?_
        refine w_val (v_move rfl) rfl ?_
        first | refine w_val (v_loadO Try.underlying3 rfl rfl (hc3)) rfl ?_ | refine w_val (v_loadB 0 rfl Try.underlying3 rfl rfl rfl) rfl ?_ | refine w_val (v_loadB 1 rfl Try.underlying3 rfl rfl rfl) rfl ?_ | refine w_val (v_loadB 2 rfl Try.underlying3 rfl rfl rfl) rfl ?_ | refine w_val (v_loadB 3 rfl Try.underlying3 rfl rfl rfl) rfl ?_ | refine w_val (v_loadB 4 rfl Try.underlying3 rfl rfl rfl) rfl ?_ | refine w_val (v_loadB 5 rfl Try.underlying3 rfl rfl rfl) rfl ?_ | refine w_val (v_loadB 6 rfl Try.underlying3 rfl rfl rfl) rfl ?_ | refine w_val (v_loadB 7 rfl Try.underlying3 rfl rfl rfl) rfl ?_ | refine w_val (v_loadB 8 rfl Try.underlying3 rfl rfl rfl) rfl ?_ | refine w_val (v_loadB 9 rfl Try.underlying3 rfl rfl rfl) rfl ?_ | refine w_val (v_loadB 10 rfl Try.underlying3 rfl rfl rfl) rfl ?_ | refine w_val (v_loadB 11 rfl Try.underlying3 rfl rfl rfl) rfl ?_
        first | refine w_val (v_indexSB Try.underlying23 Try.hi5 Try.cz5 rfl rfl (by first | omega | decide)) rfl ?_ | refine w_val (v_indexS Try.underlying23 Try.hi5 Try.cz5 rfl rfl (by first | omega | decide)) rfl ?_
        first | refine w_val (v_loadO Try.underlying5 rfl rfl (hc3)) rfl ?_ | refine w_val (v_loadB 0 rfl Try.underlying5 rfl rfl rfl) rfl ?_ | refine w_val (v_loadB 1 rfl Try.underlying5 rfl rfl rfl) rfl ?_ | refine w_val (v_loadB 2 rfl Try.underlying5 rfl rfl rfl) rfl ?_ | refine w_val (v_loadB 3 rfl Try.underlying5 rfl rfl rfl) rfl ?_ | refine w_val (v_loadB 4 rfl Try.underlying5 rfl rfl rfl) rfl ?_ | refine w_val (v_loadB 5 rfl Try.underlying5 rfl rfl rfl) rfl ?_ | refine w_val (v_loadB 6 rfl Try.underlying5 rfl rfl rfl) rfl ?_ | refine w_val (v_loadB 7 rfl Try.underlying5 rfl rfl rfl) rfl ?_ | refine w_val (v_loadB 8 rfl Try.underlying5 rfl rfl rfl) rfl ?_ | refine w_val (v_loadB 9 rfl Try.underlying5 rfl rfl rfl) rfl ?_ | refine w_val (v_loadB 10 rfl Try.underlying5 rfl rfl rfl) rfl ?_ | refine w_val (v_loadB 11 rfl Try.underlying5 rfl rfl rfl) rfl ?_
        refine w_val (v_is (v' := .int .i64 (NN : Int)) (v_conv Try.underlying3 (by rw [Try.underlying5]; rfl) rfl) (by rw [wrap_i64 (by omega) (by omega)])) rfl ?_
        refine w_val (v_assign rfl) rfl ?_
        refine w_nil ?_
        refine e_seq ?_
        refine e_region ?_
        first | refine w_val (v_loadO Try.underlying3 rfl rfl (hc3)) rfl ?_ | refine w_val (v_loadB 0 rfl Try.underlying3 rfl rfl rfl) rfl ?_ | refine w_val (v_loadB 1 rfl Try.underlying3 rfl rfl rfl) rfl ?_ | refine w_val (v_loadB 2 rfl Try.underlying3 rfl rfl rfl) rfl ?_ | refine w_val (v_loadB 3 rfl Try.underlying3 rfl rfl rfl) rfl ?_ | refine w_val (v_loadB 4 rfl Try.underlying3 rfl rfl rfl) rfl ?_ | refine w_val (v_loadB 5 rfl Try.underlying3 rfl rfl rfl) rfl ?_ | refine w_val (v_loadB 6 rfl Try.underlying3 rfl rfl rfl) rfl ?_ | refine w_val (v_loadB 7 rfl Try.underlying3 rfl rfl rfl) rfl ?_ | refine w_val (v_loadB 8 rfl Try.underlying3 rfl rfl rfl) rfl ?_ | refine w_val (v_loadB 9 rfl Try.underlying3 rfl rfl rfl) rfl ?_ | refine w_val (v_loadB 10 rfl Try.underlying3 rfl rfl rfl) rfl ?_ | refine w_val (v_loadB 11 rfl Try.underlying3 rfl rfl rfl) rfl ?_
        first | refine w_val (v_add rfl rfl (by omega)) rfl ?_ | refine w_val (v_addw rfl rfl) rfl ?_
        refine w_op rfl ?_
        first | refine x_store1 0 rfl rfl rfl Try.hi3 Try.cz3 rfl (by first | (simp; done) | (simp [intCells_len]; omega) | exact Nat.zero_lt_succ _) rfl ?_ | refine x_store1 1 rfl rfl rfl Try.hi3 Try.cz3 rfl (by first | (simp; done) | (simp [intCells_len]; omega) | exact Nat.zero_lt_succ _) rfl ?_ | refine x_store1 2 rfl rfl rfl Try.hi3 Try.cz3 rfl (by first | (simp; done) | (simp [intCells_len]; omega) | exact Nat.zero_lt_succ _) rfl ?_ | refine x_store1 3 rfl rfl rfl Try.hi3 Try.cz3 rfl (by first | (simp; done) | (simp [intCells_len]; omega) | exact Nat.zero_lt_succ _) rfl ?_ | refine x_store1 4 rfl rfl rfl Try.hi3 Try.cz3 rfl (by first | (simp; done) | (simp [intCells_len]; omega) | exact Nat.zero_lt_succ _) rfl ?_ | refine x_store1 5 rfl rfl rfl Try.hi3 Try.cz3 rfl (by first | (simp; done) | (simp [intCells_len]; omega) | exact Nat.zero_lt_succ _) rfl ?_ | refine x_store1 6 rfl rfl rfl Try.hi3 Try.cz3 rfl (by first | (simp; done) | (simp [intCells_len]; omega) | exact Nat.zero_lt_succ _) rfl ?_ | refine x_store1 7 rfl rfl rfl Try.hi3 Try.cz3 rfl (by first | (simp; done) | (simp [intCells_len]; omega) | exact Nat.zero_lt_succ _) rfl ?_ | refine x_store1 8 rfl rfl rfl Try.hi3 Try.cz3 rfl (by first | (simp; done) | (simp [intCells_len]; omega) | exact Nat.zero_lt_succ _) rfl ?_ | refine x_store1 9 rfl rfl rfl Try.hi3 Try.cz3 rfl (by first | (simp; done) | (simp [intCells_len]; omega) | exact Nat.zero_lt_succ _) rfl ?_ | refine x_store1 10 rfl rfl rfl Try.hi3 Try.cz3 rfl (by first | (simp; done) | (simp [intCells_len]; omega) | exact Nat.zero_lt_succ _) rfl ?_ | refine x_store1 11 rfl rfl rfl Try.hi3 Try.cz3 rfl (by first | (simp; done) | (simp [intCells_len]; omega) | exact Nat.zero_lt_succ _) rfl ?_
        refine w_nil ?_
        refine e_seq ?_
        refine e_seq ?_
        refine e_region ?_
        refine w_val (v_assign rfl) rfl ?_
        refine w_nil ?_
        refine e_block ?_
        refine g_heap (m' := [.blk b6 3 [.int .i64 ((3 : Nat) : Int)], Own (.slice none 0 0) 52 1 0 [], Keep (feet []) (Deeds [] []), .blk b5 3 [.int .i64 (n : Int)]]) (fun _ hw => by
          refine ((hw.keep0 (Deeds [] []) Deeds.nil).ownNil 52 1).perm (m' := [.blk b6 3 [.int .i64 ((3 : Nat) : Int)], Own (.slice none 0 0) 52 1 0 [], Keep (feet []) (Deeds [] []), .blk b5 3 [.int .i64 (n : Int)]]) ?_
          exact (List.Perm.cons _ (.swap _ _ _)).trans (.swap _ _ _)) ?_
        refine e_loopH (σ := Nat × Nat × Value × List Value × RoundL × (Nat → Prop)) [0, 5, 6, 7, 9] (.cons rfl (.cons rfl (.cons rfl (.cons rfl (.cons rfl .nil))))) (fun x => [(8, x.2.2.1), (10, .int .i64 x.1)]) (fun x => [.blk b6 3 [.int .i64 (x.2.1 : Int)], Own x.2.2.1 52 1 x.1 x.2.2.2.1, Keep x.2.2.2.2.2 (Deeds x.2.2.2.1 x.2.2.2.2.1), .blk b5 3 [.int .i64 (n : Int)]]) (fun x => x.1 ≤ NN ∧ x.2.2.2.2.1.length = x.1 ∧ (x.2.1 ≤ n ∧ getDeeds NN b1 = (getDeeds (NN - x.1) ((bs.take n).drop x.2.1)).map (fun p => (x.2.2.2.2.1 ++ p.1, p.2)))) (fun x => NN - x.1) (0, 3, .slice none 0 0, [], [], feet []) ⟨by dsimp only; omega, rfl, by dsimp only; omega, by dsimp only; rw [hpos]; cases getDeeds NN b1 <;> simp⟩ (by repeat (first | exact Sub.nil _ | refine Sub.cons rfl ?_)) (fun _ hw => hw) ?_
        rintro ⟨k, a, vo, vs, r, F⟩ ⟨hk, hrl, han, hrel⟩
        dsimp only at hk hrl han hrel ⊢
        refine e_seq ?_
        refine e_seq ?_
        refine e_region ?_
        refine w_val (v_move rfl) rfl ?_
        refine w_val (v_move rfl) rfl ?_
        refine w_val (v_lss rfl rfl) rfl ?_
        refine w_nil ?_
        refine e_condD rfl (fun hlt => ?_) (fun hlt => ?_)
        · have hlt' : k < NN := by omega
          refine e_skip ?_
          refine e_seq ?_
          refine e_block ?_
          refine e_seq ?_
          refine e_seq ?_
          refine e_region ?_
          refine w_val (v_move rfl) rfl ?_
          refine w_op rfl ?_
          refine x_call0 (v := .bool (decide ((a : Int) + 1 ≤ n))) rfl rfl rfl Try.call100 rfl (fun w hw => need_spec b6 b5 1 a n w (by rw [blk_cell (hw.mem (i := 0) rfl)]; rfl) (by rw [blk_cell (hw.mem (i := 3) rfl)]; rfl) (by omega)) ?_
          by_cases hn4 : (a : Int) + 1 ≤ n
          · obtain ⟨x1, b3, hb3⟩ : ∃ x0 b1, (bs.take n).drop a = x0 :: b1 := by
              cases hh : (bs.take n).drop a with
              | nil => have := congrArg List.length hh; simp at this; omega
              | cons x0 b1 => exact ⟨x0, b1, rfl⟩
            have hx1 := x1.toNat_lt
            have hc4 := cell_at hcl (n := n) (a := a) (j := 0) (x := x1) (by rw [hb3]; rfl) a (by omega)
            have hpos2 := drop_cons hb3
            generalize hMM : x1.toNat = MM at *
            have hgd : getDeed (x1 :: b3) = getOps MM b3 := by simp only [getDeed, hMM]
            rw [hb3] at hrel
            refine w_val (v_is (v' := .bool false) (v_not rfl) (by rw [decide_eq_true hn4]; rfl)) rfl ?_
            refine w_nil ?_
            first | refine e_condDF rfl (by omega) ?_ | refine e_condF rfl ?_
            refine e_skip ?_
            refine e_seq ?_
            refine e_region ?_
            refine w_val (v_assign rfl) rfl ?_
            refine w_nil ?_
            refine e_seq ?_
            refine e_region ?_
            refine w_val (v_move rfl) rfl ?_
            first | refine w_val (v_loadO Try.underlying3 rfl rfl (hc4)) rfl ?_ | refine w_val (v_loadB 0 rfl Try.underlying3 rfl rfl rfl) rfl ?_ | refine w_val (v_loadB 1 rfl Try.underlying3 rfl rfl rfl) rfl ?_ | refine w_val (v_loadB 2 rfl Try.underlying3 rfl rfl rfl) rfl ?_ | refine w_val (v_loadB 3 rfl Try.underlying3 rfl rfl rfl) rfl ?_ | refine w_val (v_loadB 4 rfl Try.underlying3 rfl rfl rfl) rfl ?_ | refine w_val (v_loadB 5 rfl Try.underlying3 rfl rfl rfl) rfl ?_ | refine w_val (v_loadB 6 rfl Try.underlying3 rfl rfl rfl) rfl ?_ | refine w_val (v_loadB 7 rfl Try.underlying3 rfl rfl rfl) rfl ?_ | refine w_val (v_loadB 8 rfl Try.underlying3 rfl rfl rfl) rfl ?_ | refine w_val (v_loadB 9 rfl Try.underlying3 rfl rfl rfl) rfl ?_ | refine w_val (v_loadB 10 rfl Try.underlying3 rfl rfl rfl) rfl ?_ | refine w_val (v_loadB 11 rfl Try.underlying3 rfl rfl rfl) rfl ?_
            first | refine w_val (v_indexSB Try.underlying23 Try.hi5 Try.cz5 rfl rfl (by first | omega | decide)) rfl ?_ | refine w_val (v_indexS Try.underlying23 Try.hi5 Try.cz5 rfl rfl (by first | omega | decide)) rfl ?_
            first | refine w_val (v_loadO Try.underlying5 rfl rfl (hc4)) rfl ?_ | refine w_val (v_loadB 0 rfl Try.underlying5 rfl rfl rfl) rfl ?_ | refine w_val (v_loadB 1 rfl Try.underlying5 rfl rfl rfl) rfl ?_ | refine w_val (v_loadB 2 rfl Try.underlying5 rfl rfl rfl) rfl ?_ | refine w_val (v_loadB 3 rfl Try.underlying5 rfl rfl rfl) rfl ?_ | refine w_val (v_loadB 4 rfl Try.underlying5 rfl rfl rfl) rfl ?_ | refine w_val (v_loadB 5 rfl Try.underlying5 rfl rfl rfl) rfl ?_ | refine w_val (v_loadB 6 rfl Try.underlying5 rfl rfl rfl) rfl ?_ | refine w_val (v_loadB 7 rfl Try.underlying5 rfl rfl rfl) rfl ?_ | refine w_val (v_loadB 8 rfl Try.underlying5 rfl rfl rfl) rfl ?_ | refine w_val (v_loadB 9 rfl Try.underlying5 rfl rfl rfl) rfl ?_ | refine w_val (v_loadB 10 rfl Try.underlying5 rfl rfl rfl) rfl ?_ | refine w_val (v_loadB 11 rfl Try.underlying5 rfl rfl rfl) rfl ?_
            refine w_val (v_is (v' := .int .i64 (MM : Int)) (v_conv Try.underlying3 (by rw [Try.underlying5]; rfl) rfl) (by rw [wrap_i64 (by omega) (by omega)])) rfl ?_
            refine w_val (v_assign rfl) rfl ?_
            refine w_nil ?_
            refine e_seq ?_
            refine e_region ?_
            first | refine w_val (v_loadO Try.underlying3 rfl rfl (hc4)) rfl ?_ | refine w_val (v_loadB 0 rfl Try.underlying3 rfl rfl rfl) rfl ?_ | refine w_val (v_loadB 1 rfl Try.underlying3 rfl rfl rfl) rfl ?_ | refine w_val (v_loadB 2 rfl Try.underlying3 rfl rfl rfl) rfl ?_ | refine w_val (v_loadB 3 rfl Try.underlying3 rfl rfl rfl) rfl ?_ | refine w_val (v_loadB 4 rfl Try.underlying3 rfl rfl rfl) rfl ?_ | refine w_val (v_loadB 5 rfl Try.underlying3 rfl rfl rfl) rfl ?_ | refine w_val (v_loadB 6 rfl Try.underlying3 rfl rfl rfl) rfl ?_ | refine w_val (v_loadB 7 rfl Try.underlying3 rfl rfl rfl) rfl ?_ | refine w_val (v_loadB 8 rfl Try.underlying3 rfl rfl rfl) rfl ?_ | refine w_val (v_loadB 9 rfl Try.underlying3 rfl rfl rfl) rfl ?_ | refine w_val (v_loadB 10 rfl Try.underlying3 rfl rfl rfl) rfl ?_ | refine w_val (v_loadB 11 rfl Try.underlying3 rfl rfl rfl) rfl ?_
            refine w_val (v_is (v' := .int .i64 ((a + 1 : Nat) : Int)) (v_add rfl rfl (by omega)) rfl) rfl ?_
            refine w_op rfl ?_
            first | refine x_store1 0 rfl rfl rfl Try.hi3 Try.cz3 rfl (by first | (simp; done) | (simp [intCells_len]; omega) | exact Nat.zero_lt_succ _) rfl ?_ | refine x_store1 1 rfl rfl rfl Try.hi3 Try.cz3 rfl (by first | (simp; done) | (simp [intCells_len]; omega) | exact Nat.zero_lt_succ _) rfl ?_ | refine x_store1 2 rfl rfl rfl Try.hi3 Try.cz3 rfl (by first | (simp; done) | (simp [intCells_len]; omega) | exact Nat.zero_lt_succ _) rfl ?_ | refine x_store1 3 rfl rfl rfl Try.hi3 Try.cz3 rfl (by first | (simp; done) | (simp [intCells_len]; omega) | exact Nat.zero_lt_succ _) rfl ?_ | refine x_store1 4 rfl rfl rfl Try.hi3 Try.cz3 rfl (by first | (simp; done) | (simp [intCells_len]; omega) | exact Nat.zero_lt_succ _) rfl ?_ | refine x_store1 5 rfl rfl rfl Try.hi3 Try.cz3 rfl (by first | (simp; done) | (simp [intCells_len]; omega) | exact Nat.zero_lt_succ _) rfl ?_ | refine x_store1 6 rfl rfl rfl Try.hi3 Try.cz3 rfl (by first | (simp; done) | (simp [intCells_len]; omega) | exact Nat.zero_lt_succ _) rfl ?_ | refine x_store1 7 rfl rfl rfl Try.hi3 Try.cz3 rfl (by first | (simp; done) | (simp [intCells_len]; omega) | exact Nat.zero_lt_succ _) rfl ?_ | refine x_store1 8 rfl rfl rfl Try.hi3 Try.cz3 rfl (by first | (simp; done) | (simp [intCells_len]; omega) | exact Nat.zero_lt_succ _) rfl ?_ | refine x_store1 9 rfl rfl rfl Try.hi3 Try.cz3 rfl (by first | (simp; done) | (simp [intCells_len]; omega) | exact Nat.zero_lt_succ _) rfl ?_ | refine x_store1 10 rfl rfl rfl Try.hi3 Try.cz3 rfl (by first | (simp; done) | (simp [intCells_len]; omega) | exact Nat.zero_lt_succ _) rfl ?_ | refine x_store1 11 rfl rfl rfl Try.hi3 Try.cz3 rfl (by first | (simp; done) | (simp [intCells_len]; omega) | exact Nat.zero_lt_succ _) rfl ?_
            refine w_nil ?_
            refine e_seq ?_
            refine e_seq ?_
            refine e_region ?_
            refine w_val (v_assign rfl) rfl ?_
            refine w_nil ?_
            refine e_block ?_
            refine g_heap (m' := [.blk b6 3 [.int .i64 ((a + 1 : Nat) : Int)], Own (.slice none 0 0) 61 5 0 [], Own vo 52 1 k vs, Keep F (Deeds vs r), .blk b5 3 [.int .i64 (n : Int)]]) (fun _ hw => (hw.ownNil 61 5).perm (.swap _ _ _)) ?_
            refine e_loopH (σ := Nat × Nat × Value × DeedL) [0, 5, 6, 7, 8, 9, 10, 12] (.cons rfl (.cons rfl (.cons rfl (.cons rfl (.cons rfl (.cons rfl (.cons rfl (.cons rfl .nil)))))))) (fun x => [(11, x.2.2.1), (13, .int .i64 x.1)]) (fun x => [.blk b6 3 [.int .i64 (x.2.1 : Int)], Own x.2.2.1 61 5 x.1 (deedCells x.2.2.2), Own vo 52 1 k vs, Keep F (Deeds vs r), .blk b5 3 [.int .i64 (n : Int)]]) (fun x => x.1 ≤ MM ∧ x.2.2.2.length = x.1 ∧ x.2.1 ≤ n ∧ getOps MM b3 = (getOps (MM - x.1) ((bs.take n).drop x.2.1)).map (fun p => (x.2.2.2 ++ p.1, p.2))) (fun x => MM - x.1) (0, a + 1, .slice none 0 0, []) ⟨by dsimp only; omega, rfl, by dsimp only; omega, by dsimp only; rw [hpos2]; cases getOps MM b3 <;> simp⟩ (by repeat (first | exact Sub.nil _ | refine Sub.cons rfl ?_)) (fun _ hw => hw) ?_
            rintro ⟨j, a2, vd, d⟩ ⟨hj, hdl, han2, hrel2⟩
            dsimp only at hj hdl han2 hrel2 ⊢
            have hnone : j < MM → getOp ((bs.take n).drop a2) = none → B = ([], 3) := fun hj hno => hbad (by rw [hrel, getDeeds_none hlt' (by rw [hgd, hrel2, getOps_none hj hno]; rfl)]; rfl)
            refine e_seq ?_
            refine e_seq ?_
            refine e_region ?_
            refine w_val (v_move rfl) rfl ?_
            refine w_val (v_move rfl) rfl ?_
            refine w_val (v_lss rfl rfl) rfl ?_
            refine w_nil ?_
            refine e_condD rfl (fun hlt2 => ?_) (fun hlt2 => ?_)
            · have hlt2' : j < MM := by omega
              refine e_skip ?_
              refine e_seq ?_
              refine e_block ?_
              refine e_seq ?_
              refine e_seq ?_
              refine e_region ?_
              refine w_val (v_move rfl) rfl ?_
              refine w_op rfl ?_
              refine x_call0 (v := .bool (decide ((a2 : Int) + 3 ≤ n))) rfl rfl rfl Try.call100 rfl (fun w hw => need_spec b6 b5 3 a2 n w (by rw [blk_cell (hw.mem (i := 0) rfl)]; rfl) (by rw [blk_cell (hw.mem (i := 4) rfl)]; rfl) (by omega)) ?_
              by_cases hn5 : (a2 : Int) + 3 ≤ n
              · obtain ⟨y0, y1, y2, b5', hb5⟩ : ∃ y0 y1 y2 b1, (bs.take n).drop a2 = y0 :: y1 :: y2 :: b1 := by
                  have hll : ((bs.take n).drop a2).length = n - a2 := by rw [List.length_drop, hlenN]
                  match hh : (bs.take n).drop a2 with
                  | y0 :: y1 :: y2 :: b1 => exact ⟨y0, y1, y2, b1, rfl⟩
                  | [] => rw [hh] at hll; simp at hll; omega
                  | [_] => rw [hh] at hll; simp at hll; omega
                  | [_, _] => rw [hh] at hll; simp at hll; omega
                have hy0 := y0.toNat_lt
                have hy1 := y1.toNat_lt
                have hy2 := y2.toNat_lt
                have hd0 := cell_at hcl (n := n) (a := a2) (j := 0) (x := y0) (by rw [hb5]; rfl) a2 (by omega)
                have hd1 := cell_at hcl (n := n) (a := a2) (j := 1) (x := y1) (by rw [hb5]; rfl) ((a2 : Int) + 1) (by omega)
                have hd2 := cell_at hcl (n := n) (a := a2) (j := 2) (x := y2) (by rw [hb5]; rfl) ((a2 : Int) + 2) (by omega)
                have hpos3 : (bs.take n).drop (a2 + 3) = b5' := by rw [← List.drop_drop, hb5]; rfl
                refine w_val (v_is (v' := .bool false) (v_not rfl) (by rw [decide_eq_true hn5]; rfl)) rfl ?_
                refine w_nil ?_
                first | refine e_condDF rfl (by omega) ?_ | refine e_condF rfl ?_
                refine e_skip ?_
                refine e_seq ?_
                refine e_region ?_
                refine w_val (v_move rfl) rfl ?_
                first | refine w_val (v_loadO Try.underlying3 rfl rfl (hd0)) rfl ?_ | refine w_val (v_loadO Try.underlying3 rfl rfl (hd1)) rfl ?_ | refine w_val (v_loadO Try.underlying3 rfl rfl (hd2)) rfl ?_ | refine w_val (v_loadB 0 rfl Try.underlying3 rfl rfl rfl) rfl ?_ | refine w_val (v_loadB 1 rfl Try.underlying3 rfl rfl rfl) rfl ?_ | refine w_val (v_loadB 2 rfl Try.underlying3 rfl rfl rfl) rfl ?_ | refine w_val (v_loadB 3 rfl Try.underlying3 rfl rfl rfl) rfl ?_ | refine w_val (v_loadB 4 rfl Try.underlying3 rfl rfl rfl) rfl ?_ | refine w_val (v_loadB 5 rfl Try.underlying3 rfl rfl rfl) rfl ?_ | refine w_val (v_loadB 6 rfl Try.underlying3 rfl rfl rfl) rfl ?_ | refine w_val (v_loadB 7 rfl Try.underlying3 rfl rfl rfl) rfl ?_ | refine w_val (v_loadB 8 rfl Try.underlying3 rfl rfl rfl) rfl ?_ | refine w_val (v_loadB 9 rfl Try.underlying3 rfl rfl rfl) rfl ?_ | refine w_val (v_loadB 10 rfl Try.underlying3 rfl rfl rfl) rfl ?_ | refine w_val (v_loadB 11 rfl Try.underlying3 rfl rfl rfl) rfl ?_
                first | refine w_val (v_indexSB Try.underlying23 Try.hi5 Try.cz5 rfl rfl (by first | omega | decide)) rfl ?_ | refine w_val (v_indexS Try.underlying23 Try.hi5 Try.cz5 rfl rfl (by first | omega | decide)) rfl ?_
                first | refine w_val (v_loadO Try.underlying5 rfl rfl (hd0)) rfl ?_ | refine w_val (v_loadO Try.underlying5 rfl rfl (hd1)) rfl ?_ | refine w_val (v_loadO Try.underlying5 rfl rfl (hd2)) rfl ?_ | refine w_val (v_loadB 0 rfl Try.underlying5 rfl rfl rfl) rfl ?_ | refine w_val (v_loadB 1 rfl Try.underlying5 rfl rfl rfl) rfl ?_ | refine w_val (v_loadB 2 rfl Try.underlying5 rfl rfl rfl) rfl ?_ | refine w_val (v_loadB 3 rfl Try.underlying5 rfl rfl rfl) rfl ?_ | refine w_val (v_loadB 4 rfl Try.underlying5 rfl rfl rfl) rfl ?_ | refine w_val (v_loadB 5 rfl Try.underlying5 rfl rfl rfl) rfl ?_ | refine w_val (v_loadB 6 rfl Try.underlying5 rfl rfl rfl) rfl ?_ | refine w_val (v_loadB 7 rfl Try.underlying5 rfl rfl rfl) rfl ?_ | refine w_val (v_loadB 8 rfl Try.underlying5 rfl rfl rfl) rfl ?_ | refine w_val (v_loadB 9 rfl Try.underlying5 rfl rfl rfl) rfl ?_ | refine w_val (v_loadB 10 rfl Try.underlying5 rfl rfl rfl) rfl ?_ | refine w_val (v_loadB 11 rfl Try.underlying5 rfl rfl rfl) rfl ?_
                refine w_val (v_is (v' := .int .i64 (y0.toNat : Int)) (v_conv Try.underlying3 (by rw [Try.underlying5]; rfl) rfl) (by rw [wrap_i64 (by omega) (by omega)])) rfl ?_
                refine w_val (v_build _ rfl (by intro _; simp [Instr.build, Instr.fill, Try.zeroValue61, go_sem]; rfl)) rfl ?_
                refine w_op rfl ?_
                refine x_alloc (z := .agg #[.int .i64 0, .int .i64 0, .int .i64 0, .int .i64 0, .int .i64 0]) (by intro w; exact Try.zeroValue61 w) rfl (fun b14 => ?_)
                refine w_op rfl ?_
                first | refine x_storeA 0 rfl rfl rfl Try.hi61 Try.cz61 rfl (by first | (simp [Value.oneCell', opCells]; done) | assumption | exact one_ints _ | exact one_resCells _ _) ?_ | refine x_storeA 1 rfl rfl rfl Try.hi61 Try.cz61 rfl (by first | (simp [Value.oneCell', opCells]; done) | assumption | exact one_ints _ | exact one_resCells _ _) ?_ | refine x_storeA 2 rfl rfl rfl Try.hi61 Try.cz61 rfl (by first | (simp [Value.oneCell', opCells]; done) | assumption | exact one_ints _ | exact one_resCells _ _) ?_ | refine x_storeA 3 rfl rfl rfl Try.hi61 Try.cz61 rfl (by first | (simp [Value.oneCell', opCells]; done) | assumption | exact one_ints _ | exact one_resCells _ _) ?_ | refine x_storeA 4 rfl rfl rfl Try.hi61 Try.cz61 rfl (by first | (simp [Value.oneCell', opCells]; done) | assumption | exact one_ints _ | exact one_resCells _ _) ?_ | refine x_storeA 5 rfl rfl rfl Try.hi61 Try.cz61 rfl (by first | (simp [Value.oneCell', opCells]; done) | assumption | exact one_ints _ | exact one_resCells _ _) ?_ | refine x_storeA 6 rfl rfl rfl Try.hi61 Try.cz61 rfl (by first | (simp [Value.oneCell', opCells]; done) | assumption | exact one_ints _ | exact one_resCells _ _) ?_ | refine x_storeA 7 rfl rfl rfl Try.hi61 Try.cz61 rfl (by first | (simp [Value.oneCell', opCells]; done) | assumption | exact one_ints _ | exact one_resCells _ _) ?_ | refine x_storeA 8 rfl rfl rfl Try.hi61 Try.cz61 rfl (by first | (simp [Value.oneCell', opCells]; done) | assumption | exact one_ints _ | exact one_resCells _ _) ?_ | refine x_storeA 9 rfl rfl rfl Try.hi61 Try.cz61 rfl (by first | (simp [Value.oneCell', opCells]; done) | assumption | exact one_ints _ | exact one_resCells _ _) ?_ | refine x_storeA 10 rfl rfl rfl Try.hi61 Try.cz61 rfl (by first | (simp [Value.oneCell', opCells]; done) | assumption | exact one_ints _ | exact one_resCells _ _) ?_ | refine x_storeA 11 rfl rfl rfl Try.hi61 Try.cz61 rfl (by first | (simp [Value.oneCell', opCells]; done) | assumption | exact one_ints _ | exact one_resCells _ _) ?_
                refine w_nil ?_
                refine e_seq ?_
                refine e_seq ?_
                refine e_region ?_
                first | refine w_val (v_fieldAddrB (o := 0) Try.underlying61 rfl rfl Try.nz3 rfl) rfl ?_ | refine w_val (v_fieldAddr (o := 0) Try.underlying61 rfl rfl Try.nz3 rfl) rfl ?_
                first | refine w_val (v_loadO Try.underlying3 rfl rfl (hd0)) rfl ?_ | refine w_val (v_loadO Try.underlying3 rfl rfl (hd1)) rfl ?_ | refine w_val (v_loadO Try.underlying3 rfl rfl (hd2)) rfl ?_ | refine w_val (v_loadB 0 rfl Try.underlying3 rfl rfl rfl) rfl ?_ | refine w_val (v_loadB 1 rfl Try.underlying3 rfl rfl rfl) rfl ?_ | refine w_val (v_loadB 2 rfl Try.underlying3 rfl rfl rfl) rfl ?_ | refine w_val (v_loadB 3 rfl Try.underlying3 rfl rfl rfl) rfl ?_ | refine w_val (v_loadB 4 rfl Try.underlying3 rfl rfl rfl) rfl ?_ | refine w_val (v_loadB 5 rfl Try.underlying3 rfl rfl rfl) rfl ?_ | refine w_val (v_loadB 6 rfl Try.underlying3 rfl rfl rfl) rfl ?_ | refine w_val (v_loadB 7 rfl Try.underlying3 rfl rfl rfl) rfl ?_ | refine w_val (v_loadB 8 rfl Try.underlying3 rfl rfl rfl) rfl ?_ | refine w_val (v_loadB 9 rfl Try.underlying3 rfl rfl rfl) rfl ?_ | refine w_val (v_loadB 10 rfl Try.underlying3 rfl rfl rfl) rfl ?_ | refine w_val (v_loadB 11 rfl Try.underlying3 rfl rfl rfl) rfl ?_
                refine w_val (v_neq rfl rfl) rfl ?_
                refine w_nil ?_
                refine e_condD rfl (fun hk1 => ?_) (fun hk1 => ?_)
                · have hk1' : ¬ y0 = 1 := fun h => hk1 (by rw [h]; rfl)
                  have hgo : getOp ((bs.take n).drop a2) = some (⟨y0.toNat, (y1.toNat : Int) % 16, (y1.toNat : Int) / 16, y2.toNat, 0⟩, (bs.take n).drop (a2 + 3)) := by
                    rw [hb5, hpos3]; simp [getOp, hk1']
                  refine e_seq ?_
                  refine e_draw ([.blk b6 3 [.int .i64 (a2 : Int)]]) Try.mixed ?_
                  refine a_take 0 pan_cx (by kernel_rfl) (fun _ hw => hw.sub (by repeat (first | exact List.Sublist.slnil | exact List.Sublist.refl _ | apply List.Sublist.cons_cons | apply List.Sublist.cons))) rfl (by kernel_rfl) (by kernel_rfl) (v_move rfl) rfl ?_
                  first | refine a_take 1 pan_cx (by kernel_rfl) (fun _ hw => hw.sub (by repeat (first | exact List.Sublist.slnil | exact List.Sublist.refl _ | apply List.Sublist.cons_cons | apply List.Sublist.cons))) rfl (by kernel_rfl) (by kernel_rfl) (v_loadO Try.underlying3 rfl rfl (hd0)) rfl ?_ | refine a_take 1 pan_cx (by kernel_rfl) (fun _ hw => hw.sub (by repeat (first | exact List.Sublist.slnil | exact List.Sublist.refl _ | apply List.Sublist.cons_cons | apply List.Sublist.cons))) rfl (by kernel_rfl) (by kernel_rfl) (v_loadO Try.underlying3 rfl rfl (hd1)) rfl ?_ | refine a_take 1 pan_cx (by kernel_rfl) (fun _ hw => hw.sub (by repeat (first | exact List.Sublist.slnil | exact List.Sublist.refl _ | apply List.Sublist.cons_cons | apply List.Sublist.cons))) rfl (by kernel_rfl) (by kernel_rfl) (v_loadO Try.underlying3 rfl rfl (hd2)) rfl ?_ | refine a_take 1 pan_cx (by kernel_rfl) (fun _ hw => hw.sub (by repeat (first | exact List.Sublist.slnil | exact List.Sublist.refl _ | apply List.Sublist.cons_cons | apply List.Sublist.cons))) rfl (by kernel_rfl) (by kernel_rfl) (v_loadB 0 rfl Try.underlying3 rfl rfl rfl) rfl ?_ | refine a_take 1 pan_cx (by kernel_rfl) (fun _ hw => hw.sub (by repeat (first | exact List.Sublist.slnil | exact List.Sublist.refl _ | apply List.Sublist.cons_cons | apply List.Sublist.cons))) rfl (by kernel_rfl) (by kernel_rfl) (v_loadB 1 rfl Try.underlying3 rfl rfl rfl) rfl ?_ | refine a_take 1 pan_cx (by kernel_rfl) (fun _ hw => hw.sub (by repeat (first | exact List.Sublist.slnil | exact List.Sublist.refl _ | apply List.Sublist.cons_cons | apply List.Sublist.cons))) rfl (by kernel_rfl) (by kernel_rfl) (v_loadB 2 rfl Try.underlying3 rfl rfl rfl) rfl ?_ | refine a_take 1 pan_cx (by kernel_rfl) (fun _ hw => hw.sub (by repeat (first | exact List.Sublist.slnil | exact List.Sublist.refl _ | apply List.Sublist.cons_cons | apply List.Sublist.cons))) rfl (by kernel_rfl) (by kernel_rfl) (v_loadB 3 rfl Try.underlying3 rfl rfl rfl) rfl ?_ | refine a_take 1 pan_cx (by kernel_rfl) (fun _ hw => hw.sub (by repeat (first | exact List.Sublist.slnil | exact List.Sublist.refl _ | apply List.Sublist.cons_cons | apply List.Sublist.cons))) rfl (by kernel_rfl) (by kernel_rfl) (v_loadB 4 rfl Try.underlying3 rfl rfl rfl) rfl ?_ | refine a_take 1 pan_cx (by kernel_rfl) (fun _ hw => hw.sub (by repeat (first | exact List.Sublist.slnil | exact List.Sublist.refl _ | apply List.Sublist.cons_cons | apply List.Sublist.cons))) rfl (by kernel_rfl) (by kernel_rfl) (v_loadB 5 rfl Try.underlying3 rfl rfl rfl) rfl ?_ | refine a_take 1 pan_cx (by kernel_rfl) (fun _ hw => hw.sub (by repeat (first | exact List.Sublist.slnil | exact List.Sublist.refl _ | apply List.Sublist.cons_cons | apply List.Sublist.cons))) rfl (by kernel_rfl) (by kernel_rfl) (v_loadB 6 rfl Try.underlying3 rfl rfl rfl) rfl ?_ | refine a_take 1 pan_cx (by kernel_rfl) (fun _ hw => hw.sub (by repeat (first | exact List.Sublist.slnil | exact List.Sublist.refl _ | apply List.Sublist.cons_cons | apply List.Sublist.cons))) rfl (by kernel_rfl) (by kernel_rfl) (v_loadB 7 rfl Try.underlying3 rfl rfl rfl) rfl ?_ | refine a_take 1 pan_cx (by kernel_rfl) (fun _ hw => hw.sub (by repeat (first | exact List.Sublist.slnil | exact List.Sublist.refl _ | apply List.Sublist.cons_cons | apply List.Sublist.cons))) rfl (by kernel_rfl) (by kernel_rfl) (v_loadB 8 rfl Try.underlying3 rfl rfl rfl) rfl ?_ | refine a_take 1 pan_cx (by kernel_rfl) (fun _ hw => hw.sub (by repeat (first | exact List.Sublist.slnil | exact List.Sublist.refl _ | apply List.Sublist.cons_cons | apply List.Sublist.cons))) rfl (by kernel_rfl) (by kernel_rfl) (v_loadB 9 rfl Try.underlying3 rfl rfl rfl) rfl ?_ | refine a_take 1 pan_cx (by kernel_rfl) (fun _ hw => hw.sub (by repeat (first | exact List.Sublist.slnil | exact List.Sublist.refl _ | apply List.Sublist.cons_cons | apply List.Sublist.cons))) rfl (by kernel_rfl) (by kernel_rfl) (v_loadB 10 rfl Try.underlying3 rfl rfl rfl) rfl ?_ | refine a_take 1 pan_cx (by kernel_rfl) (fun _ hw => hw.sub (by repeat (first | exact List.Sublist.slnil | exact List.Sublist.refl _ | apply List.Sublist.cons_cons | apply List.Sublist.cons))) rfl (by kernel_rfl) (by kernel_rfl) (v_loadB 11 rfl Try.underlying3 rfl rfl rfl) rfl ?_
                  first | refine a_take 2 pan_cx (by kernel_rfl) (fun _ hw => hw.sub (by repeat (first | exact List.Sublist.slnil | exact List.Sublist.refl _ | apply List.Sublist.cons_cons | apply List.Sublist.cons))) rfl (by kernel_rfl) (by kernel_rfl) (v_add rfl rfl (by omega)) rfl ?_ | refine a_take 2 pan_cx (by kernel_rfl) (fun _ hw => hw.sub (by repeat (first | exact List.Sublist.slnil | exact List.Sublist.refl _ | apply List.Sublist.cons_cons | apply List.Sublist.cons))) rfl (by kernel_rfl) (by kernel_rfl) (v_addw rfl rfl) rfl ?_
                  first | refine a_take 3 pan_cx (by kernel_rfl) (fun _ hw => hw.sub (by repeat (first | exact List.Sublist.slnil | exact List.Sublist.refl _ | apply List.Sublist.cons_cons | apply List.Sublist.cons))) rfl (by kernel_rfl) (by kernel_rfl) (v_indexSB Try.underlying23 Try.hi5 Try.cz5 rfl rfl (by first | omega | decide)) rfl ?_ | refine a_take 3 pan_cx (by kernel_rfl) (fun _ hw => hw.sub (by repeat (first | exact List.Sublist.slnil | exact List.Sublist.refl _ | apply List.Sublist.cons_cons | apply List.Sublist.cons))) rfl (by kernel_rfl) (by kernel_rfl) (v_indexS Try.underlying23 Try.hi5 Try.cz5 rfl rfl (by first | omega | decide)) rfl ?_
                  first | refine a_take 4 pan_cx (by kernel_rfl) (fun _ hw => hw.sub (by repeat (first | exact List.Sublist.slnil | exact List.Sublist.refl _ | apply List.Sublist.cons_cons | apply List.Sublist.cons))) rfl (by kernel_rfl) (by kernel_rfl) (v_loadO Try.underlying5 rfl rfl (hd0)) rfl ?_ | refine a_take 4 pan_cx (by kernel_rfl) (fun _ hw => hw.sub (by repeat (first | exact List.Sublist.slnil | exact List.Sublist.refl _ | apply List.Sublist.cons_cons | apply List.Sublist.cons))) rfl (by kernel_rfl) (by kernel_rfl) (v_loadO Try.underlying5 rfl rfl (hd1)) rfl ?_ | refine a_take 4 pan_cx (by kernel_rfl) (fun _ hw => hw.sub (by repeat (first | exact List.Sublist.slnil | exact List.Sublist.refl _ | apply List.Sublist.cons_cons | apply List.Sublist.cons))) rfl (by kernel_rfl) (by kernel_rfl) (v_loadO Try.underlying5 rfl rfl (hd2)) rfl ?_ | refine a_take 4 pan_cx (by kernel_rfl) (fun _ hw => hw.sub (by repeat (first | exact List.Sublist.slnil | exact List.Sublist.refl _ | apply List.Sublist.cons_cons | apply List.Sublist.cons))) rfl (by kernel_rfl) (by kernel_rfl) (v_loadB 0 rfl Try.underlying5 rfl rfl rfl) rfl ?_ | refine a_take 4 pan_cx (by kernel_rfl) (fun _ hw => hw.sub (by repeat (first | exact List.Sublist.slnil | exact List.Sublist.refl _ | apply List.Sublist.cons_cons | apply List.Sublist.cons))) rfl (by kernel_rfl) (by kernel_rfl) (v_loadB 1 rfl Try.underlying5 rfl rfl rfl) rfl ?_ | refine a_take 4 pan_cx (by kernel_rfl) (fun _ hw => hw.sub (by repeat (first | exact List.Sublist.slnil | exact List.Sublist.refl _ | apply List.Sublist.cons_cons | apply List.Sublist.cons))) rfl (by kernel_rfl) (by kernel_rfl) (v_loadB 2 rfl Try.underlying5 rfl rfl rfl) rfl ?_ | refine a_take 4 pan_cx (by kernel_rfl) (fun _ hw => hw.sub (by repeat (first | exact List.Sublist.slnil | exact List.Sublist.refl _ | apply List.Sublist.cons_cons | apply List.Sublist.cons))) rfl (by kernel_rfl) (by kernel_rfl) (v_loadB 3 rfl Try.underlying5 rfl rfl rfl) rfl ?_ | refine a_take 4 pan_cx (by kernel_rfl) (fun _ hw => hw.sub (by repeat (first | exact List.Sublist.slnil | exact List.Sublist.refl _ | apply List.Sublist.cons_cons | apply List.Sublist.cons))) rfl (by kernel_rfl) (by kernel_rfl) (v_loadB 4 rfl Try.underlying5 rfl rfl rfl) rfl ?_ | refine a_take 4 pan_cx (by kernel_rfl) (fun _ hw => hw.sub (by repeat (first | exact List.Sublist.slnil | exact List.Sublist.refl _ | apply List.Sublist.cons_cons | apply List.Sublist.cons))) rfl (by kernel_rfl) (by kernel_rfl) (v_loadB 5 rfl Try.underlying5 rfl rfl rfl) rfl ?_ | refine a_take 4 pan_cx (by kernel_rfl) (fun _ hw => hw.sub (by repeat (first | exact List.Sublist.slnil | exact List.Sublist.refl _ | apply List.Sublist.cons_cons | apply List.Sublist.cons))) rfl (by kernel_rfl) (by kernel_rfl) (v_loadB 6 rfl Try.underlying5 rfl rfl rfl) rfl ?_ | refine a_take 4 pan_cx (by kernel_rfl) (fun _ hw => hw.sub (by repeat (first | exact List.Sublist.slnil | exact List.Sublist.refl _ | apply List.Sublist.cons_cons | apply List.Sublist.cons))) rfl (by kernel_rfl) (by kernel_rfl) (v_loadB 7 rfl Try.underlying5 rfl rfl rfl) rfl ?_ | refine a_take 4 pan_cx (by kernel_rfl) (fun _ hw => hw.sub (by repeat (first | exact List.Sublist.slnil | exact List.Sublist.refl _ | apply List.Sublist.cons_cons | apply List.Sublist.cons))) rfl (by kernel_rfl) (by kernel_rfl) (v_loadB 8 rfl Try.underlying5 rfl rfl rfl) rfl ?_ | refine a_take 4 pan_cx (by kernel_rfl) (fun _ hw => hw.sub (by repeat (first | exact List.Sublist.slnil | exact List.Sublist.refl _ | apply List.Sublist.cons_cons | apply List.Sublist.cons))) rfl (by kernel_rfl) (by kernel_rfl) (v_loadB 9 rfl Try.underlying5 rfl rfl rfl) rfl ?_ | refine a_take 4 pan_cx (by kernel_rfl) (fun _ hw => hw.sub (by repeat (first | exact List.Sublist.slnil | exact List.Sublist.refl _ | apply List.Sublist.cons_cons | apply List.Sublist.cons))) rfl (by kernel_rfl) (by kernel_rfl) (v_loadB 10 rfl Try.underlying5 rfl rfl rfl) rfl ?_ | refine a_take 4 pan_cx (by kernel_rfl) (fun _ hw => hw.sub (by repeat (first | exact List.Sublist.slnil | exact List.Sublist.refl _ | apply List.Sublist.cons_cons | apply List.Sublist.cons))) rfl (by kernel_rfl) (by kernel_rfl) (v_loadB 11 rfl Try.underlying5 rfl rfl rfl) rfl ?_
                  refine a_take 5 pan_cx (by kernel_rfl) (fun _ hw => hw.sub (by repeat (first | exact List.Sublist.slnil | exact List.Sublist.refl _ | apply List.Sublist.cons_cons | apply List.Sublist.cons))) rfl (by kernel_rfl) (by kernel_rfl) (v_is (v' := .int .i64 (y1.toNat : Int)) (v_conv Try.underlying3 (by rw [Try.underlying5]; rfl) rfl) (by rw [wrap_i64 (by omega) (by omega)])) rfl ?_
                  refine a_take 6 pan_cx (by kernel_rfl) (fun _ hw => hw.sub (by repeat (first | exact List.Sublist.slnil | exact List.Sublist.refl _ | apply List.Sublist.cons_cons | apply List.Sublist.cons))) rfl (by kernel_rfl) (by kernel_rfl) (v_is (v' := .int .i64 ((y1.toNat : Int) % 16)) (v_rem rfl rfl (by decide)) (by rw [Int.tmod_eq_emod_of_nonneg (by omega)])) rfl ?_
                  refine a_take 7 pan_cx (by kernel_rfl) (fun _ hw => hw.sub (by repeat (first | exact List.Sublist.slnil | exact List.Sublist.refl _ | apply List.Sublist.cons_cons | apply List.Sublist.cons))) rfl (by kernel_rfl) (by kernel_rfl) (v_move rfl) rfl ?_
                  first | refine a_take 8 pan_cx (by kernel_rfl) (fun _ hw => hw.sub (by repeat (first | exact List.Sublist.slnil | exact List.Sublist.refl _ | apply List.Sublist.cons_cons | apply List.Sublist.cons))) rfl (by kernel_rfl) (by kernel_rfl) (v_loadO Try.underlying3 rfl rfl (hd0)) rfl ?_ | refine a_take 8 pan_cx (by kernel_rfl) (fun _ hw => hw.sub (by repeat (first | exact List.Sublist.slnil | exact List.Sublist.refl _ | apply List.Sublist.cons_cons | apply List.Sublist.cons))) rfl (by kernel_rfl) (by kernel_rfl) (v_loadO Try.underlying3 rfl rfl (hd1)) rfl ?_ | refine a_take 8 pan_cx (by kernel_rfl) (fun _ hw => hw.sub (by repeat (first | exact List.Sublist.slnil | exact List.Sublist.refl _ | apply List.Sublist.cons_cons | apply List.Sublist.cons))) rfl (by kernel_rfl) (by kernel_rfl) (v_loadO Try.underlying3 rfl rfl (hd2)) rfl ?_ | refine a_take 8 pan_cx (by kernel_rfl) (fun _ hw => hw.sub (by repeat (first | exact List.Sublist.slnil | exact List.Sublist.refl _ | apply List.Sublist.cons_cons | apply List.Sublist.cons))) rfl (by kernel_rfl) (by kernel_rfl) (v_loadB 0 rfl Try.underlying3 rfl rfl rfl) rfl ?_ | refine a_take 8 pan_cx (by kernel_rfl) (fun _ hw => hw.sub (by repeat (first | exact List.Sublist.slnil | exact List.Sublist.refl _ | apply List.Sublist.cons_cons | apply List.Sublist.cons))) rfl (by kernel_rfl) (by kernel_rfl) (v_loadB 1 rfl Try.underlying3 rfl rfl rfl) rfl ?_ | refine a_take 8 pan_cx (by kernel_rfl) (fun _ hw => hw.sub (by repeat (first | exact List.Sublist.slnil | exact List.Sublist.refl _ | apply List.Sublist.cons_cons | apply List.Sublist.cons))) rfl (by kernel_rfl) (by kernel_rfl) (v_loadB 2 rfl Try.underlying3 rfl rfl rfl) rfl ?_ | refine a_take 8 pan_cx (by kernel_rfl) (fun _ hw => hw.sub (by repeat (first | exact List.Sublist.slnil | exact List.Sublist.refl _ | apply List.Sublist.cons_cons | apply List.Sublist.cons))) rfl (by kernel_rfl) (by kernel_rfl) (v_loadB 3 rfl Try.underlying3 rfl rfl rfl) rfl ?_ | refine a_take 8 pan_cx (by kernel_rfl) (fun _ hw => hw.sub (by repeat (first | exact List.Sublist.slnil | exact List.Sublist.refl _ | apply List.Sublist.cons_cons | apply List.Sublist.cons))) rfl (by kernel_rfl) (by kernel_rfl) (v_loadB 4 rfl Try.underlying3 rfl rfl rfl) rfl ?_ | refine a_take 8 pan_cx (by kernel_rfl) (fun _ hw => hw.sub (by repeat (first | exact List.Sublist.slnil | exact List.Sublist.refl _ | apply List.Sublist.cons_cons | apply List.Sublist.cons))) rfl (by kernel_rfl) (by kernel_rfl) (v_loadB 5 rfl Try.underlying3 rfl rfl rfl) rfl ?_ | refine a_take 8 pan_cx (by kernel_rfl) (fun _ hw => hw.sub (by repeat (first | exact List.Sublist.slnil | exact List.Sublist.refl _ | apply List.Sublist.cons_cons | apply List.Sublist.cons))) rfl (by kernel_rfl) (by kernel_rfl) (v_loadB 6 rfl Try.underlying3 rfl rfl rfl) rfl ?_ | refine a_take 8 pan_cx (by kernel_rfl) (fun _ hw => hw.sub (by repeat (first | exact List.Sublist.slnil | exact List.Sublist.refl _ | apply List.Sublist.cons_cons | apply List.Sublist.cons))) rfl (by kernel_rfl) (by kernel_rfl) (v_loadB 7 rfl Try.underlying3 rfl rfl rfl) rfl ?_ | refine a_take 8 pan_cx (by kernel_rfl) (fun _ hw => hw.sub (by repeat (first | exact List.Sublist.slnil | exact List.Sublist.refl _ | apply List.Sublist.cons_cons | apply List.Sublist.cons))) rfl (by kernel_rfl) (by kernel_rfl) (v_loadB 8 rfl Try.underlying3 rfl rfl rfl) rfl ?_ | refine a_take 8 pan_cx (by kernel_rfl) (fun _ hw => hw.sub (by repeat (first | exact List.Sublist.slnil | exact List.Sublist.refl _ | apply List.Sublist.cons_cons | apply List.Sublist.cons))) rfl (by kernel_rfl) (by kernel_rfl) (v_loadB 9 rfl Try.underlying3 rfl rfl rfl) rfl ?_ | refine a_take 8 pan_cx (by kernel_rfl) (fun _ hw => hw.sub (by repeat (first | exact List.Sublist.slnil | exact List.Sublist.refl _ | apply List.Sublist.cons_cons | apply List.Sublist.cons))) rfl (by kernel_rfl) (by kernel_rfl) (v_loadB 10 rfl Try.underlying3 rfl rfl rfl) rfl ?_ | refine a_take 8 pan_cx (by kernel_rfl) (fun _ hw => hw.sub (by repeat (first | exact List.Sublist.slnil | exact List.Sublist.refl _ | apply List.Sublist.cons_cons | apply List.Sublist.cons))) rfl (by kernel_rfl) (by kernel_rfl) (v_loadB 11 rfl Try.underlying3 rfl rfl rfl) rfl ?_
                  first | refine a_take 9 pan_cx (by kernel_rfl) (fun _ hw => hw.sub (by repeat (first | exact List.Sublist.slnil | exact List.Sublist.refl _ | apply List.Sublist.cons_cons | apply List.Sublist.cons))) rfl (by kernel_rfl) (by kernel_rfl) (v_add rfl rfl (by omega)) rfl ?_ | refine a_take 9 pan_cx (by kernel_rfl) (fun _ hw => hw.sub (by repeat (first | exact List.Sublist.slnil | exact List.Sublist.refl _ | apply List.Sublist.cons_cons | apply List.Sublist.cons))) rfl (by kernel_rfl) (by kernel_rfl) (v_addw rfl rfl) rfl ?_
                  first | refine a_take 10 pan_cx (by kernel_rfl) (fun _ hw => hw.sub (by repeat (first | exact List.Sublist.slnil | exact List.Sublist.refl _ | apply List.Sublist.cons_cons | apply List.Sublist.cons))) rfl (by kernel_rfl) (by kernel_rfl) (v_indexSB Try.underlying23 Try.hi5 Try.cz5 rfl rfl (by first | omega | decide)) rfl ?_ | refine a_take 10 pan_cx (by kernel_rfl) (fun _ hw => hw.sub (by repeat (first | exact List.Sublist.slnil | exact List.Sublist.refl _ | apply List.Sublist.cons_cons | apply List.Sublist.cons))) rfl (by kernel_rfl) (by kernel_rfl) (v_indexS Try.underlying23 Try.hi5 Try.cz5 rfl rfl (by first | omega | decide)) rfl ?_
                  first | refine a_take 11 pan_cx (by kernel_rfl) (fun _ hw => hw.sub (by repeat (first | exact List.Sublist.slnil | exact List.Sublist.refl _ | apply List.Sublist.cons_cons | apply List.Sublist.cons))) rfl (by kernel_rfl) (by kernel_rfl) (v_loadO Try.underlying5 rfl rfl (hd0)) rfl ?_ | refine a_take 11 pan_cx (by kernel_rfl) (fun _ hw => hw.sub (by repeat (first | exact List.Sublist.slnil | exact List.Sublist.refl _ | apply List.Sublist.cons_cons | apply List.Sublist.cons))) rfl (by kernel_rfl) (by kernel_rfl) (v_loadO Try.underlying5 rfl rfl (hd1)) rfl ?_ | refine a_take 11 pan_cx (by kernel_rfl) (fun _ hw => hw.sub (by repeat (first | exact List.Sublist.slnil | exact List.Sublist.refl _ | apply List.Sublist.cons_cons | apply List.Sublist.cons))) rfl (by kernel_rfl) (by kernel_rfl) (v_loadO Try.underlying5 rfl rfl (hd2)) rfl ?_ | refine a_take 11 pan_cx (by kernel_rfl) (fun _ hw => hw.sub (by repeat (first | exact List.Sublist.slnil | exact List.Sublist.refl _ | apply List.Sublist.cons_cons | apply List.Sublist.cons))) rfl (by kernel_rfl) (by kernel_rfl) (v_loadB 0 rfl Try.underlying5 rfl rfl rfl) rfl ?_ | refine a_take 11 pan_cx (by kernel_rfl) (fun _ hw => hw.sub (by repeat (first | exact List.Sublist.slnil | exact List.Sublist.refl _ | apply List.Sublist.cons_cons | apply List.Sublist.cons))) rfl (by kernel_rfl) (by kernel_rfl) (v_loadB 1 rfl Try.underlying5 rfl rfl rfl) rfl ?_ | refine a_take 11 pan_cx (by kernel_rfl) (fun _ hw => hw.sub (by repeat (first | exact List.Sublist.slnil | exact List.Sublist.refl _ | apply List.Sublist.cons_cons | apply List.Sublist.cons))) rfl (by kernel_rfl) (by kernel_rfl) (v_loadB 2 rfl Try.underlying5 rfl rfl rfl) rfl ?_ | refine a_take 11 pan_cx (by kernel_rfl) (fun _ hw => hw.sub (by repeat (first | exact List.Sublist.slnil | exact List.Sublist.refl _ | apply List.Sublist.cons_cons | apply List.Sublist.cons))) rfl (by kernel_rfl) (by kernel_rfl) (v_loadB 3 rfl Try.underlying5 rfl rfl rfl) rfl ?_ | refine a_take 11 pan_cx (by kernel_rfl) (fun _ hw => hw.sub (by repeat (first | exact List.Sublist.slnil | exact List.Sublist.refl _ | apply List.Sublist.cons_cons | apply List.Sublist.cons))) rfl (by kernel_rfl) (by kernel_rfl) (v_loadB 4 rfl Try.underlying5 rfl rfl rfl) rfl ?_ | refine a_take 11 pan_cx (by kernel_rfl) (fun _ hw => hw.sub (by repeat (first | exact List.Sublist.slnil | exact List.Sublist.refl _ | apply List.Sublist.cons_cons | apply List.Sublist.cons))) rfl (by kernel_rfl) (by kernel_rfl) (v_loadB 5 rfl Try.underlying5 rfl rfl rfl) rfl ?_ | refine a_take 11 pan_cx (by kernel_rfl) (fun _ hw => hw.sub (by repeat (first | exact List.Sublist.slnil | exact List.Sublist.refl _ | apply List.Sublist.cons_cons | apply List.Sublist.cons))) rfl (by kernel_rfl) (by kernel_rfl) (v_loadB 6 rfl Try.underlying5 rfl rfl rfl) rfl ?_ | refine a_take 11 pan_cx (by kernel_rfl) (fun _ hw => hw.sub (by repeat (first | exact List.Sublist.slnil | exact List.Sublist.refl _ | apply List.Sublist.cons_cons | apply List.Sublist.cons))) rfl (by kernel_rfl) (by kernel_rfl) (v_loadB 7 rfl Try.underlying5 rfl rfl rfl) rfl ?_ | refine a_take 11 pan_cx (by kernel_rfl) (fun _ hw => hw.sub (by repeat (first | exact List.Sublist.slnil | exact List.Sublist.refl _ | apply List.Sublist.cons_cons | apply List.Sublist.cons))) rfl (by kernel_rfl) (by kernel_rfl) (v_loadB 8 rfl Try.underlying5 rfl rfl rfl) rfl ?_ | refine a_take 11 pan_cx (by kernel_rfl) (fun _ hw => hw.sub (by repeat (first | exact List.Sublist.slnil | exact List.Sublist.refl _ | apply List.Sublist.cons_cons | apply List.Sublist.cons))) rfl (by kernel_rfl) (by kernel_rfl) (v_loadB 9 rfl Try.underlying5 rfl rfl rfl) rfl ?_ | refine a_take 11 pan_cx (by kernel_rfl) (fun _ hw => hw.sub (by repeat (first | exact List.Sublist.slnil | exact List.Sublist.refl _ | apply List.Sublist.cons_cons | apply List.Sublist.cons))) rfl (by kernel_rfl) (by kernel_rfl) (v_loadB 10 rfl Try.underlying5 rfl rfl rfl) rfl ?_ | refine a_take 11 pan_cx (by kernel_rfl) (fun _ hw => hw.sub (by repeat (first | exact List.Sublist.slnil | exact List.Sublist.refl _ | apply List.Sublist.cons_cons | apply List.Sublist.cons))) rfl (by kernel_rfl) (by kernel_rfl) (v_loadB 11 rfl Try.underlying5 rfl rfl rfl) rfl ?_
                  refine a_take 12 pan_cx (by kernel_rfl) (fun _ hw => hw.sub (by repeat (first | exact List.Sublist.slnil | exact List.Sublist.refl _ | apply List.Sublist.cons_cons | apply List.Sublist.cons))) rfl (by kernel_rfl) (by kernel_rfl) (v_is (v' := .int .i64 (y1.toNat : Int)) (v_conv Try.underlying3 (by rw [Try.underlying5]; rfl) rfl) (by rw [wrap_i64 (by omega) (by omega)])) rfl ?_
                  refine a_take 13 pan_cx (by kernel_rfl) (fun _ hw => hw.sub (by repeat (first | exact List.Sublist.slnil | exact List.Sublist.refl _ | apply List.Sublist.cons_cons | apply List.Sublist.cons))) rfl (by kernel_rfl) (by kernel_rfl) (v_is (v' := .int .i64 ((y1.toNat : Int) / 16)) (v_quo rfl rfl (by decide)) (by rw [Int.tdiv_eq_ediv_of_nonneg (by omega), wrap_i64 (by omega) (by omega)])) rfl ?_
                  refine a_take 14 pan_cx (by kernel_rfl) (fun _ hw => hw.sub (by repeat (first | exact List.Sublist.slnil | exact List.Sublist.refl _ | apply List.Sublist.cons_cons | apply List.Sublist.cons))) rfl (by kernel_rfl) (by kernel_rfl) (v_move rfl) rfl ?_
                  first | refine a_take 15 pan_cx (by kernel_rfl) (fun _ hw => hw.sub (by repeat (first | exact List.Sublist.slnil | exact List.Sublist.refl _ | apply List.Sublist.cons_cons | apply List.Sublist.cons))) rfl (by kernel_rfl) (by kernel_rfl) (v_loadO Try.underlying3 rfl rfl (hd0)) rfl ?_ | refine a_take 15 pan_cx (by kernel_rfl) (fun _ hw => hw.sub (by repeat (first | exact List.Sublist.slnil | exact List.Sublist.refl _ | apply List.Sublist.cons_cons | apply List.Sublist.cons))) rfl (by kernel_rfl) (by kernel_rfl) (v_loadO Try.underlying3 rfl rfl (hd1)) rfl ?_ | refine a_take 15 pan_cx (by kernel_rfl) (fun _ hw => hw.sub (by repeat (first | exact List.Sublist.slnil | exact List.Sublist.refl _ | apply List.Sublist.cons_cons | apply List.Sublist.cons))) rfl (by kernel_rfl) (by kernel_rfl) (v_loadO Try.underlying3 rfl rfl (hd2)) rfl ?_ | refine a_take 15 pan_cx (by kernel_rfl) (fun _ hw => hw.sub (by repeat (first | exact List.Sublist.slnil | exact List.Sublist.refl _ | apply List.Sublist.cons_cons | apply List.Sublist.cons))) rfl (by kernel_rfl) (by kernel_rfl) (v_loadB 0 rfl Try.underlying3 rfl rfl rfl) rfl ?_ | refine a_take 15 pan_cx (by kernel_rfl) (fun _ hw => hw.sub (by repeat (first | exact List.Sublist.slnil | exact List.Sublist.refl _ | apply List.Sublist.cons_cons | apply List.Sublist.cons))) rfl (by kernel_rfl) (by kernel_rfl) (v_loadB 1 rfl Try.underlying3 rfl rfl rfl) rfl ?_ | refine a_take 15 pan_cx (by kernel_rfl) (fun _ hw => hw.sub (by repeat (first | exact List.Sublist.slnil | exact List.Sublist.refl _ | apply List.Sublist.cons_cons | apply List.Sublist.cons))) rfl (by kernel_rfl) (by kernel_rfl) (v_loadB 2 rfl Try.underlying3 rfl rfl rfl) rfl ?_ | refine a_take 15 pan_cx (by kernel_rfl) (fun _ hw => hw.sub (by repeat (first | exact List.Sublist.slnil | exact List.Sublist.refl _ | apply List.Sublist.cons_cons | apply List.Sublist.cons))) rfl (by kernel_rfl) (by kernel_rfl) (v_loadB 3 rfl Try.underlying3 rfl rfl rfl) rfl ?_ | refine a_take 15 pan_cx (by kernel_rfl) (fun _ hw => hw.sub (by repeat (first | exact List.Sublist.slnil | exact List.Sublist.refl _ | apply List.Sublist.cons_cons | apply List.Sublist.cons))) rfl (by kernel_rfl) (by kernel_rfl) (v_loadB 4 rfl Try.underlying3 rfl rfl rfl) rfl ?_ | refine a_take 15 pan_cx (by kernel_rfl) (fun _ hw => hw.sub (by repeat (first | exact List.Sublist.slnil | exact List.Sublist.refl _ | apply List.Sublist.cons_cons | apply List.Sublist.cons))) rfl (by kernel_rfl) (by kernel_rfl) (v_loadB 5 rfl Try.underlying3 rfl rfl rfl) rfl ?_ | refine a_take 15 pan_cx (by kernel_rfl) (fun _ hw => hw.sub (by repeat (first | exact List.Sublist.slnil | exact List.Sublist.refl _ | apply List.Sublist.cons_cons | apply List.Sublist.cons))) rfl (by kernel_rfl) (by kernel_rfl) (v_loadB 6 rfl Try.underlying3 rfl rfl rfl) rfl ?_ | refine a_take 15 pan_cx (by kernel_rfl) (fun _ hw => hw.sub (by repeat (first | exact List.Sublist.slnil | exact List.Sublist.refl _ | apply List.Sublist.cons_cons | apply List.Sublist.cons))) rfl (by kernel_rfl) (by kernel_rfl) (v_loadB 7 rfl Try.underlying3 rfl rfl rfl) rfl ?_ | refine a_take 15 pan_cx (by kernel_rfl) (fun _ hw => hw.sub (by repeat (first | exact List.Sublist.slnil | exact List.Sublist.refl _ | apply List.Sublist.cons_cons | apply List.Sublist.cons))) rfl (by kernel_rfl) (by kernel_rfl) (v_loadB 8 rfl Try.underlying3 rfl rfl rfl) rfl ?_ | refine a_take 15 pan_cx (by kernel_rfl) (fun _ hw => hw.sub (by repeat (first | exact List.Sublist.slnil | exact List.Sublist.refl _ | apply List.Sublist.cons_cons | apply List.Sublist.cons))) rfl (by kernel_rfl) (by kernel_rfl) (v_loadB 9 rfl Try.underlying3 rfl rfl rfl) rfl ?_ | refine a_take 15 pan_cx (by kernel_rfl) (fun _ hw => hw.sub (by repeat (first | exact List.Sublist.slnil | exact List.Sublist.refl _ | apply List.Sublist.cons_cons | apply List.Sublist.cons))) rfl (by kernel_rfl) (by kernel_rfl) (v_loadB 10 rfl Try.underlying3 rfl rfl rfl) rfl ?_ | refine a_take 15 pan_cx (by kernel_rfl) (fun _ hw => hw.sub (by repeat (first | exact List.Sublist.slnil | exact List.Sublist.refl _ | apply List.Sublist.cons_cons | apply List.Sublist.cons))) rfl (by kernel_rfl) (by kernel_rfl) (v_loadB 11 rfl Try.underlying3 rfl rfl rfl) rfl ?_
                  first | refine a_take 16 pan_cx (by kernel_rfl) (fun _ hw => hw.sub (by repeat (first | exact List.Sublist.slnil | exact List.Sublist.refl _ | apply List.Sublist.cons_cons | apply List.Sublist.cons))) rfl (by kernel_rfl) (by kernel_rfl) (v_add rfl rfl (by omega)) rfl ?_ | refine a_take 16 pan_cx (by kernel_rfl) (fun _ hw => hw.sub (by repeat (first | exact List.Sublist.slnil | exact List.Sublist.refl _ | apply List.Sublist.cons_cons | apply List.Sublist.cons))) rfl (by kernel_rfl) (by kernel_rfl) (v_addw rfl rfl) rfl ?_
                  first | refine a_take 17 pan_cx (by kernel_rfl) (fun _ hw => hw.sub (by repeat (first | exact List.Sublist.slnil | exact List.Sublist.refl _ | apply List.Sublist.cons_cons | apply List.Sublist.cons))) rfl (by kernel_rfl) (by kernel_rfl) (v_indexSB Try.underlying23 Try.hi5 Try.cz5 rfl rfl (by first | omega | decide)) rfl ?_ | refine a_take 17 pan_cx (by kernel_rfl) (fun _ hw => hw.sub (by repeat (first | exact List.Sublist.slnil | exact List.Sublist.refl _ | apply List.Sublist.cons_cons | apply List.Sublist.cons))) rfl (by kernel_rfl) (by kernel_rfl) (v_indexS Try.underlying23 Try.hi5 Try.cz5 rfl rfl (by first | omega | decide)) rfl ?_
                  first | refine a_take 18 pan_cx (by kernel_rfl) (fun _ hw => hw.sub (by repeat (first | exact List.Sublist.slnil | exact List.Sublist.refl _ | apply List.Sublist.cons_cons | apply List.Sublist.cons))) rfl (by kernel_rfl) (by kernel_rfl) (v_loadO Try.underlying5 rfl rfl (hd0)) rfl ?_ | refine a_take 18 pan_cx (by kernel_rfl) (fun _ hw => hw.sub (by repeat (first | exact List.Sublist.slnil | exact List.Sublist.refl _ | apply List.Sublist.cons_cons | apply List.Sublist.cons))) rfl (by kernel_rfl) (by kernel_rfl) (v_loadO Try.underlying5 rfl rfl (hd1)) rfl ?_ | refine a_take 18 pan_cx (by kernel_rfl) (fun _ hw => hw.sub (by repeat (first | exact List.Sublist.slnil | exact List.Sublist.refl _ | apply List.Sublist.cons_cons | apply List.Sublist.cons))) rfl (by kernel_rfl) (by kernel_rfl) (v_loadO Try.underlying5 rfl rfl (hd2)) rfl ?_ | refine a_take 18 pan_cx (by kernel_rfl) (fun _ hw => hw.sub (by repeat (first | exact List.Sublist.slnil | exact List.Sublist.refl _ | apply List.Sublist.cons_cons | apply List.Sublist.cons))) rfl (by kernel_rfl) (by kernel_rfl) (v_loadB 0 rfl Try.underlying5 rfl rfl rfl) rfl ?_ | refine a_take 18 pan_cx (by kernel_rfl) (fun _ hw => hw.sub (by repeat (first | exact List.Sublist.slnil | exact List.Sublist.refl _ | apply List.Sublist.cons_cons | apply List.Sublist.cons))) rfl (by kernel_rfl) (by kernel_rfl) (v_loadB 1 rfl Try.underlying5 rfl rfl rfl) rfl ?_ | refine a_take 18 pan_cx (by kernel_rfl) (fun _ hw => hw.sub (by repeat (first | exact List.Sublist.slnil | exact List.Sublist.refl _ | apply List.Sublist.cons_cons | apply List.Sublist.cons))) rfl (by kernel_rfl) (by kernel_rfl) (v_loadB 2 rfl Try.underlying5 rfl rfl rfl) rfl ?_ | refine a_take 18 pan_cx (by kernel_rfl) (fun _ hw => hw.sub (by repeat (first | exact List.Sublist.slnil | exact List.Sublist.refl _ | apply List.Sublist.cons_cons | apply List.Sublist.cons))) rfl (by kernel_rfl) (by kernel_rfl) (v_loadB 3 rfl Try.underlying5 rfl rfl rfl) rfl ?_ | refine a_take 18 pan_cx (by kernel_rfl) (fun _ hw => hw.sub (by repeat (first | exact List.Sublist.slnil | exact List.Sublist.refl _ | apply List.Sublist.cons_cons | apply List.Sublist.cons))) rfl (by kernel_rfl) (by kernel_rfl) (v_loadB 4 rfl Try.underlying5 rfl rfl rfl) rfl ?_ | refine a_take 18 pan_cx (by kernel_rfl) (fun _ hw => hw.sub (by repeat (first | exact List.Sublist.slnil | exact List.Sublist.refl _ | apply List.Sublist.cons_cons | apply List.Sublist.cons))) rfl (by kernel_rfl) (by kernel_rfl) (v_loadB 5 rfl Try.underlying5 rfl rfl rfl) rfl ?_ | refine a_take 18 pan_cx (by kernel_rfl) (fun _ hw => hw.sub (by repeat (first | exact List.Sublist.slnil | exact List.Sublist.refl _ | apply List.Sublist.cons_cons | apply List.Sublist.cons))) rfl (by kernel_rfl) (by kernel_rfl) (v_loadB 6 rfl Try.underlying5 rfl rfl rfl) rfl ?_ | refine a_take 18 pan_cx (by kernel_rfl) (fun _ hw => hw.sub (by repeat (first | exact List.Sublist.slnil | exact List.Sublist.refl _ | apply List.Sublist.cons_cons | apply List.Sublist.cons))) rfl (by kernel_rfl) (by kernel_rfl) (v_loadB 7 rfl Try.underlying5 rfl rfl rfl) rfl ?_ | refine a_take 18 pan_cx (by kernel_rfl) (fun _ hw => hw.sub (by repeat (first | exact List.Sublist.slnil | exact List.Sublist.refl _ | apply List.Sublist.cons_cons | apply List.Sublist.cons))) rfl (by kernel_rfl) (by kernel_rfl) (v_loadB 8 rfl Try.underlying5 rfl rfl rfl) rfl ?_ | refine a_take 18 pan_cx (by kernel_rfl) (fun _ hw => hw.sub (by repeat (first | exact List.Sublist.slnil | exact List.Sublist.refl _ | apply List.Sublist.cons_cons | apply List.Sublist.cons))) rfl (by kernel_rfl) (by kernel_rfl) (v_loadB 9 rfl Try.underlying5 rfl rfl rfl) rfl ?_ | refine a_take 18 pan_cx (by kernel_rfl) (fun _ hw => hw.sub (by repeat (first | exact List.Sublist.slnil | exact List.Sublist.refl _ | apply List.Sublist.cons_cons | apply List.Sublist.cons))) rfl (by kernel_rfl) (by kernel_rfl) (v_loadB 10 rfl Try.underlying5 rfl rfl rfl) rfl ?_ | refine a_take 18 pan_cx (by kernel_rfl) (fun _ hw => hw.sub (by repeat (first | exact List.Sublist.slnil | exact List.Sublist.refl _ | apply List.Sublist.cons_cons | apply List.Sublist.cons))) rfl (by kernel_rfl) (by kernel_rfl) (v_loadB 11 rfl Try.underlying5 rfl rfl rfl) rfl ?_
                  refine a_take 19 pan_cx (by kernel_rfl) (fun _ hw => hw.sub (by repeat (first | exact List.Sublist.slnil | exact List.Sublist.refl _ | apply List.Sublist.cons_cons | apply List.Sublist.cons))) rfl (by kernel_rfl) (by kernel_rfl) (v_is (v' := .int .i64 (y2.toNat : Int)) (v_conv Try.underlying3 (by rw [Try.underlying5]; rfl) rfl) (by rw [wrap_i64 (by omega) (by omega)])) rfl ?_
                  first | refine a_take 20 pan_cx (by kernel_rfl) (fun _ hw => hw.sub (by repeat (first | exact List.Sublist.slnil | exact List.Sublist.refl _ | apply List.Sublist.cons_cons | apply List.Sublist.cons))) rfl (by kernel_rfl) (by kernel_rfl) (v_fieldAddrB (o := 1) Try.underlying61 rfl rfl Try.nz3 rfl) rfl ?_ | refine a_take 20 pan_cx (by kernel_rfl) (fun _ hw => hw.sub (by repeat (first | exact List.Sublist.slnil | exact List.Sublist.refl _ | apply List.Sublist.cons_cons | apply List.Sublist.cons))) rfl (by kernel_rfl) (by kernel_rfl) (v_fieldAddr (o := 1) Try.underlying61 rfl rfl Try.nz3 rfl) rfl ?_
                  refine a_one 21 (by kernel_rfl) rfl rfl ?_
                  first | refine x_store1 0 rfl rfl rfl Try.hi3 Try.cz3 rfl (by first | (simp; done) | (simp [intCells_len]; omega) | exact Nat.zero_lt_succ _) rfl ?_ | refine x_store1 1 rfl rfl rfl Try.hi3 Try.cz3 rfl (by first | (simp; done) | (simp [intCells_len]; omega) | exact Nat.zero_lt_succ _) rfl ?_ | refine x_store1 2 rfl rfl rfl Try.hi3 Try.cz3 rfl (by first | (simp; done) | (simp [intCells_len]; omega) | exact Nat.zero_lt_succ _) rfl ?_ | refine x_store1 3 rfl rfl rfl Try.hi3 Try.cz3 rfl (by first | (simp; done) | (simp [intCells_len]; omega) | exact Nat.zero_lt_succ _) rfl ?_ | refine x_store1 4 rfl rfl rfl Try.hi3 Try.cz3 rfl (by first | (simp; done) | (simp [intCells_len]; omega) | exact Nat.zero_lt_succ _) rfl ?_ | refine x_store1 5 rfl rfl rfl Try.hi3 Try.cz3 rfl (by first | (simp; done) | (simp [intCells_len]; omega) | exact Nat.zero_lt_succ _) rfl ?_ | refine x_store1 6 rfl rfl rfl Try.hi3 Try.cz3 rfl (by first | (simp; done) | (simp [intCells_len]; omega) | exact Nat.zero_lt_succ _) rfl ?_ | refine x_store1 7 rfl rfl rfl Try.hi3 Try.cz3 rfl (by first | (simp; done) | (simp [intCells_len]; omega) | exact Nat.zero_lt_succ _) rfl ?_ | refine x_store1 8 rfl rfl rfl Try.hi3 Try.cz3 rfl (by first | (simp; done) | (simp [intCells_len]; omega) | exact Nat.zero_lt_succ _) rfl ?_ | refine x_store1 9 rfl rfl rfl Try.hi3 Try.cz3 rfl (by first | (simp; done) | (simp [intCells_len]; omega) | exact Nat.zero_lt_succ _) rfl ?_ | refine x_store1 10 rfl rfl rfl Try.hi3 Try.cz3 rfl (by first | (simp; done) | (simp [intCells_len]; omega) | exact Nat.zero_lt_succ _) rfl ?_ | refine x_store1 11 rfl rfl rfl Try.hi3 Try.cz3 rfl (by first | (simp; done) | (simp [intCells_len]; omega) | exact Nat.zero_lt_succ _) rfl ?_
                  refine a_and (fun _ hw => hw.sub (by repeat (first | exact List.Sublist.slnil | exact List.Sublist.refl _ | apply List.Sublist.cons_cons | apply List.Sublist.cons))) ?_
                  first | refine a_take 22 pan_cx (by kernel_rfl) (fun _ hw => hw.sub (by repeat (first | exact List.Sublist.slnil | exact List.Sublist.refl _ | apply List.Sublist.cons_cons | apply List.Sublist.cons))) rfl (by kernel_rfl) (by kernel_rfl) (v_fieldAddrB (o := 2) Try.underlying61 rfl rfl Try.nz3 rfl) rfl ?_ | refine a_take 22 pan_cx (by kernel_rfl) (fun _ hw => hw.sub (by repeat (first | exact List.Sublist.slnil | exact List.Sublist.refl _ | apply List.Sublist.cons_cons | apply List.Sublist.cons))) rfl (by kernel_rfl) (by kernel_rfl) (v_fieldAddr (o := 2) Try.underlying61 rfl rfl Try.nz3 rfl) rfl ?_
                  refine a_one 23 (by kernel_rfl) rfl rfl ?_
                  first | refine x_store1 0 rfl rfl rfl Try.hi3 Try.cz3 rfl (by first | (simp; done) | (simp [intCells_len]; omega) | exact Nat.zero_lt_succ _) rfl ?_ | refine x_store1 1 rfl rfl rfl Try.hi3 Try.cz3 rfl (by first | (simp; done) | (simp [intCells_len]; omega) | exact Nat.zero_lt_succ _) rfl ?_ | refine x_store1 2 rfl rfl rfl Try.hi3 Try.cz3 rfl (by first | (simp; done) | (simp [intCells_len]; omega) | exact Nat.zero_lt_succ _) rfl ?_ | refine x_store1 3 rfl rfl rfl Try.hi3 Try.cz3 rfl (by first | (simp; done) | (simp [intCells_len]; omega) | exact Nat.zero_lt_succ _) rfl ?_ | refine x_store1 4 rfl rfl rfl Try.hi3 Try.cz3 rfl (by first | (simp; done) | (simp [intCells_len]; omega) | exact Nat.zero_lt_succ _) rfl ?_ | refine x_store1 5 rfl rfl rfl Try.hi3 Try.cz3 rfl (by first | (simp; done) | (simp [intCells_len]; omega) | exact Nat.zero_lt_succ _) rfl ?_ | refine x_store1 6 rfl rfl rfl Try.hi3 Try.cz3 rfl (by first | (simp; done) | (simp [intCells_len]; omega) | exact Nat.zero_lt_succ _) rfl ?_ | refine x_store1 7 rfl rfl rfl Try.hi3 Try.cz3 rfl (by first | (simp; done) | (simp [intCells_len]; omega) | exact Nat.zero_lt_succ _) rfl ?_ | refine x_store1 8 rfl rfl rfl Try.hi3 Try.cz3 rfl (by first | (simp; done) | (simp [intCells_len]; omega) | exact Nat.zero_lt_succ _) rfl ?_ | refine x_store1 9 rfl rfl rfl Try.hi3 Try.cz3 rfl (by first | (simp; done) | (simp [intCells_len]; omega) | exact Nat.zero_lt_succ _) rfl ?_ | refine x_store1 10 rfl rfl rfl Try.hi3 Try.cz3 rfl (by first | (simp; done) | (simp [intCells_len]; omega) | exact Nat.zero_lt_succ _) rfl ?_ | refine x_store1 11 rfl rfl rfl Try.hi3 Try.cz3 rfl (by first | (simp; done) | (simp [intCells_len]; omega) | exact Nat.zero_lt_succ _) rfl ?_
                  refine a_and (fun _ hw => hw.sub (by repeat (first | exact List.Sublist.slnil | exact List.Sublist.refl _ | apply List.Sublist.cons_cons | apply List.Sublist.cons))) ?_
                  first | refine a_take 24 pan_cx (by kernel_rfl) (fun _ hw => hw.sub (by repeat (first | exact List.Sublist.slnil | exact List.Sublist.refl _ | apply List.Sublist.cons_cons | apply List.Sublist.cons))) rfl (by kernel_rfl) (by kernel_rfl) (v_fieldAddrB (o := 3) Try.underlying61 rfl rfl Try.nz3 rfl) rfl ?_ | refine a_take 24 pan_cx (by kernel_rfl) (fun _ hw => hw.sub (by repeat (first | exact List.Sublist.slnil | exact List.Sublist.refl _ | apply List.Sublist.cons_cons | apply List.Sublist.cons))) rfl (by kernel_rfl) (by kernel_rfl) (v_fieldAddr (o := 3) Try.underlying61 rfl rfl Try.nz3 rfl) rfl ?_
                  refine a_one 25 (by kernel_rfl) rfl rfl ?_
                  first | refine x_store1 0 rfl rfl rfl Try.hi3 Try.cz3 rfl (by first | (simp; done) | (simp [intCells_len]; omega) | exact Nat.zero_lt_succ _) rfl ?_ | refine x_store1 1 rfl rfl rfl Try.hi3 Try.cz3 rfl (by first | (simp; done) | (simp [intCells_len]; omega) | exact Nat.zero_lt_succ _) rfl ?_ | refine x_store1 2 rfl rfl rfl Try.hi3 Try.cz3 rfl (by first | (simp; done) | (simp [intCells_len]; omega) | exact Nat.zero_lt_succ _) rfl ?_ | refine x_store1 3 rfl rfl rfl Try.hi3 Try.cz3 rfl (by first | (simp; done) | (simp [intCells_len]; omega) | exact Nat.zero_lt_succ _) rfl ?_ | refine x_store1 4 rfl rfl rfl Try.hi3 Try.cz3 rfl (by first | (simp; done) | (simp [intCells_len]; omega) | exact Nat.zero_lt_succ _) rfl ?_ | refine x_store1 5 rfl rfl rfl Try.hi3 Try.cz3 rfl (by first | (simp; done) | (simp [intCells_len]; omega) | exact Nat.zero_lt_succ _) rfl ?_ | refine x_store1 6 rfl rfl rfl Try.hi3 Try.cz3 rfl (by first | (simp; done) | (simp [intCells_len]; omega) | exact Nat.zero_lt_succ _) rfl ?_ | refine x_store1 7 rfl rfl rfl Try.hi3 Try.cz3 rfl (by first | (simp; done) | (simp [intCells_len]; omega) | exact Nat.zero_lt_succ _) rfl ?_ | refine x_store1 8 rfl rfl rfl Try.hi3 Try.cz3 rfl (by first | (simp; done) | (simp [intCells_len]; omega) | exact Nat.zero_lt_succ _) rfl ?_ | refine x_store1 9 rfl rfl rfl Try.hi3 Try.cz3 rfl (by first | (simp; done) | (simp [intCells_len]; omega) | exact Nat.zero_lt_succ _) rfl ?_ | refine x_store1 10 rfl rfl rfl Try.hi3 Try.cz3 rfl (by first | (simp; done) | (simp [intCells_len]; omega) | exact Nat.zero_lt_succ _) rfl ?_ | refine x_store1 11 rfl rfl rfl Try.hi3 Try.cz3 rfl (by first | (simp; done) | (simp [intCells_len]; omega) | exact Nat.zero_lt_succ _) rfl ?_
                  refine a_and (fun _ hw => hw.sub (by repeat (first | exact List.Sublist.slnil | exact List.Sublist.refl _ | apply List.Sublist.cons_cons | apply List.Sublist.cons))) ?_
                  refine a_done (by kernel_rfl) ?_
                  generalize ho : (⟨y0.toNat, (y1.toNat : Int) % 16, (y1.toNat : Int) / 16, y2.toNat, 0⟩ : OpL) = o at *
                  refine e_seq ?_
                  refine e_region ?_
                  first | refine w_val (v_loadO Try.underlying3 rfl rfl (hd0)) rfl ?_ | refine w_val (v_loadO Try.underlying3 rfl rfl (hd1)) rfl ?_ | refine w_val (v_loadO Try.underlying3 rfl rfl (hd2)) rfl ?_ | refine w_val (v_loadB 0 rfl Try.underlying3 rfl rfl rfl) rfl ?_ | refine w_val (v_loadB 1 rfl Try.underlying3 rfl rfl rfl) rfl ?_ | refine w_val (v_loadB 2 rfl Try.underlying3 rfl rfl rfl) rfl ?_ | refine w_val (v_loadB 3 rfl Try.underlying3 rfl rfl rfl) rfl ?_ | refine w_val (v_loadB 4 rfl Try.underlying3 rfl rfl rfl) rfl ?_ | refine w_val (v_loadB 5 rfl Try.underlying3 rfl rfl rfl) rfl ?_ | refine w_val (v_loadB 6 rfl Try.underlying3 rfl rfl rfl) rfl ?_ | refine w_val (v_loadB 7 rfl Try.underlying3 rfl rfl rfl) rfl ?_ | refine w_val (v_loadB 8 rfl Try.underlying3 rfl rfl rfl) rfl ?_ | refine w_val (v_loadB 9 rfl Try.underlying3 rfl rfl rfl) rfl ?_ | refine w_val (v_loadB 10 rfl Try.underlying3 rfl rfl rfl) rfl ?_ | refine w_val (v_loadB 11 rfl Try.underlying3 rfl rfl rfl) rfl ?_
                  refine w_val (v_is (v' := .int .i64 ((a2 + 3 : Nat) : Int)) (v_add rfl rfl (by omega)) rfl) rfl ?_
                  refine w_op rfl ?_
                  first | refine x_store1 0 rfl rfl rfl Try.hi3 Try.cz3 rfl (by first | (simp; done) | (simp [intCells_len]; omega) | exact Nat.zero_lt_succ _) rfl ?_ | refine x_store1 1 rfl rfl rfl Try.hi3 Try.cz3 rfl (by first | (simp; done) | (simp [intCells_len]; omega) | exact Nat.zero_lt_succ _) rfl ?_ | refine x_store1 2 rfl rfl rfl Try.hi3 Try.cz3 rfl (by first | (simp; done) | (simp [intCells_len]; omega) | exact Nat.zero_lt_succ _) rfl ?_ | refine x_store1 3 rfl rfl rfl Try.hi3 Try.cz3 rfl (by first | (simp; done) | (simp [intCells_len]; omega) | exact Nat.zero_lt_succ _) rfl ?_ | refine x_store1 4 rfl rfl rfl Try.hi3 Try.cz3 rfl (by first | (simp; done) | (simp [intCells_len]; omega) | exact Nat.zero_lt_succ _) rfl ?_ | refine x_store1 5 rfl rfl rfl Try.hi3 Try.cz3 rfl (by first | (simp; done) | (simp [intCells_len]; omega) | exact Nat.zero_lt_succ _) rfl ?_ | refine x_store1 6 rfl rfl rfl Try.hi3 Try.cz3 rfl (by first | (simp; done) | (simp [intCells_len]; omega) | exact Nat.zero_lt_succ _) rfl ?_ | refine x_store1 7 rfl rfl rfl Try.hi3 Try.cz3 rfl (by first | (simp; done) | (simp [intCells_len]; omega) | exact Nat.zero_lt_succ _) rfl ?_ | refine x_store1 8 rfl rfl rfl Try.hi3 Try.cz3 rfl (by first | (simp; done) | (simp [intCells_len]; omega) | exact Nat.zero_lt_succ _) rfl ?_ | refine x_store1 9 rfl rfl rfl Try.hi3 Try.cz3 rfl (by first | (simp; done) | (simp [intCells_len]; omega) | exact Nat.zero_lt_succ _) rfl ?_ | refine x_store1 10 rfl rfl rfl Try.hi3 Try.cz3 rfl (by first | (simp; done) | (simp [intCells_len]; omega) | exact Nat.zero_lt_succ _) rfl ?_ | refine x_store1 11 rfl rfl rfl Try.hi3 Try.cz3 rfl (by first | (simp; done) | (simp [intCells_len]; omega) | exact Nat.zero_lt_succ _) rfl ?_
                  refine w_nil ?_
                  refine e_seq ?_
                  refine e_region ?_
                  refine w_val (v_move rfl) rfl ?_
                  refine w_val (v_is (v' := opV o) (v_loadBA 0 rfl Try.underlying61 rfl Try.hi61 Try.cz61 rfl) (by rw [← ho]; rfl)) rfl ?_
                  refine w_op rfl ?_
                  refine x_buildSlice _ (opCells o) rfl (run_buildSlice Try.underlying52 Try.hi61 Try.cz61 Try.zeroValue61 rfl (by kernel_rfl)) rfl (fun b106 => ?_)
                  refine w_op rfl ?_
                  refine x_appendI (z := .agg #[.int .i64 0, .int .i64 0, .int .i64 0, .int .i64 0, .int .i64 0]) (n := j) (xs := deedCells d) (size := 5) (bytes := 40) (k := 1) (news := opCells o) 3 rfl rfl rfl Try.underlying52 (by kernel_rfl) rfl (by decide) (fun w hw => blk_rds (hw.hold _ (List.mem_cons_self ..)) rfl) (by intro u hu; simp only [opCells, List.mem_cons, List.not_mem_nil, or_false] at hu; rcases hu with rfl | rfl | rfl | rfl | rfl <;> rfl) (by omega) (by simp only [maxLen]; omega) rfl (fun vd' => ?_)
                  refine w_val (v_assign rfl) rfl ?_
                  refine w_nil ?_
                  refine e_exit rfl ?_
                  refine e_region ?_
                  refine w_val (v_move rfl) rfl ?_
                  first | refine w_val (v_add rfl rfl (by omega)) rfl ?_ | refine w_val (v_addw rfl rfl) rfl ?_
                  refine w_val (v_assign rfl) rfl ?_
                  refine w_nil ?_
                  refine e_round ((j + 1, a2 + 3, vd', d ++ [o])) (⟨by dsimp only; omega, by simp [hdl], by dsimp only; omega, by rw [hrel2]; exact getOps_step hlt2' hgo d⟩) (by dsimp only; omega) (by repeat (first | exact Sub.nil _ | refine Sub.cons rfl ?_)) (fun _ hw => ?_)
                  dsimp only
                  rw [deedCells_snoc]
                  exact hw.sub (.cons _ (.cons _ (List.Sublist.refl _)))
                · have hk1' : y0 = 1 := is1 (by omega)
                  subst hk1'
                  refine e_skip ?_
                  refine e_seq ?_
                  refine e_seq ?_
                  refine e_region ?_
                  refine w_val (v_move rfl) rfl ?_
                  refine w_op rfl ?_
                  refine x_call0 (v := .bool (decide ((a2 : Int) + 10 ≤ n))) rfl rfl rfl Try.call100 rfl (fun w hw => need_spec b6 b5 10 a2 n w (by rw [blk_cell (hw.mem (i := 1) rfl)]; rfl) (by rw [blk_cell (hw.mem (i := 5) rfl)]; rfl) (by omega)) ?_
                  by_cases hn6 : (a2 : Int) + 10 ≤ n
                  · generalize hq : y2 :: b5' = q at *
                    have hq8 : 8 ≤ q.length := by
                      have hll : ((bs.take n).drop a2).length = n - a2 := by rw [List.length_drop, hlenN]
                      rw [hb5] at hll
                      simp at hll
                      omega
                    have hgo : getOp ((bs.take n).drop a2) = some (⟨1, y1.toNat, 0, 0, numOf (q.take 8)⟩, (bs.take n).drop (a2 + 10)) := by
                      rw [hb5, getOp_num hq8, show a2 + 10 = a2 + 2 + 8 from rfl, ← List.drop_drop, ← List.drop_drop, hb5]; rfl
                    refine w_val (v_is (v' := .bool false) (v_not rfl) (by rw [decide_eq_true hn6]; rfl)) rfl ?_
                    refine w_nil ?_
                    first | refine e_condDF rfl (by omega) ?_ | refine e_condF rfl ?_
                    refine e_skip ?_
                    refine e_seq ?_
                    refine e_region ?_
                    refine w_val (v_move rfl) rfl ?_
                    first | refine w_val (v_loadO Try.underlying3 rfl rfl (hd0)) rfl ?_ | refine w_val (v_loadO Try.underlying3 rfl rfl (hd1)) rfl ?_ | refine w_val (v_loadO Try.underlying3 rfl rfl (hd2)) rfl ?_ | refine w_val (v_loadB 0 rfl Try.underlying3 rfl rfl rfl) rfl ?_ | refine w_val (v_loadB 1 rfl Try.underlying3 rfl rfl rfl) rfl ?_ | refine w_val (v_loadB 2 rfl Try.underlying3 rfl rfl rfl) rfl ?_ | refine w_val (v_loadB 3 rfl Try.underlying3 rfl rfl rfl) rfl ?_ | refine w_val (v_loadB 4 rfl Try.underlying3 rfl rfl rfl) rfl ?_ | refine w_val (v_loadB 5 rfl Try.underlying3 rfl rfl rfl) rfl ?_ | refine w_val (v_loadB 6 rfl Try.underlying3 rfl rfl rfl) rfl ?_ | refine w_val (v_loadB 7 rfl Try.underlying3 rfl rfl rfl) rfl ?_ | refine w_val (v_loadB 8 rfl Try.underlying3 rfl rfl rfl) rfl ?_ | refine w_val (v_loadB 9 rfl Try.underlying3 rfl rfl rfl) rfl ?_ | refine w_val (v_loadB 10 rfl Try.underlying3 rfl rfl rfl) rfl ?_ | refine w_val (v_loadB 11 rfl Try.underlying3 rfl rfl rfl) rfl ?_
                    first | refine w_val (v_add rfl rfl (by omega)) rfl ?_ | refine w_val (v_addw rfl rfl) rfl ?_
                    first | refine w_val (v_indexSB Try.underlying23 Try.hi5 Try.cz5 rfl rfl (by first | omega | decide)) rfl ?_ | refine w_val (v_indexS Try.underlying23 Try.hi5 Try.cz5 rfl rfl (by first | omega | decide)) rfl ?_
                    first | refine w_val (v_loadO Try.underlying5 rfl rfl (hd0)) rfl ?_ | refine w_val (v_loadO Try.underlying5 rfl rfl (hd1)) rfl ?_ | refine w_val (v_loadO Try.underlying5 rfl rfl (hd2)) rfl ?_ | refine w_val (v_loadB 0 rfl Try.underlying5 rfl rfl rfl) rfl ?_ | refine w_val (v_loadB 1 rfl Try.underlying5 rfl rfl rfl) rfl ?_ | refine w_val (v_loadB 2 rfl Try.underlying5 rfl rfl rfl) rfl ?_ | refine w_val (v_loadB 3 rfl Try.underlying5 rfl rfl rfl) rfl ?_ | refine w_val (v_loadB 4 rfl Try.underlying5 rfl rfl rfl) rfl ?_ | refine w_val (v_loadB 5 rfl Try.underlying5 rfl rfl rfl) rfl ?_ | refine w_val (v_loadB 6 rfl Try.underlying5 rfl rfl rfl) rfl ?_ | refine w_val (v_loadB 7 rfl Try.underlying5 rfl rfl rfl) rfl ?_ | refine w_val (v_loadB 8 rfl Try.underlying5 rfl rfl rfl) rfl ?_ | refine w_val (v_loadB 9 rfl Try.underlying5 rfl rfl rfl) rfl ?_ | refine w_val (v_loadB 10 rfl Try.underlying5 rfl rfl rfl) rfl ?_ | refine w_val (v_loadB 11 rfl Try.underlying5 rfl rfl rfl) rfl ?_
                    refine w_val (v_is (v' := .int .i64 (y1.toNat : Int)) (v_conv Try.underlying3 (by rw [Try.underlying5]; rfl) rfl) (by rw [wrap_i64 (by omega) (by omega)])) rfl ?_
                    first | refine w_val (v_fieldAddrB (o := 1) Try.underlying61 rfl rfl Try.nz3 rfl) rfl ?_ | refine w_val (v_fieldAddr (o := 1) Try.underlying61 rfl rfl Try.nz3 rfl) rfl ?_
                    refine w_op rfl ?_
                    first | refine x_store1 0 rfl rfl rfl Try.hi3 Try.cz3 rfl (by first | (simp; done) | (simp [intCells_len]; omega) | exact Nat.zero_lt_succ _) rfl ?_ | refine x_store1 1 rfl rfl rfl Try.hi3 Try.cz3 rfl (by first | (simp; done) | (simp [intCells_len]; omega) | exact Nat.zero_lt_succ _) rfl ?_ | refine x_store1 2 rfl rfl rfl Try.hi3 Try.cz3 rfl (by first | (simp; done) | (simp [intCells_len]; omega) | exact Nat.zero_lt_succ _) rfl ?_ | refine x_store1 3 rfl rfl rfl Try.hi3 Try.cz3 rfl (by first | (simp; done) | (simp [intCells_len]; omega) | exact Nat.zero_lt_succ _) rfl ?_ | refine x_store1 4 rfl rfl rfl Try.hi3 Try.cz3 rfl (by first | (simp; done) | (simp [intCells_len]; omega) | exact Nat.zero_lt_succ _) rfl ?_ | refine x_store1 5 rfl rfl rfl Try.hi3 Try.cz3 rfl (by first | (simp; done) | (simp [intCells_len]; omega) | exact Nat.zero_lt_succ _) rfl ?_ | refine x_store1 6 rfl rfl rfl Try.hi3 Try.cz3 rfl (by first | (simp; done) | (simp [intCells_len]; omega) | exact Nat.zero_lt_succ _) rfl ?_ | refine x_store1 7 rfl rfl rfl Try.hi3 Try.cz3 rfl (by first | (simp; done) | (simp [intCells_len]; omega) | exact Nat.zero_lt_succ _) rfl ?_ | refine x_store1 8 rfl rfl rfl Try.hi3 Try.cz3 rfl (by first | (simp; done) | (simp [intCells_len]; omega) | exact Nat.zero_lt_succ _) rfl ?_ | refine x_store1 9 rfl rfl rfl Try.hi3 Try.cz3 rfl (by first | (simp; done) | (simp [intCells_len]; omega) | exact Nat.zero_lt_succ _) rfl ?_ | refine x_store1 10 rfl rfl rfl Try.hi3 Try.cz3 rfl (by first | (simp; done) | (simp [intCells_len]; omega) | exact Nat.zero_lt_succ _) rfl ?_ | refine x_store1 11 rfl rfl rfl Try.hi3 Try.cz3 rfl (by first | (simp; done) | (simp [intCells_len]; omega) | exact Nat.zero_lt_succ _) rfl ?_
                    refine w_nil ?_
                    refine e_seq ?_
                    refine e_region ?_
                    refine w_val (v_assign rfl) rfl ?_
                    refine w_nil ?_
                    refine e_seq ?_
                    refine e_seq ?_
                    refine e_region ?_
                    refine w_val (v_assign rfl) rfl ?_
                    refine w_nil ?_
                    refine e_block ?_
                    refine e_loopK (σ := Nat) [0, 5, 6, 7, 8, 9, 10, 11, 12, 13, 14] (.cons rfl (.cons rfl (.cons rfl (.cons rfl (.cons rfl (.cons rfl (.cons rfl (.cons rfl (.cons rfl (.cons rfl (.cons rfl .nil))))))))))) (fun m => [(15, .int .u64 (le ((q.drop m).take (8 - m)))), (16, .int .i64 ((m + 1 : Nat) : Int))]) (fun m => m ≤ 8) (fun m => m) 8 (by omega) (by repeat (first | exact Sub.nil _ | refine Sub.cons rfl ?_)) ?_
                    rintro m hm
                    refine e_seq ?_
                    refine e_seq ?_
                    refine e_region ?_
                    refine w_val (v_move rfl) rfl ?_
                    refine w_val (v_geq rfl rfl) rfl ?_
                    refine w_nil ?_
                    refine e_condD rfl (fun hge => ?_) (fun hge => ?_)
                    · have hm1 : 1 ≤ m := by omega
                      obtain ⟨z, hz⟩ : ∃ z, q[m - 1]? = some z := ⟨_, List.getElem?_eq_getElem (show m - 1 < q.length by omega)⟩
                      have hz8 := z.toNat_lt
                      have hle := le_get hz (by omega) hq8
                      rw [show m - 1 + 1 = m from by omega] at hle
                      have hr1 := le_range ((q.drop m).take (8 - m))
                      have hp64 : (2 : Int) ^ (8 * ((q.drop m).take (8 - m)).length) ≤ 72057594037927936 := by
                        have : ((q.drop m).take (8 - m)).length = 8 - m := by simp; omega
                        rw [this]
                        have : m = 1 ∨ m = 2 ∨ m = 3 ∨ m = 4 ∨ m = 5 ∨ m = 6 ∨ m = 7 ∨ m = 8 := by omega
                        rcases this with rfl | rfl | rfl | rfl | rfl | rfl | rfl | rfl <;> decide
                      have hd3 := cell_at hcl (n := n) (a := a2) (j := m + 1) (x := z) (by rw [hb5]; obtain ⟨m', rfl⟩ : ∃ m', m = m' + 1 := ⟨m - 1, by omega⟩; simpa using hz) ((a2 : Int) + ((m + 1 : Nat) : Int)) (by omega)
                      generalize hL : le ((q.drop m).take (8 - m)) = L at *
                      refine e_skip ?_
                      refine e_seq ?_
                      refine e_block ?_
                      refine e_region ?_
                      refine w_val (v_move rfl) rfl ?_
                      refine w_val (v_is (v' := .int .u64 (L * 256)) (v_mulw rfl rfl) (by rw [wrap_u64 (by omega) (by omega)])) rfl ?_
                      refine w_val (v_move rfl) rfl ?_
                      first | refine w_val (v_loadO Try.underlying3 rfl rfl (hd3)) rfl ?_ | refine w_val (v_loadB 0 rfl Try.underlying3 rfl rfl rfl) rfl ?_ | refine w_val (v_loadB 1 rfl Try.underlying3 rfl rfl rfl) rfl ?_ | refine w_val (v_loadB 2 rfl Try.underlying3 rfl rfl rfl) rfl ?_ | refine w_val (v_loadB 3 rfl Try.underlying3 rfl rfl rfl) rfl ?_ | refine w_val (v_loadB 4 rfl Try.underlying3 rfl rfl rfl) rfl ?_ | refine w_val (v_loadB 5 rfl Try.underlying3 rfl rfl rfl) rfl ?_ | refine w_val (v_loadB 6 rfl Try.underlying3 rfl rfl rfl) rfl ?_ | refine w_val (v_loadB 7 rfl Try.underlying3 rfl rfl rfl) rfl ?_ | refine w_val (v_loadB 8 rfl Try.underlying3 rfl rfl rfl) rfl ?_ | refine w_val (v_loadB 9 rfl Try.underlying3 rfl rfl rfl) rfl ?_ | refine w_val (v_loadB 10 rfl Try.underlying3 rfl rfl rfl) rfl ?_ | refine w_val (v_loadB 11 rfl Try.underlying3 rfl rfl rfl) rfl ?_
                      refine w_val (v_move rfl) rfl ?_
                      first | refine w_val (v_add rfl rfl (by omega)) rfl ?_ | refine w_val (v_addw rfl rfl) rfl ?_
                      first | refine w_val (v_indexSB Try.underlying23 Try.hi5 Try.cz5 rfl rfl (by first | omega | decide)) rfl ?_ | refine w_val (v_indexS Try.underlying23 Try.hi5 Try.cz5 rfl rfl (by first | omega | decide)) rfl ?_
                      first | refine w_val (v_loadO Try.underlying5 rfl rfl (hd3)) rfl ?_ | refine w_val (v_loadB 0 rfl Try.underlying5 rfl rfl rfl) rfl ?_ | refine w_val (v_loadB 1 rfl Try.underlying5 rfl rfl rfl) rfl ?_ | refine w_val (v_loadB 2 rfl Try.underlying5 rfl rfl rfl) rfl ?_ | refine w_val (v_loadB 3 rfl Try.underlying5 rfl rfl rfl) rfl ?_ | refine w_val (v_loadB 4 rfl Try.underlying5 rfl rfl rfl) rfl ?_ | refine w_val (v_loadB 5 rfl Try.underlying5 rfl rfl rfl) rfl ?_ | refine w_val (v_loadB 6 rfl Try.underlying5 rfl rfl rfl) rfl ?_ | refine w_val (v_loadB 7 rfl Try.underlying5 rfl rfl rfl) rfl ?_ | refine w_val (v_loadB 8 rfl Try.underlying5 rfl rfl rfl) rfl ?_ | refine w_val (v_loadB 9 rfl Try.underlying5 rfl rfl rfl) rfl ?_ | refine w_val (v_loadB 10 rfl Try.underlying5 rfl rfl rfl) rfl ?_ | refine w_val (v_loadB 11 rfl Try.underlying5 rfl rfl rfl) rfl ?_
                      refine w_val (v_is (v' := .int .u64 (z.toNat : Int)) (v_conv Try.underlying153 (by rw [Try.underlying5]; rfl) rfl) (by rw [wrap_u64 (by omega) (by omega)])) rfl ?_
                      refine w_val (v_is (v' := .int .u64 (le ((q.drop (m - 1)).take (8 - (m - 1))))) (v_addw rfl rfl) (by rw [wrap_u64 (by omega) (by omega), hle]; congr 1; omega)) rfl ?_
                      refine w_val (v_assign rfl) rfl ?_
                      refine w_nil ?_
                      refine e_blk ?_
                      refine e_region ?_
                      refine w_val (v_move rfl) rfl ?_
                      refine w_val (v_is (v' := .int .i64 ((m - 1 + 1 : Nat) : Int)) (v_sub rfl rfl (by omega)) (by congr 1; omega)) rfl ?_
                      refine w_val (v_assign rfl) rfl ?_
                      refine w_nil ?_
                      exact e_round (m - 1) (by omega) (by omega) (by repeat (first | exact Sub.nil _ | refine Sub.cons rfl ?_)) (fun _ hw => hw)
                    · obtain rfl : m = 0 := by omega
                      generalize ho : (⟨1, y1.toNat, 0, 0, numOf (q.take 8)⟩ : OpL) = o at *
                      refine e_exit rfl ?_
                      refine e_seq ?_
                      refine e_region ?_
                      refine w_val (v_move rfl) rfl ?_
                      refine w_val (v_is (v' := .int .i64 (numOf (q.take 8))) (v_conv Try.underlying2 (by rw [Try.underlying153]; rfl) rfl) rfl) rfl ?_
                      first | refine w_val (v_fieldAddrB (o := 4) Try.underlying61 rfl rfl Try.nz2 rfl) rfl ?_ | refine w_val (v_fieldAddr (o := 4) Try.underlying61 rfl rfl Try.nz2 rfl) rfl ?_
                      refine w_op rfl ?_
                      first | refine x_store1 0 rfl rfl rfl Try.hi2 Try.cz2 rfl (by first | (simp; done) | (simp [intCells_len]; omega) | exact Nat.zero_lt_succ _) rfl ?_ | refine x_store1 1 rfl rfl rfl Try.hi2 Try.cz2 rfl (by first | (simp; done) | (simp [intCells_len]; omega) | exact Nat.zero_lt_succ _) rfl ?_ | refine x_store1 2 rfl rfl rfl Try.hi2 Try.cz2 rfl (by first | (simp; done) | (simp [intCells_len]; omega) | exact Nat.zero_lt_succ _) rfl ?_ | refine x_store1 3 rfl rfl rfl Try.hi2 Try.cz2 rfl (by first | (simp; done) | (simp [intCells_len]; omega) | exact Nat.zero_lt_succ _) rfl ?_ | refine x_store1 4 rfl rfl rfl Try.hi2 Try.cz2 rfl (by first | (simp; done) | (simp [intCells_len]; omega) | exact Nat.zero_lt_succ _) rfl ?_ | refine x_store1 5 rfl rfl rfl Try.hi2 Try.cz2 rfl (by first | (simp; done) | (simp [intCells_len]; omega) | exact Nat.zero_lt_succ _) rfl ?_ | refine x_store1 6 rfl rfl rfl Try.hi2 Try.cz2 rfl (by first | (simp; done) | (simp [intCells_len]; omega) | exact Nat.zero_lt_succ _) rfl ?_ | refine x_store1 7 rfl rfl rfl Try.hi2 Try.cz2 rfl (by first | (simp; done) | (simp [intCells_len]; omega) | exact Nat.zero_lt_succ _) rfl ?_ | refine x_store1 8 rfl rfl rfl Try.hi2 Try.cz2 rfl (by first | (simp; done) | (simp [intCells_len]; omega) | exact Nat.zero_lt_succ _) rfl ?_ | refine x_store1 9 rfl rfl rfl Try.hi2 Try.cz2 rfl (by first | (simp; done) | (simp [intCells_len]; omega) | exact Nat.zero_lt_succ _) rfl ?_ | refine x_store1 10 rfl rfl rfl Try.hi2 Try.cz2 rfl (by first | (simp; done) | (simp [intCells_len]; omega) | exact Nat.zero_lt_succ _) rfl ?_ | refine x_store1 11 rfl rfl rfl Try.hi2 Try.cz2 rfl (by first | (simp; done) | (simp [intCells_len]; omega) | exact Nat.zero_lt_succ _) rfl ?_
                      refine w_nil ?_
                      refine e_seq ?_
                      refine e_region ?_
                      first | refine w_val (v_loadB 0 rfl Try.underlying3 rfl rfl rfl) rfl ?_ | refine w_val (v_loadB 1 rfl Try.underlying3 rfl rfl rfl) rfl ?_ | refine w_val (v_loadB 2 rfl Try.underlying3 rfl rfl rfl) rfl ?_ | refine w_val (v_loadB 3 rfl Try.underlying3 rfl rfl rfl) rfl ?_ | refine w_val (v_loadB 4 rfl Try.underlying3 rfl rfl rfl) rfl ?_ | refine w_val (v_loadB 5 rfl Try.underlying3 rfl rfl rfl) rfl ?_ | refine w_val (v_loadB 6 rfl Try.underlying3 rfl rfl rfl) rfl ?_ | refine w_val (v_loadB 7 rfl Try.underlying3 rfl rfl rfl) rfl ?_ | refine w_val (v_loadB 8 rfl Try.underlying3 rfl rfl rfl) rfl ?_ | refine w_val (v_loadB 9 rfl Try.underlying3 rfl rfl rfl) rfl ?_ | refine w_val (v_loadB 10 rfl Try.underlying3 rfl rfl rfl) rfl ?_ | refine w_val (v_loadB 11 rfl Try.underlying3 rfl rfl rfl) rfl ?_
                      refine w_val (v_is (v' := .int .i64 ((a2 + 10 : Nat) : Int)) (v_add rfl rfl (by omega)) rfl) rfl ?_
                      refine w_op rfl ?_
                      first | refine x_store1 0 rfl rfl rfl Try.hi3 Try.cz3 rfl (by first | (simp; done) | (simp [intCells_len]; omega) | exact Nat.zero_lt_succ _) rfl ?_ | refine x_store1 1 rfl rfl rfl Try.hi3 Try.cz3 rfl (by first | (simp; done) | (simp [intCells_len]; omega) | exact Nat.zero_lt_succ _) rfl ?_ | refine x_store1 2 rfl rfl rfl Try.hi3 Try.cz3 rfl (by first | (simp; done) | (simp [intCells_len]; omega) | exact Nat.zero_lt_succ _) rfl ?_ | refine x_store1 3 rfl rfl rfl Try.hi3 Try.cz3 rfl (by first | (simp; done) | (simp [intCells_len]; omega) | exact Nat.zero_lt_succ _) rfl ?_ | refine x_store1 4 rfl rfl rfl Try.hi3 Try.cz3 rfl (by first | (simp; done) | (simp [intCells_len]; omega) | exact Nat.zero_lt_succ _) rfl ?_ | refine x_store1 5 rfl rfl rfl Try.hi3 Try.cz3 rfl (by first | (simp; done) | (simp [intCells_len]; omega) | exact Nat.zero_lt_succ _) rfl ?_ | refine x_store1 6 rfl rfl rfl Try.hi3 Try.cz3 rfl (by first | (simp; done) | (simp [intCells_len]; omega) | exact Nat.zero_lt_succ _) rfl ?_ | refine x_store1 7 rfl rfl rfl Try.hi3 Try.cz3 rfl (by first | (simp; done) | (simp [intCells_len]; omega) | exact Nat.zero_lt_succ _) rfl ?_ | refine x_store1 8 rfl rfl rfl Try.hi3 Try.cz3 rfl (by first | (simp; done) | (simp [intCells_len]; omega) | exact Nat.zero_lt_succ _) rfl ?_ | refine x_store1 9 rfl rfl rfl Try.hi3 Try.cz3 rfl (by first | (simp; done) | (simp [intCells_len]; omega) | exact Nat.zero_lt_succ _) rfl ?_ | refine x_store1 10 rfl rfl rfl Try.hi3 Try.cz3 rfl (by first | (simp; done) | (simp [intCells_len]; omega) | exact Nat.zero_lt_succ _) rfl ?_ | refine x_store1 11 rfl rfl rfl Try.hi3 Try.cz3 rfl (by first | (simp; done) | (simp [intCells_len]; omega) | exact Nat.zero_lt_succ _) rfl ?_
                      refine w_nil ?_
                      refine e_region ?_
                      refine w_val (v_move rfl) rfl ?_
                      refine w_val (v_is (v' := opV o) (v_loadBA 0 rfl Try.underlying61 rfl Try.hi61 Try.cz61 rfl) (by rw [← ho]; rfl)) rfl ?_
                      refine w_op rfl ?_
                      refine x_buildSlice _ (opCells o) rfl (run_buildSlice Try.underlying52 Try.hi61 Try.cz61 Try.zeroValue61 rfl (by kernel_rfl)) rfl (fun b139 => ?_)
                      refine w_op rfl ?_
                      refine x_appendI (z := .agg #[.int .i64 0, .int .i64 0, .int .i64 0, .int .i64 0, .int .i64 0]) (n := j) (xs := deedCells d) (size := 5) (bytes := 40) (k := 1) (news := opCells o) 3 rfl rfl rfl Try.underlying52 (by kernel_rfl) rfl (by decide) (fun w hw => blk_rds (hw.hold _ (List.mem_cons_self ..)) rfl) (by intro u hu; simp only [opCells, List.mem_cons, List.not_mem_nil, or_false] at hu; rcases hu with rfl | rfl | rfl | rfl | rfl <;> rfl) (by omega) (by simp only [maxLen]; omega) rfl (fun vd' => ?_)
                      refine w_val (v_assign rfl) rfl ?_
                      refine w_nil ?_
                      refine e_blk ?_
                      refine e_region ?_
                      refine w_val (v_move rfl) rfl ?_
                      first | refine w_val (v_add rfl rfl (by omega)) rfl ?_ | refine w_val (v_addw rfl rfl) rfl ?_
                      refine w_val (v_assign rfl) rfl ?_
                      refine w_nil ?_
                      refine e_round ((j + 1, a2 + 10, vd', d ++ [o])) (⟨by dsimp only; omega, by simp [hdl], by dsimp only; omega, by rw [hrel2]; exact getOps_step hlt2' hgo d⟩) (by dsimp only; omega) (by repeat (first | exact Sub.nil _ | refine Sub.cons rfl ?_)) (fun _ hw => ?_)
                      dsimp only
                      rw [deedCells_snoc]
                      exact hw.sub (.cons _ (.cons _ (List.Sublist.refl _)))
                  · have hno := hnone hlt2' (by
                      have hll : ((bs.take n).drop a2).length = n - a2 := by rw [List.length_drop, hlenN]
                      rw [hb5] at hll ⊢
                      exact getOp_lt10 (by simp only [List.length_cons] at hll ⊢; omega))
                    refine w_val (v_is (v' := .bool true) (v_not rfl) (by rw [decide_eq_false hn6]; rfl)) rfl ?_
                    refine w_nil ?_
                    first | refine e_condDT rfl (by omega) ?_ | refine e_condT rfl ?_
                    refine e_seq ?_
                    refine e_region ?_
                    refine w_val (v_assign rfl) rfl ?_
                    refine w_val (v_assign rfl) rfl ?_
                    refine w_val (v_assign rfl) rfl ?_
                    refine w_nil ?_
                    refine e_retQ (q_ret3 rfl (.tmp rfl) (.tmp rfl) (.tmp rfl) ?_)
                    exact fun w' hw' => ⟨(.slice none 0 0, feet []), trivial, by rw [hno]; rfl, by rw [hno]; exact hnil hw'⟩
              · have hno := hnone hlt2' (getOp_lt3 (by rw [List.length_drop, hlenN]; omega))
                refine w_val (v_is (v' := .bool true) (v_not rfl) (by rw [decide_eq_false hn5]; rfl)) rfl ?_
                refine w_nil ?_
                first | refine e_condDT rfl (by omega) ?_ | refine e_condT rfl ?_
                refine e_seq ?_
                refine e_region ?_
                refine w_val (v_assign rfl) rfl ?_
                refine w_val (v_assign rfl) rfl ?_
                refine w_val (v_assign rfl) rfl ?_
                refine w_nil ?_
                refine e_retQ (q_ret3 rfl (.tmp rfl) (.tmp rfl) (.tmp rfl) ?_)
                exact fun w' hw' => ⟨(.slice none 0 0, feet []), trivial, by rw [hno]; rfl, by rw [hno]; exact hnil hw'⟩
            · obtain rfl : j = MM := by omega
              have hgd2 : getDeed (x1 :: b3) = some (d, (bs.take n).drop a2) := by rw [hgd, hrel2, Nat.sub_self]; simp [getOps]
              refine g_shape 1 rfl fun A1 k1 hv1 hk1 => ?_
              subst hv1
              refine e_exit rfl ?_
              refine e_region ?_
              refine w_val (v_move rfl) rfl ?_
              refine w_val (v_move rfl) rfl ?_
              refine w_op rfl ?_
              refine x_buildSlice _ ([.slice A1 j k1]) rfl (run_buildSlice Try.underlying34 Try.hi52 Try.cz52 Try.zeroValue52 rfl (by kernel_rfl)) rfl (fun b143 => ?_)
              refine w_op rfl ?_
              refine x_appendI (z := .slice none 0 0) (n := k) (xs := vs) (size := 1) (bytes := 24) (k := 1) (news := [.slice A1 j k1]) 3 rfl rfl rfl Try.underlying34 (by kernel_rfl) rfl (by decide) (fun w hw => blk_rds (hw.hold _ (List.mem_cons_self ..)) rfl) (by intro u hu; simp only [List.mem_singleton] at hu; subst hu; rfl) (by omega) (by simp only [maxLen]; omega) rfl (fun vo' => ?_)
              refine w_val (v_assign rfl) rfl ?_
              refine w_nil ?_
              refine e_blk ?_
              refine e_region ?_
              refine w_val (v_move rfl) rfl ?_
              first | refine w_val (v_add rfl rfl (by omega)) rfl ?_ | refine w_val (v_addw rfl rfl) rfl ?_
              refine w_val (v_assign rfl) rfl ?_
              refine w_nil ?_
              refine e_round ((k + 1, a2, vo', vs ++ [.slice A1 j k1], r ++ [d], feet [Own (.slice A1 j k1) 61 5 j (deedCells d), Keep F (Deeds vs r)])) (⟨by dsimp only; omega, by simp [hrl], by dsimp only; omega, by rw [hrel]; exact getDeeds_step hlt' hgd2 r⟩) (by dsimp only; omega) (by repeat (first | exact Sub.nil _ | refine Sub.cons rfl ?_)) (fun _ hw => ?_)
              dsimp only
              simp only [List.set_cons_zero, List.set_cons_succ] at hw
              have h5 := (hw.sub (.cons _ (List.Sublist.refl _))).perm (m' := [Own (.slice A1 j k1) 61 5 j (deedCells d), Keep F (Deeds vs r), .blk b6 3 [.int .i64 (a2 : Int)], Own vo' 52 1 (k + 1) (vs ++ [.slice A1 j k1]), .blk b5 3 [.int .i64 (n : Int)]]) (by
                refine (List.Perm.swap _ _ _).trans (.cons _ ?_)
                refine (List.Perm.cons _ (.swap _ _ _)).trans (.swap _ _ _))
              refine (h5.deedIn hdl.symm).perm ?_
              refine (List.Perm.swap _ _ _).trans (.cons _ (.swap _ _ _))
          · have hno := hbad (by rw [hrel, List.drop_eq_nil_of_le (by omega), getDeeds_none hlt' rfl]; rfl)
            refine w_val (v_is (v' := .bool true) (v_not rfl) (by rw [decide_eq_false hn4]; rfl)) rfl ?_
            refine w_nil ?_
            first | refine e_condDT rfl (by omega) ?_ | refine e_condT rfl ?_
            refine e_seq ?_
            refine e_region ?_
            refine w_val (v_assign rfl) rfl ?_
            refine w_val (v_assign rfl) rfl ?_
            refine w_val (v_assign rfl) rfl ?_
            refine w_nil ?_
            refine e_retQ (q_ret3 rfl (.tmp rfl) (.tmp rfl) (.tmp rfl) ?_)
            exact fun w' hw' => ⟨(.slice none 0 0, feet []), trivial, by rw [hno]; rfl, by rw [hno]; exact hnil hw'⟩
        · obtain rfl : k = NN := by omega
          have hfin : getDeeds k b1 = some (r, (bs.take n).drop a) := by rw [hrel, Nat.sub_self]; simp [getDeeds]
          refine e_exit rfl ?_
          refine e_seq ?_
          refine e_seq ?_
          refine e_region ?_
          first | refine w_val (v_loadB 0 rfl Try.underlying3 rfl rfl rfl) rfl ?_ | refine w_val (v_loadB 1 rfl Try.underlying3 rfl rfl rfl) rfl ?_ | refine w_val (v_loadB 2 rfl Try.underlying3 rfl rfl rfl) rfl ?_ | refine w_val (v_loadB 3 rfl Try.underlying3 rfl rfl rfl) rfl ?_ | refine w_val (v_loadB 4 rfl Try.underlying3 rfl rfl rfl) rfl ?_ | refine w_val (v_loadB 5 rfl Try.underlying3 rfl rfl rfl) rfl ?_ | refine w_val (v_loadB 6 rfl Try.underlying3 rfl rfl rfl) rfl ?_ | refine w_val (v_loadB 7 rfl Try.underlying3 rfl rfl rfl) rfl ?_ | refine w_val (v_loadB 8 rfl Try.underlying3 rfl rfl rfl) rfl ?_ | refine w_val (v_loadB 9 rfl Try.underlying3 rfl rfl rfl) rfl ?_ | refine w_val (v_loadB 10 rfl Try.underlying3 rfl rfl rfl) rfl ?_ | refine w_val (v_loadB 11 rfl Try.underlying3 rfl rfl rfl) rfl ?_
          first | refine w_val (v_loadB 0 rfl Try.underlying3 rfl rfl rfl) rfl ?_ | refine w_val (v_loadB 1 rfl Try.underlying3 rfl rfl rfl) rfl ?_ | refine w_val (v_loadB 2 rfl Try.underlying3 rfl rfl rfl) rfl ?_ | refine w_val (v_loadB 3 rfl Try.underlying3 rfl rfl rfl) rfl ?_ | refine w_val (v_loadB 4 rfl Try.underlying3 rfl rfl rfl) rfl ?_ | refine w_val (v_loadB 5 rfl Try.underlying3 rfl rfl rfl) rfl ?_ | refine w_val (v_loadB 6 rfl Try.underlying3 rfl rfl rfl) rfl ?_ | refine w_val (v_loadB 7 rfl Try.underlying3 rfl rfl rfl) rfl ?_ | refine w_val (v_loadB 8 rfl Try.underlying3 rfl rfl rfl) rfl ?_ | refine w_val (v_loadB 9 rfl Try.underlying3 rfl rfl rfl) rfl ?_ | refine w_val (v_loadB 10 rfl Try.underlying3 rfl rfl rfl) rfl ?_ | refine w_val (v_loadB 11 rfl Try.underlying3 rfl rfl rfl) rfl ?_
          refine w_val (v_neq rfl rfl) rfl ?_
          refine w_nil ?_
          refine e_condD rfl (fun hne => ?_) (fun hne => ?_)
          · have hno := hmore r ((bs.take n).drop a) (by intro h; have := congrArg List.length h; rw [List.length_drop, hlenN] at this; simp at this; omega) hfin
            refine e_seq ?_
            refine e_region ?_
            refine w_val (v_assign rfl) rfl ?_
            refine w_val (v_assign rfl) rfl ?_
            refine w_val (v_assign rfl) rfl ?_
            refine w_nil ?_
            refine e_retQ (q_ret3 rfl (.tmp rfl) (.tmp rfl) (.tmp rfl) ?_)
            exact fun w' hw' => ⟨(.slice none 0 0, feet []), trivial, by rw [hno]; rfl, by rw [hno]; exact hnil hw'⟩
          · have han' : a = n := by omega
            have hB2 := hgood r (by rw [hfin, List.drop_eq_nil_of_le (by omega)])
            rw [hB2]
            clear hB2 hB hgood hmore hbad
            refine g_heap (m' := [Keep (feet [Own vo 52 1 k vs, Keep F (Deeds vs r)]) (fun c => IsRound c vo r), .blk b6 3 [.int .i64 (a : Int)], .blk b5 3 [.int .i64 (n : Int)]]) (fun _ hw => by
              have h5 := hw.perm (m' := [Own vo 52 1 k vs, Keep F (Deeds vs r), .blk b6 3 [.int .i64 (a : Int)], .blk b5 3 [.int .i64 (n : Int)]]) ((List.Perm.swap _ _ _).trans (.cons _ (.swap _ _ _)))
              exact h5.roundIn hrl.symm) ?_
            refine e_skip ?_
            refine e_seq ?_
            refine e_seq ?_
            refine e_region ?_
            refine w_val (v_move rfl) rfl ?_
            refine w_op rfl ?_
            refine x_call0 (v := .int .i64 (roundFaultL r)) rfl rfl rfl Try.call41 rfl (fun w hw => RoundFault_spec _ r w (keep_all (IsRound.up _ _) (hw.mem (i := 0) rfl))) ?_
            refine w_val (v_assign rfl) rfl ?_
            refine w_nil ?_
            refine e_seq ?_
            refine e_region ?_
            refine w_val (v_move rfl) rfl ?_
            refine w_val (v_neq rfl rfl) rfl ?_
            refine w_nil ?_
            refine e_condD rfl (fun hf => ?_) (fun hf => ?_)
            · refine e_seq ?_
              refine e_region ?_
              refine w_val (v_move rfl) rfl ?_
              refine w_val (v_assign rfl) rfl ?_
              refine w_val (v_assign rfl) rfl ?_
              refine w_val (v_assign rfl) rfl ?_
              refine w_nil ?_
              refine e_retQ (q_ret3 rfl (.tmp rfl) (.tmp rfl) (.tmp rfl) ?_)
              exact fun w' hw' => ⟨(.slice none 0 0, feet []), trivial, by rw [if_pos hf, if_pos hf], by rw [if_pos hf, if_pos hf]; exact hnil hw'⟩
            · refine e_skip ?_
              refine e_seq ?_
              refine e_draw ([.blk b5 3 [.int .i64 (n : Int)]]) Try.mixed ?_
              refine a_take 0 pan_cx (by kernel_rfl) (fun _ hw => hw.sub (by repeat (first | exact List.Sublist.slnil | exact List.Sublist.refl _ | apply List.Sublist.cons_cons | apply List.Sublist.cons))) rfl (by kernel_rfl) (by kernel_rfl) (v_move rfl) rfl ?_
              first | refine a_take 1 pan_cx (by kernel_rfl) (fun _ hw => hw.sub (by repeat (first | exact List.Sublist.slnil | exact List.Sublist.refl _ | apply List.Sublist.cons_cons | apply List.Sublist.cons))) rfl (by kernel_rfl) (by kernel_rfl) (v_loadB 0 rfl Try.underlying3 rfl rfl rfl) rfl ?_ | refine a_take 1 pan_cx (by kernel_rfl) (fun _ hw => hw.sub (by repeat (first | exact List.Sublist.slnil | exact List.Sublist.refl _ | apply List.Sublist.cons_cons | apply List.Sublist.cons))) rfl (by kernel_rfl) (by kernel_rfl) (v_loadB 1 rfl Try.underlying3 rfl rfl rfl) rfl ?_ | refine a_take 1 pan_cx (by kernel_rfl) (fun _ hw => hw.sub (by repeat (first | exact List.Sublist.slnil | exact List.Sublist.refl _ | apply List.Sublist.cons_cons | apply List.Sublist.cons))) rfl (by kernel_rfl) (by kernel_rfl) (v_loadB 2 rfl Try.underlying3 rfl rfl rfl) rfl ?_ | refine a_take 1 pan_cx (by kernel_rfl) (fun _ hw => hw.sub (by repeat (first | exact List.Sublist.slnil | exact List.Sublist.refl _ | apply List.Sublist.cons_cons | apply List.Sublist.cons))) rfl (by kernel_rfl) (by kernel_rfl) (v_loadB 3 rfl Try.underlying3 rfl rfl rfl) rfl ?_ | refine a_take 1 pan_cx (by kernel_rfl) (fun _ hw => hw.sub (by repeat (first | exact List.Sublist.slnil | exact List.Sublist.refl _ | apply List.Sublist.cons_cons | apply List.Sublist.cons))) rfl (by kernel_rfl) (by kernel_rfl) (v_loadB 4 rfl Try.underlying3 rfl rfl rfl) rfl ?_ | refine a_take 1 pan_cx (by kernel_rfl) (fun _ hw => hw.sub (by repeat (first | exact List.Sublist.slnil | exact List.Sublist.refl _ | apply List.Sublist.cons_cons | apply List.Sublist.cons))) rfl (by kernel_rfl) (by kernel_rfl) (v_loadB 5 rfl Try.underlying3 rfl rfl rfl) rfl ?_ | refine a_take 1 pan_cx (by kernel_rfl) (fun _ hw => hw.sub (by repeat (first | exact List.Sublist.slnil | exact List.Sublist.refl _ | apply List.Sublist.cons_cons | apply List.Sublist.cons))) rfl (by kernel_rfl) (by kernel_rfl) (v_loadB 6 rfl Try.underlying3 rfl rfl rfl) rfl ?_ | refine a_take 1 pan_cx (by kernel_rfl) (fun _ hw => hw.sub (by repeat (first | exact List.Sublist.slnil | exact List.Sublist.refl _ | apply List.Sublist.cons_cons | apply List.Sublist.cons))) rfl (by kernel_rfl) (by kernel_rfl) (v_loadB 7 rfl Try.underlying3 rfl rfl rfl) rfl ?_ | refine a_take 1 pan_cx (by kernel_rfl) (fun _ hw => hw.sub (by repeat (first | exact List.Sublist.slnil | exact List.Sublist.refl _ | apply List.Sublist.cons_cons | apply List.Sublist.cons))) rfl (by kernel_rfl) (by kernel_rfl) (v_loadB 8 rfl Try.underlying3 rfl rfl rfl) rfl ?_ | refine a_take 1 pan_cx (by kernel_rfl) (fun _ hw => hw.sub (by repeat (first | exact List.Sublist.slnil | exact List.Sublist.refl _ | apply List.Sublist.cons_cons | apply List.Sublist.cons))) rfl (by kernel_rfl) (by kernel_rfl) (v_loadB 9 rfl Try.underlying3 rfl rfl rfl) rfl ?_ | refine a_take 1 pan_cx (by kernel_rfl) (fun _ hw => hw.sub (by repeat (first | exact List.Sublist.slnil | exact List.Sublist.refl _ | apply List.Sublist.cons_cons | apply List.Sublist.cons))) rfl (by kernel_rfl) (by kernel_rfl) (v_loadB 10 rfl Try.underlying3 rfl rfl rfl) rfl ?_ | refine a_take 1 pan_cx (by kernel_rfl) (fun _ hw => hw.sub (by repeat (first | exact List.Sublist.slnil | exact List.Sublist.refl _ | apply List.Sublist.cons_cons | apply List.Sublist.cons))) rfl (by kernel_rfl) (by kernel_rfl) (v_loadB 11 rfl Try.underlying3 rfl rfl rfl) rfl ?_
              refine a_take 2 pan_cx (by kernel_rfl) (fun _ hw => hw.sub (by repeat (first | exact List.Sublist.slnil | exact List.Sublist.refl _ | apply List.Sublist.cons_cons | apply List.Sublist.cons))) rfl (by kernel_rfl) (by kernel_rfl) (v_assign rfl) rfl ?_
              refine a_take 3 pan_cx (by kernel_rfl) (fun _ hw => hw.sub (by repeat (first | exact List.Sublist.slnil | exact List.Sublist.refl _ | apply List.Sublist.cons_cons | apply List.Sublist.cons))) rfl (by kernel_rfl) (by kernel_rfl) (v_assign rfl) rfl ?_
              refine a_take 4 pan_cx (by kernel_rfl) (fun _ hw => hw.sub (by repeat (first | exact List.Sublist.slnil | exact List.Sublist.refl _ | apply List.Sublist.cons_cons | apply List.Sublist.cons))) rfl (by kernel_rfl) (by kernel_rfl) (v_assign rfl) rfl ?_
              refine a_done (by kernel_rfl) ?_
              refine e_retQ (q_ret3 rfl (.tmp rfl) (.tmp rfl) (.tmp rfl) ?_)
              exact fun w' hw' => ⟨(vo, feet [Own vo 52 1 k vs, Keep F (Deeds vs r)]), trivial, by rw [if_neg hf, if_neg (by simp)], by rw [if_neg hf, if_neg (by simp)]; exact (hw'.sub (.cons_cons _ (List.nil_sublist _))).res⟩
      · have hno := hbad (by rw [List.drop_eq_nil_of_le (by omega)]; rfl)
        refine w_val (v_is (v' := .bool true) (v_not rfl) (by rw [decide_eq_false hn3]; rfl)) rfl ?_
        refine w_nil ?_
        first | refine e_condDT rfl (by omega) ?_ | refine e_condT rfl ?_
        refine e_seq ?_
        refine e_region ?_
        refine w_val (v_assign rfl) rfl ?_
        refine w_val (v_assign rfl) rfl ?_
        refine w_val (v_assign rfl) rfl ?_
        refine w_nil ?_
        refine e_retQ (q_ret3 rfl (.tmp rfl) (.tmp rfl) (.tmp rfl) ?_)
        exact fun w' hw' => ⟨(.slice none 0 0, feet []), trivial, by rw [hno]; rfl, by rw [hno]; exact hnil hw'⟩
end Go.SL

