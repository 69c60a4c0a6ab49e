/- Ytebdkaadbakhlaa: part D7 of this seat's own texts. -/
import Derived.Test.YtebdkaadbakhlaaD6
set_option linter.unusedVariables false
set_option linter.unusedSimpArgs false
open Go Go.Proofs Go.SL
set_option maxRecDepth 100000
namespace Go.SL
theorem Decode_spec (v : Value) (bs : List UInt8) (w : World) (h : IsBytes w.cell? v bs) :
    Calls Try.prog 31 #[v] w fun e w' =>
      ∃ s : Value × (Nat → Prop), True ∧ e = .returned (.tuple #[s.1, .int .i64 (decL roundFaultL bs).2.1, .int .i64 (decL roundFaultL bs).2.2]) ∧ Res w [] [Keep s.2 (fun c => IsRound c s.1 (decL roundFaultL bs).1)] w' := by
  have hnil : ∀ {w w' : World} {m : Hp}, St w (feet []) m w' → Res w [] [Keep (feet []) (fun c => IsRound c (.slice none 0 0) [])] w' := fun hw' =>
    ((hw'.sub (List.nil_sublist _)).keep0 _ (fun c => ⟨[], ⟨none, 0, rfl, Nat.le_refl _, rfl, fun h => absurd h (Nat.lt_irrefl _)⟩, fun i hi => by simp at hi⟩)).res
  have h0 := h
  rw [← off_none w] at h h0
  obtain ⟨A0, k0, rfl, hk0, hl0, hc0⟩ := h
  refine enter0 (N := 38) Try.func31 rfl rfl rfl ?_
  refine e_seq ?_
  refine e_region ?_
  refine w_val (v_assign rfl) rfl ?_
  refine w_val (v_assign rfl) rfl ?_
  refine w_val (v_assign rfl) rfl ?_
  refine w_nil ?_
  refine e_seq ?_
  refine e_seq ?_
  refine e_region ?_
  refine w_val (v_move rfl) rfl ?_
  refine w_val (v_lenS Try.underlying58 rfl) rfl ?_
  refine w_val (v_lss rfl rfl) rfl ?_
  refine w_nil ?_
  refine e_condD rfl (fun h2 => ?_) (fun h2 => ?_)
  · refine e_seq ?_
    refine e_region ?_
    refine w_val (v_assign rfl) rfl ?_
    refine w_val (v_assign rfl) rfl ?_
    refine w_val (v_assign rfl) rfl ?_
    refine w_nil ?_
    refine e_retQ (q_ret3 rfl (.tmp rfl) (.tmp rfl) (.tmp rfl) ?_)
    exact fun w' hw' => ⟨(.slice none 0 0, feet []), trivial, by rw [decL, if_pos (by omega)], by rw [decL, if_pos (by omega)]; exact hnil hw'⟩
  · have h2' : ¬ bs.length < 2 := by omega
    obtain ⟨x, y, rest, rfl⟩ : ∃ x y rest, bs = x :: y :: rest := by
      match bs, h2' with
      | x :: y :: rest, _ => exact ⟨x, y, rest, rfl⟩
      | [], h => simp at h
      | [x], h => simp at h
    obtain ⟨ad, rfl, hcl⟩ := hc0 (by omega)
    have hx := x.toNat_lt
    have hy := y.toNat_lt
    have hc1 : off w (feet []) (ad.add (((0 : Int)).toNat * 1)) = some (.int .u8 (x.toNat : Int)) := hcl 0 _ (by simp [byteCells])
    have hc2 : off w (feet []) (ad.add (((1 : Int)).toNat * 1)) = some (.int .u8 (y.toNat : Int)) := hcl 1 _ (by simp [byteCells])
    have hlen : 1 < (x :: y :: rest).length := by simp
    have hH : headN (x :: y :: rest) = 2 + x.toNat + 256 * y.toNat := rfl
    generalize hbs : x :: y :: rest = bs at *
    refine e_skip ?_
    refine e_seq ?_
    refine e_draw ([]) Try.mixed ?_
    refine a_take 0 pan_cx (by kernel_rfl) (fun _ hw => hw.sub (by repeat (first | exact List.Sublist.slnil | exact List.Sublist.refl _ | apply List.Sublist.cons_cons | apply List.Sublist.cons))) rfl (by kernel_rfl) (by kernel_rfl) (v_move rfl) rfl ?_
    first | refine a_take 1 pan_cx (by kernel_rfl) (fun _ hw => hw.sub (by repeat (first | exact List.Sublist.slnil | exact List.Sublist.refl _ | apply List.Sublist.cons_cons | apply List.Sublist.cons))) rfl (by kernel_rfl) (by kernel_rfl) (v_indexSB Try.underlying58 Try.hi5 Try.cz5 rfl rfl (by first | omega | decide)) rfl ?_ | refine a_take 1 pan_cx (by kernel_rfl) (fun _ hw => hw.sub (by repeat (first | exact List.Sublist.slnil | exact List.Sublist.refl _ | apply List.Sublist.cons_cons | apply List.Sublist.cons))) rfl (by kernel_rfl) (by kernel_rfl) (v_indexS Try.underlying58 Try.hi5 Try.cz5 rfl rfl (by first | omega | decide)) rfl ?_
    first | refine a_take 2 pan_cx (by kernel_rfl) (fun _ hw => hw.sub (by repeat (first | exact List.Sublist.slnil | exact List.Sublist.refl _ | apply List.Sublist.cons_cons | apply List.Sublist.cons))) rfl (by kernel_rfl) (by kernel_rfl) (v_loadO Try.underlying5 rfl rfl (hc1)) rfl ?_ | refine a_take 2 pan_cx (by kernel_rfl) (fun _ hw => hw.sub (by repeat (first | exact List.Sublist.slnil | exact List.Sublist.refl _ | apply List.Sublist.cons_cons | apply List.Sublist.cons))) rfl (by kernel_rfl) (by kernel_rfl) (v_loadO Try.underlying5 rfl rfl (hc2)) rfl ?_ | refine a_take 2 pan_cx (by kernel_rfl) (fun _ hw => hw.sub (by repeat (first | exact List.Sublist.slnil | exact List.Sublist.refl _ | apply List.Sublist.cons_cons | apply List.Sublist.cons))) rfl (by kernel_rfl) (by kernel_rfl) (v_loadB 0 rfl Try.underlying5 rfl rfl rfl) rfl ?_ | refine a_take 2 pan_cx (by kernel_rfl) (fun _ hw => hw.sub (by repeat (first | exact List.Sublist.slnil | exact List.Sublist.refl _ | apply List.Sublist.cons_cons | apply List.Sublist.cons))) rfl (by kernel_rfl) (by kernel_rfl) (v_loadB 1 rfl Try.underlying5 rfl rfl rfl) rfl ?_ | refine a_take 2 pan_cx (by kernel_rfl) (fun _ hw => hw.sub (by repeat (first | exact List.Sublist.slnil | exact List.Sublist.refl _ | apply List.Sublist.cons_cons | apply List.Sublist.cons))) rfl (by kernel_rfl) (by kernel_rfl) (v_loadB 2 rfl Try.underlying5 rfl rfl rfl) rfl ?_ | refine a_take 2 pan_cx (by kernel_rfl) (fun _ hw => hw.sub (by repeat (first | exact List.Sublist.slnil | exact List.Sublist.refl _ | apply List.Sublist.cons_cons | apply List.Sublist.cons))) rfl (by kernel_rfl) (by kernel_rfl) (v_loadB 3 rfl Try.underlying5 rfl rfl rfl) rfl ?_ | refine a_take 2 pan_cx (by kernel_rfl) (fun _ hw => hw.sub (by repeat (first | exact List.Sublist.slnil | exact List.Sublist.refl _ | apply List.Sublist.cons_cons | apply List.Sublist.cons))) rfl (by kernel_rfl) (by kernel_rfl) (v_loadB 4 rfl Try.underlying5 rfl rfl rfl) rfl ?_ | refine a_take 2 pan_cx (by kernel_rfl) (fun _ hw => hw.sub (by repeat (first | exact List.Sublist.slnil | exact List.Sublist.refl _ | apply List.Sublist.cons_cons | apply List.Sublist.cons))) rfl (by kernel_rfl) (by kernel_rfl) (v_loadB 5 rfl Try.underlying5 rfl rfl rfl) rfl ?_ | refine a_take 2 pan_cx (by kernel_rfl) (fun _ hw => hw.sub (by repeat (first | exact List.Sublist.slnil | exact List.Sublist.refl _ | apply List.Sublist.cons_cons | apply List.Sublist.cons))) rfl (by kernel_rfl) (by kernel_rfl) (v_loadB 6 rfl Try.underlying5 rfl rfl rfl) rfl ?_ | refine a_take 2 pan_cx (by kernel_rfl) (fun _ hw => hw.sub (by repeat (first | exact List.Sublist.slnil | exact List.Sublist.refl _ | apply List.Sublist.cons_cons | apply List.Sublist.cons))) rfl (by kernel_rfl) (by kernel_rfl) (v_loadB 7 rfl Try.underlying5 rfl rfl rfl) rfl ?_
    refine a_take 3 pan_cx (by kernel_rfl) (fun _ hw => hw.sub (by repeat (first | exact List.Sublist.slnil | exact List.Sublist.refl _ | apply List.Sublist.cons_cons | apply List.Sublist.cons))) rfl (by kernel_rfl) (by kernel_rfl) (v_is (v' := .int .i64 (x.toNat : Int)) (v_conv Try.underlying3 (by rw [Try.underlying5]; rfl) rfl) (by rw [wrap_i64 (by omega) (by omega)])) rfl ?_
    first | refine a_take 4 pan_cx (by kernel_rfl) (fun _ hw => hw.sub (by repeat (first | exact List.Sublist.slnil | exact List.Sublist.refl _ | apply List.Sublist.cons_cons | apply List.Sublist.cons))) rfl (by kernel_rfl) (by kernel_rfl) (v_add rfl rfl (by omega)) rfl ?_ | refine a_take 4 pan_cx (by kernel_rfl) (fun _ hw => hw.sub (by repeat (first | exact List.Sublist.slnil | exact List.Sublist.refl _ | apply List.Sublist.cons_cons | apply List.Sublist.cons))) rfl (by kernel_rfl) (by kernel_rfl) (v_addw rfl rfl) rfl ?_
    refine a_take 5 pan_cx (by kernel_rfl) (fun _ hw => hw.sub (by repeat (first | exact List.Sublist.slnil | exact List.Sublist.refl _ | apply List.Sublist.cons_cons | apply List.Sublist.cons))) rfl (by kernel_rfl) (by kernel_rfl) (v_move rfl) rfl ?_
    first | refine a_take 6 pan_cx (by kernel_rfl) (fun _ hw => hw.sub (by repeat (first | exact List.Sublist.slnil | exact List.Sublist.refl _ | apply List.Sublist.cons_cons | apply List.Sublist.cons))) rfl (by kernel_rfl) (by kernel_rfl) (v_indexSB Try.underlying58 Try.hi5 Try.cz5 rfl rfl (by first | omega | decide)) rfl ?_ | refine a_take 6 pan_cx (by kernel_rfl) (fun _ hw => hw.sub (by repeat (first | exact List.Sublist.slnil | exact List.Sublist.refl _ | apply List.Sublist.cons_cons | apply List.Sublist.cons))) rfl (by kernel_rfl) (by kernel_rfl) (v_indexS Try.underlying58 Try.hi5 Try.cz5 rfl rfl (by first | omega | decide)) rfl ?_
    first | refine a_take 7 pan_cx (by kernel_rfl) (fun _ hw => hw.sub (by repeat (first | exact List.Sublist.slnil | exact List.Sublist.refl _ | apply List.Sublist.cons_cons | apply List.Sublist.cons))) rfl (by kernel_rfl) (by kernel_rfl) (v_loadO Try.underlying5 rfl rfl (hc1)) rfl ?_ | refine a_take 7 pan_cx (by kernel_rfl) (fun _ hw => hw.sub (by repeat (first | exact List.Sublist.slnil | exact List.Sublist.refl _ | apply List.Sublist.cons_cons | apply List.Sublist.cons))) rfl (by kernel_rfl) (by kernel_rfl) (v_loadO Try.underlying5 rfl rfl (hc2)) rfl ?_ | refine a_take 7 pan_cx (by kernel_rfl) (fun _ hw => hw.sub (by repeat (first | exact List.Sublist.slnil | exact List.Sublist.refl _ | apply List.Sublist.cons_cons | apply List.Sublist.cons))) rfl (by kernel_rfl) (by kernel_rfl) (v_loadB 0 rfl Try.underlying5 rfl rfl rfl) rfl ?_ | refine a_take 7 pan_cx (by kernel_rfl) (fun _ hw => hw.sub (by repeat (first | exact List.Sublist.slnil | exact List.Sublist.refl _ | apply List.Sublist.cons_cons | apply List.Sublist.cons))) rfl (by kernel_rfl) (by kernel_rfl) (v_loadB 1 rfl Try.underlying5 rfl rfl rfl) rfl ?_ | refine a_take 7 pan_cx (by kernel_rfl) (fun _ hw => hw.sub (by repeat (first | exact List.Sublist.slnil | exact List.Sublist.refl _ | apply List.Sublist.cons_cons | apply List.Sublist.cons))) rfl (by kernel_rfl) (by kernel_rfl) (v_loadB 2 rfl Try.underlying5 rfl rfl rfl) rfl ?_ | refine a_take 7 pan_cx (by kernel_rfl) (fun _ hw => hw.sub (by repeat (first | exact List.Sublist.slnil | exact List.Sublist.refl _ | apply List.Sublist.cons_cons | apply List.Sublist.cons))) rfl (by kernel_rfl) (by kernel_rfl) (v_loadB 3 rfl Try.underlying5 rfl rfl rfl) rfl ?_ | refine a_take 7 pan_cx (by kernel_rfl) (fun _ hw => hw.sub (by repeat (first | exact List.Sublist.slnil | exact List.Sublist.refl _ | apply List.Sublist.cons_cons | apply List.Sublist.cons))) rfl (by kernel_rfl) (by kernel_rfl) (v_loadB 4 rfl Try.underlying5 rfl rfl rfl) rfl ?_ | refine a_take 7 pan_cx (by kernel_rfl) (fun _ hw => hw.sub (by repeat (first | exact List.Sublist.slnil | exact List.Sublist.refl _ | apply List.Sublist.cons_cons | apply List.Sublist.cons))) rfl (by kernel_rfl) (by kernel_rfl) (v_loadB 5 rfl Try.underlying5 rfl rfl rfl) rfl ?_ | refine a_take 7 pan_cx (by kernel_rfl) (fun _ hw => hw.sub (by repeat (first | exact List.Sublist.slnil | exact List.Sublist.refl _ | apply List.Sublist.cons_cons | apply List.Sublist.cons))) rfl (by kernel_rfl) (by kernel_rfl) (v_loadB 6 rfl Try.underlying5 rfl rfl rfl) rfl ?_ | refine a_take 7 pan_cx (by kernel_rfl) (fun _ hw => hw.sub (by repeat (first | exact List.Sublist.slnil | exact List.Sublist.refl _ | apply List.Sublist.cons_cons | apply List.Sublist.cons))) rfl (by kernel_rfl) (by kernel_rfl) (v_loadB 7 rfl Try.underlying5 rfl rfl rfl) rfl ?_
    refine a_take 8 pan_cx (by kernel_rfl) (fun _ hw => hw.sub (by repeat (first | exact List.Sublist.slnil | exact List.Sublist.refl _ | apply List.Sublist.cons_cons | apply List.Sublist.cons))) rfl (by kernel_rfl) (by kernel_rfl) (v_is (v' := .int .i64 (y.toNat : Int)) (v_conv Try.underlying3 (by rw [Try.underlying5]; rfl) rfl) (by rw [wrap_i64 (by omega) (by omega)])) rfl ?_
    refine a_take 9 pan_cx (by kernel_rfl) (fun _ hw => hw.sub (by repeat (first | exact List.Sublist.slnil | exact List.Sublist.refl _ | apply List.Sublist.cons_cons | apply List.Sublist.cons))) rfl (by kernel_rfl) (by kernel_rfl) (v_is (v' := .int .i64 (256 * (y.toNat : Int))) (v_shl rfl rfl (by omega)) (by rw [show IntKind.i64.wrap ((y.toNat : Int) * 2 ^ min ((8 : Int)).toNat IntKind.i64.bits) = 256 * (y.toNat : Int) from by rw [show min ((8 : Int)).toNat IntKind.i64.bits = 8 from rfl, wrap_i64 (by omega) (by omega)]; omega])) rfl ?_
    refine a_take 10 pan_cx (by kernel_rfl) (fun _ hw => hw.sub (by repeat (first | exact List.Sublist.slnil | exact List.Sublist.refl _ | apply List.Sublist.cons_cons | apply List.Sublist.cons))) rfl (by kernel_rfl) (by kernel_rfl) (v_is (v' := .int .i64 (headN bs : Int)) (v_add rfl rfl (by omega)) (by rw [hH]; congr 1)) rfl ?_
    refine a_take 11 pan_cx (by kernel_rfl) (fun _ hw => hw.sub (by repeat (first | exact List.Sublist.slnil | exact List.Sublist.refl _ | apply List.Sublist.cons_cons | apply List.Sublist.cons))) rfl (by kernel_rfl) (by kernel_rfl) (v_assign rfl) rfl ?_
    refine a_done (by kernel_rfl) ?_
    refine e_seq ?_
    refine e_seq ?_
    refine e_region ?_
    refine w_val (v_move rfl) rfl ?_
    refine w_val (v_lenS Try.underlying58 rfl) rfl ?_
    refine w_val (v_move rfl) rfl ?_
    refine w_val (v_lss rfl rfl) rfl ?_
    refine w_nil ?_
    refine e_condD rfl (fun h3 => ?_) (fun h3 => ?_)
    · refine e_seq ?_
      refine e_region ?_
      refine w_val (v_assign rfl) rfl ?_
      refine w_val (v_assign rfl) rfl ?_
      refine w_val (v_assign rfl) rfl ?_
      refine w_nil ?_
      refine e_retQ (q_ret3 rfl (.tmp rfl) (.tmp rfl) (.tmp rfl) ?_)
      exact fun w' hw' => ⟨(.slice none 0 0, feet []), trivial, by rw [decL, if_neg h2', if_pos (by omega)], by rw [decL, if_neg h2', if_pos (by omega)]; exact hnil hw'⟩
    · have hle : headN bs ≤ bs.length := by omega
      have hsl := IsBytes.slice (lo := 2) (hi := headN bs) h0 (by omega) hle
      have hbody : (bs.drop 2).take (headN bs - 2) = (bs.take (headN bs)).drop 2 := by rw [List.drop_take]
      rw [hbody] at hsl
      have hD : decL roundFaultL bs = if (bodyL roundFaultL ((bs.take (headN bs)).drop 2)).2 ≠ 0 then ([], 0, (bodyL roundFaultL ((bs.take (headN bs)).drop 2)).2) else ((bodyL roundFaultL ((bs.take (headN bs)).drop 2)).1, (headN bs : Int), 0) := by
        rw [decL, if_neg h2', if_neg (by omega)]
      rw [hD]
      have hcall := fun (w1 : World) (hl : Le (off w (feet [])) w1.cell?) => codecBody_spec _ ((bs.take (headN bs)).drop 2) w1 (hsl.mono hl)
      generalize bodyL roundFaultL ((bs.take (headN bs)).drop 2) = B at *
      obtain ⟨r, c⟩ := B
      dsimp only at hcall ⊢
      refine e_skip ?_
      refine e_seq ?_
      refine e_region ?_
      refine w_val (v_move rfl) rfl ?_
      refine w_val (v_move rfl) rfl ?_
      refine w_val (v_sliceLH Try.underlying58 Try.hi5 Try.cz5 rfl rfl rfl (by omega)) rfl ?_
      refine w_op rfl ?_
      refine x_call (dst := some 30) (mc := []) (σ := Value × (Nat → Prop)) (fun _ => True) (fun s => .tuple #[s.1, .int .i64 c]) (fun s => [Keep s.2 (fun c => IsRound c s.1 r)]) rfl rfl rfl Try.call52 (fun w hw => hcall w hw.off) rfl (fun s _ => ?_)
      obtain ⟨sl, G⟩ := s
      dsimp only
      refine w_val (v_move rfl) rfl ?_
      refine w_val (v_extract rfl rfl) rfl ?_
      refine w_val (v_extract rfl rfl) rfl ?_
      refine w_val (v_assign rfl) rfl ?_
      refine w_val (v_assign rfl) rfl ?_
      refine w_nil ?_
      refine e_seq ?_
      refine e_seq ?_
      refine e_region ?_
      refine w_val (v_move rfl) rfl ?_
      refine w_val (v_neq rfl rfl) rfl ?_
      refine w_nil ?_
      refine e_condD rfl (fun hc => ?_) (fun hc => ?_)
      · refine e_seq ?_
        refine e_region ?_
        refine w_val (v_move rfl) rfl ?_
        refine w_val (v_assign rfl) rfl ?_
        refine w_val (v_assign rfl) rfl ?_
        refine w_val (v_assign rfl) rfl ?_
        refine w_nil ?_
        refine e_retQ (q_ret3 rfl (.tmp rfl) (.tmp rfl) (.tmp rfl) ?_)
        exact fun w' hw' => ⟨(.slice none 0 0, feet []), trivial, by rw [if_pos hc]; rfl, by rw [if_pos hc]; exact hnil hw'⟩
      · refine e_skip ?_
        refine e_seq ?_
        refine e_region ?_
        refine w_val (v_move rfl) rfl ?_
        refine w_val (v_move rfl) rfl ?_
        refine w_val (v_assign rfl) rfl ?_
        refine w_val (v_assign rfl) rfl ?_
        refine w_val (v_assign rfl) rfl ?_
        refine w_nil ?_
        refine e_retQ (q_ret3 rfl (.tmp rfl) (.tmp rfl) (.tmp rfl) ?_)
        exact fun w' hw' => ⟨(sl, G), trivial, by rw [if_neg hc]; rfl, by rw [if_neg hc]; exact hw'.res⟩
end Go.SL
