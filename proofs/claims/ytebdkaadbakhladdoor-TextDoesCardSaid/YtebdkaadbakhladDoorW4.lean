/- YtebdkaadbakhladDoor: part W4 of this seat's own texts. -/
import Derived.Tactics
import Derived.Tactics2
import Derived.Laws.Pointers
import Derived.Test.YtebdkaadbakhladDoorW3
import Derived.Test.YtebdkaadbakhladDoorP2
set_option linter.unusedVariables false
set_option linter.unusedSimpArgs false
section

open Go Go.Proofs Go.SL
set_option maxRecDepth 100000
namespace Go.SL
-- left out: caracole/codec.body$1
-- left out: caracole/codec.body$1, codec.gone
-- left out: (*caracole/codec.reader).round, caracole/code.Round, caracole/codec.body, caracole/codec.body$1
end Go.SL
end
section

open Go Go.Proofs Go.SL
set_option maxRecDepth 100000
namespace Go.SL
-- left out: caracole/codec.Decode, caracole/codec.body
end Go.SL
end
section

open Go Go.Proofs Go.SL
set_option maxRecDepth 100000
namespace Go.SL
-- left out: caracole/caracoleref.SameBytes
theorem sameDeed_spec (v1 v2 : Value) (a b : DeedL) (w : World) (h1 : IsDeed w.cell? v1 a) (h2 : IsDeed w.cell? v2 b) (hmax : a.length ≤ 4398046511104) :
    Calls Tryd.prog 13 #[v1, v2] w fun e w' => e = .returned (.bool (decide (a = b))) ∧ Res w [] [] w' := by
  rw [← off_none w] at h1 h2
  obtain ⟨A1, k1, rfl, hle1, hc1⟩ := h1.form
  obtain ⟨A2, k2, rfl, hle2, hc2⟩ := h2.form
  refine enter0 (N := 26) Tryd.func13 rfl rfl rfl ?_
  refine esr ?_
  refine wa rfl rfl ?_
  refine w_nil ?_
  refine e_seq ?_
  refine esr ?_
  refine wm rfl rfl ?_
  refine w_val (v_lenS Tryd.underlying23 rfl) rfl ?_
  refine wm rfl rfl ?_
  refine w_val (v_lenS Tryd.underlying23 rfl) rfl ?_
  refine w_val (v_neq rfl rfl) rfl ?_
  refine w_nil ?_
  refine e_condD rfl (fun hl => ?_) (fun hl => ?_)
  · refine esr ?_
    refine wa rfl rfl ?_
    refine w_nil ?_
    refine e_retQ (q_ret1 rfl (.tmp rfl) ?_)
    exact fun w' hw' => ⟨by rw [decide_eq_false (fun h => hl (by rw [h]))], hw'.res.nil⟩
  · have hl' : a.length = b.length := by omega
    refine e_skip ?_
    refine e_seq ?_
    refine esr ?_
    refine wa rfl rfl ?_
    refine w_nil ?_
    refine e_block ?_
    refine e_loopK (σ := Nat) [0, 1] (.cons rfl (.cons rfl .nil)) (fun k => [(5, .int .i64 k)]) (fun k => k ≤ a.length ∧ a.take k = b.take k) (fun k => a.length - k) 0 ⟨by omega, rfl⟩ (by repeat (first | exact Sub.nil _ | refine Sub.cons rfl ?_)) ?_
    rintro k ⟨hk, hsame⟩
    refine e_seq ?_
    refine esr ?_
    refine wm rfl rfl ?_
    refine wm rfl rfl ?_
    refine w_val (v_lenS Tryd.underlying23 rfl) rfl ?_
    refine w_val (v_lss rfl rfl) rfl ?_
    refine w_nil ?_
    refine e_condD rfl (fun hlt => ?_) (fun hlt => ?_)
    · have hlt' : k < a.length := by omega
      obtain ⟨ad1, rfl, hop1⟩ := IsDeed.cells hc1 hlt'
      obtain ⟨ad2, rfl, hop2⟩ := IsDeed.cells hc2 (show k < b.length by omega)
      have ht1 : a.take (k + 1) = a.take k ++ [a[k]] := List.take_succ_eq_append_getElem hlt'
      have ht2 : b.take (k + 1) = b.take k ++ [b[k]'(by omega)] := List.take_succ_eq_append_getElem (by omega)
      have hne : a[k] ≠ b[k]'(by omega) → a ≠ b := fun h he => h (by subst he; rfl)
      generalize a[k] = x1 at *
      generalize (b[k]'(by omega)) = x2 at *
      refine e_skip ?_
      refine e_seq ?_
      refine e_block ?_
      refine e_seq ?_
      refine e_draw ([]) Tryd.mixed ?_
      refine tk 0 rfl (v_move rfl) rfl ?_
      refine tk 1 rfl (v_move rfl) rfl ?_
      refine tk 2 rfl (v_indexS Tryd.underlying23 Tryd.hi41 Tryd.cz41 rfl rfl (by first | omega | decide)) rfl ?_
      refine tk 3 rfl (v_loadON Tryd.underlying41 rfl Tryd.hi41 rfl (hop1) Tryd.cz41) rfl ?_
      refine tk 4 rfl (v_move rfl) rfl ?_
      refine tk 5 rfl (v_move rfl) rfl ?_
      refine tk 6 rfl (v_indexS Tryd.underlying23 Tryd.hi41 Tryd.cz41 rfl rfl (by first | omega | decide)) rfl ?_
      refine tk 7 rfl (v_loadON Tryd.underlying41 rfl Tryd.hi41 rfl (hop2) Tryd.cz41) rfl ?_
      refine tk 8 rfl (v_neqOp (ti := 3) (tn := 2) Tryd.underlying41 (by kernel_rfl) (by kernel_rfl) (by kernel_rfl) rfl rfl rfl rfl rfl Tryd.underlying3 Tryd.underlying2 rfl rfl) rfl ?_
      refine td ?_
      refine e_condD rfl (fun hd => ?_) (fun hd => ?_)
      · refine esr ?_
        refine wa rfl rfl ?_
        refine w_nil ?_
        refine e_retQ (q_ret1 rfl (.tmp rfl) ?_)
        exact fun w' hw' => ⟨by rw [decide_eq_false (hne hd)], hw'.res.nil⟩
      · refine e_skip ?_
        refine e_blk ?_
        refine e_region ?_
        refine wm rfl rfl ?_
        refine w_val (v_add rfl rfl (by omega)) rfl ?_
        refine wa rfl rfl ?_
        refine w_nil ?_
        exact e_round (k + 1) (⟨by omega, by rw [ht1, ht2, hsame]; simp only [Decidable.not_not] at hd; rw [hd]⟩) (by omega) (by repeat (first | exact Sub.nil _ | refine Sub.cons rfl ?_)) (fun _ hw => hw)
    · have hab : a = b := by
        have e : k = a.length := by omega
        rw [e, List.take_length, hl', List.take_length] at hsame
        exact hsame
      refine e_exit rfl ?_
      refine esr ?_
      refine wa rfl rfl ?_
      refine w_nil ?_
      refine e_retQ (q_ret1 rfl (.tmp rfl) ?_)
      exact fun w' hw' => ⟨by rw [decide_eq_true hab], hw'.res.nil⟩
-- left out: caracole/caracoleref.SameRound
end Go.SL
end
