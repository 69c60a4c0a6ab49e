/- Ytebdkaadbakhlac: part RRoundDoes of this seat's own texts: WHATEVER THE INPUT, the law RoundDoes returns true and leaves what was there; no condition. -/
import Derived.Test.YtebdkaadbakhlacRows
import Derived.Test.YtebdkaadbakhlacJ9
import Derived.Test.YtebdkaadbakhlacP6
import Derived.Test.YtebdkaadbakhlacP4
set_option linter.unusedVariables false
set_option linter.unusedSimpArgs false

set_option maxRecDepth 100000
namespace Go.Proofs.Ytebdkaadbakhlac.roundDoes
open Go Go.Proofs Go.SL Go.ChangeShapes Go.WideShapes Go.ChangeAt Go.RowKit
theorem own : ownKnob Try.prog.godebug = none := by kernel_rfl
theorem laidOut : laidOutB Try.prog = true := by kernel_rfl
theorem walk {H : Type} (enc : TypeId × Value → H) (W : World) (base : Nat) (args : Array Value) (ds : List (DataW H)) (ha : args.size = 4) (hd : ds.length = 4)
    (ht : ∀ (j : Nat) t v d, Try.f7.params[j]? = some t → args[j]? = some v → ds[j]? = some d → Gives enc Try.prog W base t v d) :
    Calls Try.prog 7 args W fun e w' => e = .returned (.bool true) ∧ Res W [] [] w' := by
  obtain ⟨args⟩ := args
  match args, ds, ha, hd with
  | [v0, v1, v2, v3], [d0, d1, d2, d3], _, _ =>
    obtain ⟨s0, rfl, hs0, hw0⟩ := told_ints Try.underlying23 Try.underlying2 Try.cz2 Try.cz23 (ht 0 _ _ _ rfl rfl rfl)
    obtain ⟨r1, hd1, hw1, hl1⟩ := told_round Try.underlying38 Try.cz25 Try.underlying25 Try.underlying118 rfl Try.underlying3 Try.underlying2 Try.cz3 Try.cz2 rfl Try.cz118 (by kernel_rfl) (ht 1 _ _ _ rfl rfl rfl)
    obtain ⟨p2, hd2, hw2, hl2⟩ := told_intS Try.underlying51 Try.underlying3 Try.cz3 (by kernel_rfl) (ht 2 _ _ _ rfl rfl rfl)
    obtain ⟨n3, rfl, hn3⟩ := told_int Try.underlying3 (ht 3 _ _ _ rfl rfl rfl)
    exact RoundDoes_spec s0 v1 v2 r1 p2 n3 W hd1 hl1 hs0 hd2
theorem lifted (os : Os) (started : os.Started) (H : Type) (enc : TypeId × Value → H) :
    ReturnsInHanded {} Try.checked os 7 .any (Rows.roundDoesSpec.pre6 enc Try.prog Try.f7 Rows.roundDoesRow.domain false) (Rows.roundDoesSpec.post enc Try.prog Try.f7 false true false false) := by
  refine returnsInHanded_of_change_sized (C := Try.checked) own started (by kernel_rfl) Try.func7
    (ChangeSpec.witness6 (enc := enc) (C := Try.checked) false ⟨#[], #[intsV [0, 0, 0, 0, 0, 0, 0, 0, 0, 0], .slice none 0 0, .slice none 0 0, .int .i64 0], []⟩ 8 (by kernel_rfl) (by kernel_rfl) (by kernel_rfl) (by kernel_rfl)) ?_
  intro W base args ds gs before hval hW _ hsz _
  exact law_contract laidOut (by kernel_rfl) rfl rfl Try.underlying4 (fun ds h => by match ds, h with | [_, _, _, _], _ => rfl) hval hW hsz (fun ha hd ht => walk enc W base args ds ha hd ht)
theorem proved : Rows.RoundDoesSaid :=
  OpenClaim.holds_of_wide 7 Try.f7 rfl rfl rfl rfl rfl rfl rfl ⟨rfl, rfl, rfl, rfl, rfl⟩ rfl rfl rfl rfl rfl (by kernel_rfl) Try.func7 (by kernel_rfl)
    (of_decide_eq_true (by kernel_rfl)) (by unfold Func.isWrapper; first | (rw [if_pos (by decide +kernel)]; kernel_rfl) | (rw [if_neg (by decide +kernel)]; exact ⟨rfl, rfl⟩))
    (fun os started H enc _ => lifted os started H enc)
end Go.Proofs.Ytebdkaadbakhlac.roundDoes

