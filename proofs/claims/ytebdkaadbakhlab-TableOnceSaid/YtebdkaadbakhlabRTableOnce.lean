/- Ytebdkaadbakhlab: part RTableOnce of this seat's own texts: WHATEVER THE INPUT, the law TableOnce returns true and leaves what was there; no condition. -/
import Derived.Test.YtebdkaadbakhlabRows
import Derived.Test.YtebdkaadbakhlabBA
import Derived.Test.YtebdkaadbakhlabP6
import Derived.Test.YtebdkaadbakhlabP4
set_option linter.unusedVariables false
set_option linter.unusedSimpArgs false
set_option maxRecDepth 100000
namespace Go.Proofs.Ytebdkaadbakhlab.tableOnce
open Go Go.Proofs Go.SL Go.ChangeShapes Go.WideShapes Go.ChangeAt Go.RowKit
theorem own : ownKnob Try.prog.godebug = none := by kernel_rfl
theorem laidOut : laidOutB Try.prog = true := by kernel_rfl
theorem walk {H : Type} (enc : TypeId × Value → H) (W : World) (base : Nat) (args : Array Value) (ds : List (DataW H)) (ha : args.size = 5) (hd : ds.length = 5)
    (ht : ∀ (j : Nat) t v d, Try.f9.params[j]? = some t → args[j]? = some v → ds[j]? = some d → Gives enc Try.prog W base t v d) :
    Calls Try.prog 9 args W fun e w' => e = .returned (.bool true) ∧ Res W [] [] w' := by
  obtain ⟨args⟩ := args
  match args, ds, ha, hd with
  | [v0, v1, v2, v3, v4], [d0, d1, d2, d3, d4], _, _ =>
    obtain ⟨s0, rfl, hs0, hw0⟩ := told_ints Try.underlying70 Try.underlying2 Try.cz2 Try.cz70 (ht 0 _ _ _ rfl rfl rfl)
    obtain ⟨r1, hd1, hw1, hl1⟩ := told_round Try.underlying34 Try.cz52 Try.underlying52 Try.underlying61 rfl Try.underlying3 Try.underlying2 Try.cz3 Try.cz2 rfl Try.cz61 (by kernel_rfl) (ht 1 _ _ _ rfl rfl rfl)
    obtain ⟨l2, hd2⟩ := told_tst Try.underlying71 Try.underlying81 rfl Try.underlying3 Try.underlying2 Try.cz3 Try.cz2 rfl Try.cz81 (ht 2 _ _ _ rfl rfl rfl)
    obtain ⟨n3, rfl, hn3⟩ := told_int Try.underlying3 (ht 3 _ _ _ rfl rfl rfl)
    obtain ⟨n4, rfl, hn4⟩ := told_int Try.underlying3 (ht 4 _ _ _ rfl rfl rfl)
    exact TableOnce_spec s0 v1 v2 r1 l2 n3 n4 W hd1 hl1 hs0 hd2
theorem lifted (os : Os) (started : os.Started) (H : Type) (enc : TypeId × Value → H) :
    ReturnsInHanded {} Try.checked os 9 .any (Rows.tableOnceSpec.pre6 enc Try.prog Try.f9 Rows.tableOnceRow.domain false) (Rows.tableOnceSpec.post enc Try.prog Try.f9 false true false false) := by
  refine returnsInHanded_of_change_sized (C := Try.checked) own started (by kernel_rfl) Try.func9
    (ChangeSpec.witness6 (enc := enc) (C := Try.checked) false ⟨#[], #[intsV [0, 0, 0, 0, 0, 0, 0, 0, 0, 0], .slice none 0 0, .slice none 0 0, .int .i64 0, .int .i64 0], []⟩ 8 (by kernel_rfl) (by kernel_rfl) (by kernel_rfl) (by kernel_rfl)) ?_
  intro W base args ds gs before hval hW _ hsz _
  exact law_contract laidOut (by kernel_rfl) rfl rfl Try.underlying4 (fun ds h => by match ds, h with | [_, _, _, _, _], _ => rfl) hval hW hsz (fun ha hd ht => walk enc W base args ds ha hd ht)
theorem proved : Rows.TableOnceSaid :=
  OpenClaim.holds_of_wide 9 Try.f9 rfl rfl rfl rfl rfl rfl rfl ⟨rfl, rfl, rfl, rfl, rfl⟩ rfl rfl rfl rfl rfl (by kernel_rfl) Try.func9 (by kernel_rfl)
    (of_decide_eq_true (by kernel_rfl)) (by unfold Func.isWrapper; first | (rw [if_pos (by decide +kernel)]; kernel_rfl) | (rw [if_neg (by decide +kernel)]; exact ⟨rfl, rfl⟩))
    (fun os started H enc _ => lifted os started H enc)
end Go.Proofs.Ytebdkaadbakhlab.tableOnce

