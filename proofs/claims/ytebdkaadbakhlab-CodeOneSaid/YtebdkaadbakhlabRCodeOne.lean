/- Ytebdkaadbakhlab: part RCodeOne of this seat's own texts: WHATEVER THE INPUT, the law CodeOne returns true and leaves what was there; no condition. -/
import Derived.Test.YtebdkaadbakhlabRows
import Derived.Test.YtebdkaadbakhlabK7
import Derived.Test.YtebdkaadbakhlabP4
set_option linter.unusedVariables false
set_option linter.unusedSimpArgs false
set_option maxRecDepth 100000
namespace Go.Proofs.Ytebdkaadbakhlab.codeOne
open Go Go.Proofs Go.SL Go.ChangeShapes Go.WideShapes Go.ChangeAt Go.RowKit
theorem own : ownKnob Try.prog.godebug = none := by kernel_rfl
theorem laidOut : laidOutB Try.prog = true := by kernel_rfl
theorem walk {H : Type} (enc : TypeId × Value → H) (W : World) (base : Nat) (args : Array Value) (ds : List (DataW H)) (ha : args.size = 2) (hd : ds.length = 2)
    (ht : ∀ (j : Nat) t v d, Try.f6.params[j]? = some t → args[j]? = some v → ds[j]? = some d → Gives enc Try.prog W base t v d) :
    Calls Try.prog 6 args W fun e w' => e = .returned (.bool true) ∧ Res W [] [] w' := by
  obtain ⟨args⟩ := args
  match args, ds, ha, hd with
  | [v0, v1], [d0, d1], _, _ =>
    obtain ⟨r0, hd0, hw0, hl0⟩ := told_round Try.underlying34 Try.cz52 Try.underlying52 Try.underlying61 rfl Try.underlying3 Try.underlying2 Try.cz3 Try.cz2 rfl Try.cz61 (by kernel_rfl) (ht 0 _ _ _ rfl rfl rfl)
    obtain ⟨n1, rfl, hn1⟩ := told_int Try.underlying3 (ht 1 _ _ _ rfl rfl rfl)
    exact CodeOne_spec v0 r0 n1 W hd0 hl0
theorem lifted (os : Os) (started : os.Started) (H : Type) (enc : TypeId × Value → H) :
    ReturnsInHanded {} Try.checked os 6 .any (Rows.codeOneSpec.pre6 enc Try.prog Try.f6 Rows.codeOneRow.domain false) (Rows.codeOneSpec.post enc Try.prog Try.f6 false true false false) := by
  refine returnsInHanded_of_change_sized (C := Try.checked) own started (by kernel_rfl) Try.func6
    (ChangeSpec.witness6 (enc := enc) (C := Try.checked) false ⟨#[], #[.slice none 0 0, .int .i64 0], []⟩ 8 (by kernel_rfl) (by kernel_rfl) (by kernel_rfl) (by kernel_rfl)) ?_
  intro W base args ds gs before hval hW _ hsz _
  exact law_contract laidOut (by kernel_rfl) rfl rfl Try.underlying4 (fun ds h => by match ds, h with | [_, _], _ => rfl) hval hW hsz (fun ha hd ht => walk enc W base args ds ha hd ht)
theorem proved : Rows.CodeOneSaid :=
  OpenClaim.holds_of_wide 6 Try.f6 rfl rfl rfl rfl rfl rfl rfl ⟨rfl, rfl, rfl, rfl, rfl⟩ rfl rfl rfl rfl rfl (by kernel_rfl) Try.func6 (by kernel_rfl)
    (of_decide_eq_true (by kernel_rfl)) (by unfold Func.isWrapper; first | (rw [if_pos (by decide +kernel)]; kernel_rfl) | (rw [if_neg (by decide +kernel)]; exact ⟨rfl, rfl⟩))
    (fun os started H enc _ => lifted os started H enc)
end Go.Proofs.Ytebdkaadbakhlab.codeOne

