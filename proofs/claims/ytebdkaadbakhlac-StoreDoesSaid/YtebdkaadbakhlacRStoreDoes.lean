/- Ytebdkaadbakhlac: part RStoreDoes of this seat's own texts: WHATEVER THE INPUT, the law StoreDoes returns true and leaves what was there; no condition. -/
import Derived.Test.YtebdkaadbakhlacRows
import Derived.Test.YtebdkaadbakhlacY3
import Derived.Test.YtebdkaadbakhlacRow6
import Derived.Test.YtebdkaadbakhlacP4
set_option linter.unusedVariables false
set_option linter.unusedSimpArgs false

set_option maxRecDepth 100000
namespace Go.Proofs.Ytebdkaadbakhlac.storeDoes
open Go Go.Proofs Go.SL Go.ChangeShapes Go.WideShapes Go.ChangeAt Go.RowKit
theorem own : ownKnob Try.prog.godebug = none := by kernel_rfl
theorem laidOut : laidOutB Try.prog = true := by kernel_rfl
theorem walk {H : Type} (enc : TypeId × Value → H) (W : World) (base : Nat) (args : Array Value) (ds : List (DataW H)) (ha : args.size = 2) (hd : ds.length = 2)
    (ht : ∀ (j : Nat) t v d, Try.f10.params[j]? = some t → args[j]? = some v → ds[j]? = some d → Gives enc Try.prog W base t v d) :
    Calls Try.prog 10 args W fun e w' => e = .returned (.bool true) ∧ Res W [] [] w' := by
  obtain ⟨args⟩ := args
  match args, ds, ha, hd with
  | [v0, v1], [d0, d1], _, _ =>
    obtain ⟨l0, hd0, hw0, hl0, hm0, hi0⟩ := told_ssteps Try.underlying88 Try.underlying100 rfl rfl rfl rfl rfl Try.cz100 Try.underlying3 Try.cz3 Try.cz38 Try.cz51 Try.underlying51 Try.cz3 Try.underlying3 Try.underlying38 Try.cz25 Try.underlying25 Try.underlying118 rfl Try.underlying3 Try.underlying2 Try.cz3 Try.cz2 rfl Try.cz118 (by kernel_rfl) (ht 0 _ _ _ rfl rfl rfl)
    obtain ⟨n1, rfl, hn1⟩ := told_int Try.underlying3 (ht 1 _ _ _ rfl rfl rfl)
    exact StoreDoes_spec v0 l0 n1 W hd0 hw0 hl0 hm0
theorem lifted (os : Os) (started : os.Started) (H : Type) (enc : TypeId × Value → H) :
    ReturnsInHanded {} Try.checked os 10 .any (Rows.storeDoesSpec.pre6 enc Try.prog Try.f10 Rows.storeDoesRow.domain false) (Rows.storeDoesSpec.post enc Try.prog Try.f10 false true false false) := by
  refine returnsInHanded_of_change_sized (C := Try.checked) own started (by kernel_rfl) Try.func10
    (ChangeSpec.witness6 (enc := enc) (C := Try.checked) false ⟨#[], #[.slice none 0 0, .int .i64 0], []⟩ 8 (by kernel_rfl) (by kernel_rfl) (by kernel_rfl) (by kernel_rfl)) ?_
  intro W base args ds gs before hval hW _ hsz _
  exact law_contract laidOut (by kernel_rfl) rfl rfl Try.underlying4 (fun ds h => by match ds, h with | [_, _], _ => rfl) hval hW hsz (fun ha hd ht => walk enc W base args ds ha hd ht)
theorem proved : Rows.StoreDoesSaid :=
  OpenClaim.holds_of_wide 10 Try.f10 rfl rfl rfl rfl rfl rfl rfl ⟨rfl, rfl, rfl, rfl, rfl⟩ rfl rfl rfl rfl rfl (by kernel_rfl) Try.func10 (by kernel_rfl)
    (of_decide_eq_true (by kernel_rfl)) (by unfold Func.isWrapper; first | (rw [if_pos (by decide +kernel)]; kernel_rfl) | (rw [if_neg (by decide +kernel)]; exact ⟨rfl, rfl⟩))
    (fun os started H enc _ => lifted os started H enc)
end Go.Proofs.Ytebdkaadbakhlac.storeDoes

