/- Ytebdkaadbakhlac: part RStoreStays of this seat's own texts: WHATEVER THE INPUT, the law StoreStays returns true and leaves what was there; no condition. -/
import Derived.Test.YtebdkaadbakhlacRows
import Derived.Test.YtebdkaadbakhlacMB
import Derived.Test.YtebdkaadbakhlacRow6
import Derived.Test.YtebdkaadbakhlacP4
set_option linter.unusedVariables false
set_option linter.unusedSimpArgs false

set_option maxRecDepth 100000
namespace Go.Proofs.Ytebdkaadbakhlac.storeStays
open Go Go.Proofs Go.SL Go.ChangeShapes Go.WideShapes Go.ChangeAt Go.RowKit
theorem own : ownKnob Try.prog.godebug = none := by kernel_rfl
theorem laidOut : laidOutB Try.prog = true := by kernel_rfl
theorem walk {H : Type} (enc : TypeId × Value → H) (W : World) (base : Nat) (args : Array Value) (ds : List (DataW H)) (ha : args.size = 1) (hd : ds.length = 1)
    (ht : ∀ (j : Nat) t v d, Try.f14.params[j]? = some t → args[j]? = some v → ds[j]? = some d → Gives enc Try.prog W base t v d) :
    Calls Try.prog 14 args W fun e w' => e = .returned (.bool true) ∧ Res W [] [] w' := by
  obtain ⟨args⟩ := args
  match args, ds, ha, hd with
  | [v0], [d0], _, _ =>
    obtain ⟨l0, hd0, hw0, hl0, hm0, hi0⟩ := told_ssteps Try.underlying88 Try.underlying100 rfl rfl rfl rfl rfl Try.cz100 Try.underlying3 Try.cz3 Try.cz38 Try.cz51 Try.underlying51 Try.cz3 Try.underlying3 Try.underlying38 Try.cz25 Try.underlying25 Try.underlying118 rfl Try.underlying3 Try.underlying2 Try.cz3 Try.cz2 rfl Try.cz118 (by kernel_rfl) (ht 0 _ _ _ rfl rfl rfl)
    exact StoreStays_spec v0 l0 W hd0 hw0 hl0 hm0
theorem lifted (os : Os) (started : os.Started) (H : Type) (enc : TypeId × Value → H) :
    ReturnsInHanded {} Try.checked os 14 .any (Rows.storeStaysSpec.pre6 enc Try.prog Try.f14 Rows.storeStaysRow.domain false) (Rows.storeStaysSpec.post enc Try.prog Try.f14 false true false false) := by
  refine returnsInHanded_of_change_sized (C := Try.checked) own started (by kernel_rfl) Try.func14
    (ChangeSpec.witness6 (enc := enc) (C := Try.checked) false ⟨#[], #[.slice none 0 0], []⟩ 8 (by kernel_rfl) (by kernel_rfl) (by kernel_rfl) (by kernel_rfl)) ?_
  intro W base args ds gs before hval hW _ hsz _
  exact law_contract laidOut (by kernel_rfl) rfl rfl Try.underlying4 (fun ds h => by match ds, h with | [_], _ => rfl) hval hW hsz (fun ha hd ht => walk enc W base args ds ha hd ht)
theorem proved : Rows.StoreStaysSaid :=
  OpenClaim.holds_of_wide 14 Try.f14 rfl rfl rfl rfl rfl rfl rfl ⟨rfl, rfl, rfl, rfl, rfl⟩ rfl rfl rfl rfl rfl (by kernel_rfl) Try.func14 (by kernel_rfl)
    (of_decide_eq_true (by kernel_rfl)) (by unfold Func.isWrapper; first | (rw [if_pos (by decide +kernel)]; kernel_rfl) | (rw [if_neg (by decide +kernel)]; exact ⟨rfl, rfl⟩))
    (fun os started H enc _ => lifted os started H enc)
end Go.Proofs.Ytebdkaadbakhlac.storeStays

