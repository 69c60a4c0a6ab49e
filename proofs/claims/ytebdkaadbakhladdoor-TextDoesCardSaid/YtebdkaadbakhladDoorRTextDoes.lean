/- YtebdkaadbakhladDoor: part RTextDoes of this seat's own texts: WHATEVER THE INPUT, the law TextDoes returns true and leaves what was there; no condition. -/
import Derived.Test.YtebdkaadbakhladDoorReE
import Derived.Test.YtebdkaadbakhladDoorLdN
import Derived.Test.YtebdkaadbakhladDoorZ6
set_option linter.unusedVariables false
set_option linter.unusedSimpArgs false

set_option maxRecDepth 100000
namespace Go.Proofs.YtebdkaadbakhladDoor.textDoes
open Go Go.Proofs Go.SL Go.ChangeShapes Go.WideShapes Go.ChangeAt Go.RowKit
theorem own : ownKnob Tryd.prog.godebug = none := by kernel_rfl
theorem laidOut : laidOutB Tryd.prog = true := by kernel_rfl
theorem walk {H : Type} (enc : TypeId × Value → H) (W : World) (base : Nat) (args : Array Value) (ds : List (DataW H)) (hL : LaidD W) (hN : NamesV W.cell?) (ha : args.size = 2) (hd : ds.length = 2)
    (ht : ∀ (j : Nat) t v d, Tryd.f3.params[j]? = some t → args[j]? = some v → ds[j]? = some d → Gives enc Tryd.prog W base t v d) :
    Calls Tryd.prog 3 args W fun e w' => e = .returned (.bool true) ∧ Res W [] [] w' := by
  obtain ⟨args⟩ := args
  match args, ds, ha, hd with
  | [v0, v1], [d0, d1], _, _ =>
    obtain ⟨r0, hd0, hw0, hl0⟩ := told_deed Tryd.underlying23 Tryd.underlying41 rfl Tryd.underlying3 Tryd.underlying2 Tryd.cz3 Tryd.cz2 rfl Tryd.cz41 (by kernel_rfl) (ht 0 _ _ _ rfl rfl rfl)
    obtain ⟨b1, rfl⟩ := told_str Tryd.underlying9 (ht 1 _ _ _ rfl rfl rfl)
    exact TextDoes_spec v0 r0 b1 W hd0 hw0 hL hN
theorem met (os : Os) (args : Array Value) : laidMetH Tryd.prog Rows.textDoesRow.laid ((World.laidAll Tryd.prog os Rows.textDoesRow.laid).forCall (fun _ _ => 0) ⟨#[], args, []⟩).memory := by
  rw [MakeChecks.laidMetH_plain _ _ _ (by kernel_rfl)]; exact laidMet_laidAll _ (by kernel_rfl) (by kernel_rfl)
theorem lifted (os : Os) (started : os.Started) (H : Type) (enc : TypeId × Value → H) :
    ReturnsInHanded {} Tryd.checked os 3 .any (fun w args => (Rows.textDoesSpec.pre enc Tryd.prog Tryd.f3 [] false w args ∧ laidMetH Tryd.prog Rows.textDoesRow.laid w) ∧ sizedMet enc Tryd.prog Tryd.f3 (OpenSpec.ofChange Rows.textDoesSpec) false w args) (Rows.textDoesSpec.post enc Tryd.prog Tryd.f3 false true false false) := by
  refine handed_laid (C := Tryd.checked) (X := fun w _ => laidMetH Tryd.prog Rows.textDoesRow.laid w) (fun _ _ _ hh h => h.of_heap hh) own started (by kernel_rfl) Tryd.func3
    (ChangeSpec.witness_shaped (enc := enc) (C := Tryd.checked) (os := os) (X := fun w _ => laidMetH Tryd.prog Rows.textDoesRow.laid w) false (World.laidAll Tryd.prog os Rows.textDoesRow.laid) #[.slice none 0 0, .string ⟨#[]⟩] 8 (World.laidAll_os _ _ _) (World.shaped_of_ZipB (by kernel_rfl) (by kernel_rfl)) (by kernel_rfl) (by kernel_rfl) (by kernel_rfl) (met os _)) ?_
  intro W base args ds gs before hval hW hsz hX hS
  rw [MakeChecks.laidMetH_plain _ _ _ (by kernel_rfl)] at hX
  have hL : LaidD W := laid_of hX hS
  have hN : NamesV W.cell? := names_of hX
  exact law_contract laidOut (by kernel_rfl) rfl rfl Tryd.underlying4 (fun ds h => by match ds, h with | [_, _], _ => rfl) hval hW hsz (fun ha hd ht => walk enc W base args ds hL hN ha hd ht)
theorem said : Rows.TextDoesSaid :=
  OpenClaim.holds_of_wide 3 Tryd.f3 rfl rfl rfl rfl rfl rfl rfl ⟨rfl, rfl, rfl, rfl, rfl⟩ rfl rfl rfl rfl rfl (by kernel_rfl) Tryd.func3 (by kernel_rfl)
    (of_decide_eq_true (by kernel_rfl)) (by unfold Func.isWrapper; first | (rw [if_pos (by decide +kernel)]; kernel_rfl) | (rw [if_neg (by decide +kernel)]; exact ⟨rfl, rfl⟩))
    (fun os started H enc _ => lifted os started H enc)
theorem proved : Rows.TextDoesCardSaid :=
  Claim7.holds_tied_plain_at .later [] [.data, .data, .data, .data, .sentinel, .sentinel, .data, .data, .pinned] true (true, "02cdc2d134e56c926f076c66a20adb87045e848e8af060daeb75c888152bc2fb") true
    said (fun _ h => by cases h) (by kernel_rfl) (fun _ h => by cases h) textDoes_row_tie rfl ⟨rfl, rfl⟩ (by kernel_rfl) rfl
    (fun f fn hf hfn => by
      obtain rfl : f = 3 := Option.some.inj ((show Tryd.prog.funcNamed "caracole/caracolelaw.TextDoes" = some 3 by kernel_rfl).symm.trans hf) |>.symm
      obtain rfl : fn = Tryd.f3 := (Option.some.inj (Tryd.func3.symm.trans hfn)).symm
      exact ⟨by kernel_rfl, fun j t ht => by
        rw [Tryd.params3] at ht
        have hm : t ∈ [23, 9] := by simpa using Array.mem_of_getElem? ht
        have hall : ([23, 9].all fun u => !Tryd.prog.wantsStandIn u) = true := by kernel_rfl
        exact (show Tryd.prog.wantsStandIn t = false by simpa using List.all_eq_true.1 hall t hm)⟩)
    (by kernel_rfl)
end Go.Proofs.YtebdkaadbakhladDoor.textDoes

