/- YtebdkaadbakhlaaGreatDoor: part RDeskDoes of this seat's own texts: WHATEVER THE INPUT, the law DeskDoes returns true and leaves what was there; no condition. -/
import Derived.Test.YtebdkaadbakhlaaGreatDoorRF2
import Derived.Test.YtebdkaadbakhlaaGreatDoorZ6
set_option linter.unusedVariables false
set_option linter.unusedSimpArgs false
set_option maxRecDepth 100000
namespace Go.Proofs.YtebdkaadbakhlaaGreatDoor.deskDoes
open Go Go.Proofs Go.SL Go.ChangeShapes Go.WideShapes Go.ChangeAt Go.RowKit
theorem own : ownKnob Tryz.prog.godebug = none := by kernel_rfl
theorem laidOut : laidOutB Tryz.prog = true := by kernel_rfl
theorem walk {H : Type} (enc : TypeId × Value → H) (W : World) (base : Nat) (args : Array Value) (ds : List (DataW H)) (hL : LaidD W) (hN : NamesV W.cell?) (ha : args.size = 2) (hd : ds.length = 2)
  (ht : ∀ (j : Nat) t v d, Tryz.f3.params[j]? = some t → args[j]? = some v → ds[j]? = some d → Gives enc Tryz.prog W base t v d) :
  Calls Tryz.prog 3 args W fun e w' => e = .returned (.bool true) ∧ Res W [] [] w' := by
 obtain ⟨args⟩ := args
 match args, ds, ha, hd with
 | [v0, v1], [d0, d1], _, _ =>
  obtain ⟨l0, hd0, hl0⟩ := told_strs uT22 uT9 Tryz.cz9 (ht 0 _ _ _ rfl rfl rfl)
  obtain ⟨l1, hd1, hl1⟩ := told_strs uT22 uT9 Tryz.cz9 (ht 1 _ _ _ rfl rfl rfl)
  exact DeskDoes_spec v0 v1 l0 l1 W hd0 hd1 hl0 hl1 (hL.lf (.inr (by decide))) hN
theorem met (os : Os) (args : Array Value) : laidMetH Tryz.prog Rows.deskDoesRow.laid ((World.laidAll Tryz.prog os Rows.deskDoesRow.laid).forCall (fun _ _ => 0) ⟨#[], args, []⟩).memory := by
 rw [MakeChecks.laidMetH_plain _ _ _ (by kernel_rfl)]; exact laidMet_laidAll _ (by kernel_rfl) (by kernel_rfl)
theorem lifted (os : Os) (started : os.Started) (H : Type) (enc : TypeId × Value → H) :
  ReturnsInHanded {} Tryz.checked os 3 .any (fun w args => (Rows.deskDoesSpec.pre enc Tryz.prog Tryz.f3 [] false w args ∧ laidMetH Tryz.prog Rows.deskDoesRow.laid w) ∧ sizedMet enc Tryz.prog Tryz.f3 (OpenSpec.ofChange Rows.deskDoesSpec) false w args) (Rows.deskDoesSpec.post enc Tryz.prog Tryz.f3 false true false false) := by
 refine handed_laid (C := Tryz.checked) (X := fun w _ => laidMetH Tryz.prog Rows.deskDoesRow.laid w) (fun _ _ _ hh h => h.of_heap hh) own started (by kernel_rfl) Tryz.func3
  (ChangeSpec.witness_shaped (enc := enc) (C := Tryz.checked) (os := os) (X := fun w _ => laidMetH Tryz.prog Rows.deskDoesRow.laid w) false (World.laidAll Tryz.prog os Rows.deskDoesRow.laid) #[.slice none 0 0, .slice none 0 0] 8 (World.laidAll_os _ _ _) (World.shaped_of_ZipB (by kernel_rfl) (by kernel_rfl)) (by kernel_rfl) (by kernel_rfl) (by kernel_rfl) (met os _)) ?_
 intro W base args ds gs before hval hW hsz hX hS
 rw [MakeChecks.laidMetH_plain _ _ _ (by kernel_rfl)] at hX
 have hL : LaidD W := laid_of hX hS
 have hN : NamesV W.cell? := names_of hX
 exact law_contract laidOut (by kernel_rfl) rfl rfl uT4 (fun ds h => by match ds, h with | [_, _], _ => rfl) hval hW hsz (fun ha hd ht => walk enc W base args ds hL hN ha hd ht)
theorem said : Rows.DeskDoesSaid :=
 OpenClaim.holds_of_wide 3 Tryz.f3 rfl rfl rfl rfl rfl rfl rfl ⟨rfl, rfl, rfl, rfl, rfl⟩ rfl rfl rfl rfl rfl (by kernel_rfl) Tryz.func3 (by kernel_rfl)
  (of_decide_eq_true (by kernel_rfl)) (by unfold Func.isWrapper; first | (rw [if_pos (by decide +kernel)]; kernel_rfl) | (rw [if_neg (by decide +kernel)]; exact ⟨rfl, rfl⟩))
  (fun os started H enc _ => lifted os started H enc)
theorem proved : Rows.DeskDoesCardSaid :=
 Claim7.holds_tied_plain_at .later [] [.data, .data, .data, .data, .sentinel, .sentinel, .data, .data, .pinned] true (true, "89b9107c1558e73e3deaf7fc405242a6b67e9d413cde99e9148584573eca04ca") true
  said (fun _ h => by cases h) (by kernel_rfl) (fun _ h => by cases h) deskDoes_row_tie rfl ⟨rfl, rfl⟩ (by kernel_rfl) rfl
  (fun f fn hf hfn => by
   obtain rfl : f = 3 := Option.some.inj ((show Tryz.prog.funcNamed "caracole/caracolelaw.DeskDoes" = some 3 by kernel_rfl).symm.trans hf) |>.symm
   obtain rfl : fn = Tryz.f3 := (Option.some.inj (Tryz.func3.symm.trans hfn)).symm
   exact ⟨by kernel_rfl, fun j t ht => by
    rw [Tryz.params3] at ht
    have hm : t ∈ [22, 22] := by simpa using Array.mem_of_getElem? ht
    have hall : ([22, 22].all fun u => !Tryz.prog.wantsStandIn u) = true := by kernel_rfl
    exact (show Tryz.prog.wantsStandIn t = false by simpa using List.all_eq_true.1 hall t hm)⟩)
  (by kernel_rfl)
end Go.Proofs.YtebdkaadbakhlaaGreatDoor.deskDoes
