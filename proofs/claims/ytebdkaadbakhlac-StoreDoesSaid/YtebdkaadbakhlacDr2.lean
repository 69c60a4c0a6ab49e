/- Ytebdkaadbakhlac: part Dr2 of this seat's own texts. -/
import Derived.Test.YtebdkaadbakhlacP1
set_option linter.unusedVariables false
set_option linter.unusedSimpArgs false
namespace Go.SL
section
theorem wpAnyH_mono {P : Program} {md : Region.Mode} {ops : Array Oper} {Q : Exit → Act → World → Prop} {S S' : World → Prop} (hS : ∀ w, S' w → S w) : ∀ (fuel : Nat) (listed : Array Bool) (a : Act) (w : World), wpAnyH P md ops Q S' fuel listed a w → wpAnyH P md ops Q S fuel listed a w
  | 0, _, _, _, h => h
  | fuel + 1, _, _, _, h => ⟨h.1, fun i hi => wpOp_mono (fun _ _ h' => ⟨hS _ h'.1, wpAnyH_mono hS fuel _ _ _ h'.2⟩) (h.2 i hi)⟩
/-- from here on more is left as it is -/
theorem a_base {C : Cx} {ks : List Kt} {l : Fr} {m : Hp} {ops : Array Oper} {base : Hp} {fuel : Nat} {listed : Array Bool} (base' : Hp) (hb : ∀ w, St C.w0 C.F base' w → St C.w0 C.F base w) (h : A C ops ks base' fuel listed l m) : A C ops ks base fuel listed l m :=
  fun a w ha hw => wpAnyH_mono hb _ _ _ _ (h a w ha hw)
end
end Go.SL

