/- Ytebdkaadbakhlac: part W4 of this seat's own texts. -/
import Derived.Tactics
import Derived.Tactics2
import Derived.Laws.Pointers
import Derived.Test.YtebdkaadbakhlacW3
import Derived.Test.YtebdkaadbakhlacP2
set_option linter.unusedVariables false
set_option linter.unusedSimpArgs false
section

open Go Go.Proofs Go.SL
set_option maxRecDepth 100000
namespace Go.SL
end Go.SL
end
section

open Go Go.Proofs Go.SL
set_option maxRecDepth 100000
namespace Go.SL
end Go.SL
end
section

open Go Go.Proofs Go.SL
set_option maxRecDepth 100000
namespace Go.SL
end Go.SL
end
section

open Go Go.Proofs Go.SL
set_option maxRecDepth 100000
namespace Go.SL
theorem one_deedCells (d : DeedL) : ∀ u ∈ deedCells d, u.oneCell' = true := by
  intro u hu
  simp only [deedCells, List.mem_flatMap] at hu
  obtain ⟨o, _, hu⟩ := hu
  simp only [opCells, List.mem_cons, List.not_mem_nil, or_false] at hu
  rcases hu with rfl | rfl | rfl | rfl | rfl <;> rfl
end Go.SL
end
section

open Go Go.Proofs Go.SL
set_option maxRecDepth 100000
namespace Go.SL
theorem Calls.boolT {P : Program} {f : FuncId} {args : Array Value} {w : World} {p : Prop} [Decidable p] (hp : p) (h : Calls P f args w fun e w' => e = .returned (.bool (decide p)) ∧ Res w [] [] w') : Calls P f args w fun e w' => e = .returned (.bool true) ∧ Res w [] [] w' := by
  rw [decide_eq_true hp] at h
  exact h
theorem Calls.boolF {P : Program} {f : FuncId} {args : Array Value} {w : World} {p : Prop} [Decidable p] (hp : ¬ p) (h : Calls P f args w fun e w' => e = .returned (.bool (decide p)) ∧ Res w [] [] w') : Calls P f args w fun e w' => e = .returned (.bool false) ∧ Res w [] [] w' := by
  rw [decide_eq_false hp] at h
  exact h
end Go.SL
end
