/- Ytebdkaadbakhlab: part W4 of this seat's own texts. -/
import Derived.Test.YtebdkaadbakhlabW3
import Derived.Test.YtebdkaadbakhlabP2
set_option linter.unusedVariables false
set_option linter.unusedSimpArgs false

open Go Go.Proofs Go.SL
set_option maxRecDepth 100000
namespace Go.SL
theorem lit_round {w : World} {b12 b11 e e' : Nat} {d : DeedL} (h12 : (Chunk.blk b12 e [.slice (some ⟨b11, 0, none⟩) d.length d.length]).holds w) (h11 : (Chunk.blk b11 e' (deedCells d)).holds w) : IsRound w.cell? (.slice (some ⟨b12, 0, none⟩) 1 1) [d] :=
  ⟨[.slice (some ⟨b11, 0, none⟩) d.length d.length], blk_rds h12 rfl, fun i hi => by
    have : i = 0 := by simpa using hi
    subst this
    exact ⟨_, rfl, isDeed_blk h11 (Nat.le_refl _)⟩⟩
theorem Calls.boolT {P : Program} {f : FuncId} {args : Array Value} {w : World} {p : Prop} [Decidable p] (hp : p) (h : Calls P f args w fun e w' => e = .returned (.bool (decide p)) ∧ Res w [] [] w') : Calls P f args w fun e w' => e = .returned (.bool true) ∧ Res w [] [] w' := by
  rw [decide_eq_true hp] at h
  exact h
theorem Calls.boolF {P : Program} {f : FuncId} {args : Array Value} {w : World} {p : Prop} [Decidable p] (hp : ¬ p) (h : Calls P f args w fun e w' => e = .returned (.bool (decide p)) ∧ Res w [] [] w') : Calls P f args w fun e w' => e = .returned (.bool false) ∧ Res w [] [] w' := by
  rw [decide_eq_false hp] at h
  exact h
end Go.SL

