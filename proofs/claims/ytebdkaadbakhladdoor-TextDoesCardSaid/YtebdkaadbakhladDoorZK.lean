/- YtebdkaadbakhladDoor: part ZK of this seat's own texts. -/
import Derived.Test.YtebdkaadbakhladDoorZJ
import Derived.Test.YtebdkaadbakhladDoorP5
set_option linter.unusedVariables false
set_option linter.unusedSimpArgs false

open Go Go.Proofs Go.SL Go.RowKit
set_option maxRecDepth 100000
set_option maxHeartbeats 4000000
namespace Go.SL
theorem one_deedCells (d : DeedL) : ∀ u ∈ deedCells d, u.oneCell' = true := by
  intro u hu
  obtain ⟨o, _, ho⟩ := List.mem_flatMap.1 hu
  exact one_opCells o u ho
end Go.SL

