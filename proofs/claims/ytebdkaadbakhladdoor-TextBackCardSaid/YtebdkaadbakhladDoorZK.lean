/- YtebdkaadbakhladDoor: part ZK of this seat's own texts. -/
import Derived.Test.YtebdkaadbakhladDoorZJ
import Derived.Test.YtebdkaadbakhladDoorP5
set_option linter.unusedVariables false
set_option linter.unusedSimpArgs false

open Go Go.Proofs Go.SL Go.RowKit
set_option maxRecDepth 100000
set_option maxHeartbeats 4000000
namespace Go.SL
theorem print_ok {d : DeedL} (h : (printS d).2.1 = 0) : printS d = (printL d, (0, 0)) ∧ (checkL d).1 = 0 := by
  unfold printS at h ⊢
  split at h
  · rename_i hc; exact absurd h hc
  · rename_i hc; rw [if_neg hc]; exact ⟨rfl, by omega⟩
end Go.SL

