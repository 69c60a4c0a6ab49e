/- Ytebdkaadbakhlab: part H1 of this seat's own texts. -/
import Derived.Test.YtebdkaadbakhlabWL
set_option linter.unusedVariables false
set_option linter.unusedSimpArgs false

open Go Go.Proofs Go.SL
set_option maxRecDepth 100000
set_option maxHeartbeats 4000000
namespace Go.SL
theorem ptrs_at {n k : Nat} {f : Nat → Nat} (h : k < n) : (ptrs n f)[((k : Nat) : Int).toNat * 1]? = some (ptrV (f k)) := by rw [Int.toNat_natCast, Nat.mul_one]; exact ptrs_get h
end Go.SL

