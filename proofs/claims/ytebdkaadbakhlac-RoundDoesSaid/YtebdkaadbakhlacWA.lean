/- Ytebdkaadbakhlac: part WA of this seat's own texts. -/
import Derived.Test.YtebdkaadbakhlacW4
import Derived.Test.YtebdkaadbakhlacP4
set_option linter.unusedVariables false
set_option linter.unusedSimpArgs false

open Go Go.Proofs Go.SL
set_option maxRecDepth 100000
namespace Go.SL
theorem u64_rem' (x : Int) {m : Nat} (hm : 0 < m) : ∃ k : Nat, k < m ∧ (IntKind.u64.wrap x).tmod m = k := by
  have h0 := u64_nonneg x
  have h1 := Int.tmod_nonneg (m : Int) h0
  have h2 := Int.tmod_lt_of_pos (IntKind.u64.wrap x) (show (0 : Int) < m by omega)
  exact ⟨((IntKind.u64.wrap x).tmod m).toNat, by omega, by omega⟩
end Go.SL

