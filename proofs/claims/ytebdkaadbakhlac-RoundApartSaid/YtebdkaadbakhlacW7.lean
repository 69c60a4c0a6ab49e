/- Ytebdkaadbakhlac: part W7 of this seat's own texts. -/
import Derived.Test.YtebdkaadbakhlacW6
import Derived.Test.YtebdkaadbakhlacP4
import Derived.Test.YtebdkaadbakhlacP3
set_option linter.unusedVariables false
set_option linter.unusedSimpArgs false
section

open Go Go.Proofs Go.SL
set_option maxRecDepth 100000
namespace Go.SL
end Go.SL
end
section

open Go Go.Proofs Go.SL
set_option maxRecDepth 100000
namespace Go.SL
end Go.SL
end
section

open Go Go.Proofs Go.SL
set_option maxRecDepth 100000
namespace Go.SL
theorem LgV.at {w0 w : World} {F : Nat → Prop} {m : Hp} {p : Nat} {bv ev : Value} {L : List RoundL} {k : Nat} (hw : St w0 F m w) (i : Nat) (h0 : m[i]? = some (lgB p bv ev L k)) (h1 : m[i + 1]? = some (Rw bv 5 1 (bytesOf L).length (byteCells (bytesOf L)))) (h2 : m[i + 2]? = some (Rw ev 3 1 L.length (intCells (endsOf L)))) : LgV w.cell? p bv ev L k :=
  LgV.of fun c hc => by
    simp only [lgH, List.mem_cons, List.not_mem_nil, or_false] at hc
    rcases hc with rfl | rfl | rfl
    · exact hw.mem h0
    · exact hw.mem h1
    · exact hw.mem h2
end Go.SL
end
section

open Go Go.Proofs Go.SL
set_option maxRecDepth 100000
namespace Go.SL
-- left out: caracole/caracolelaw.LogSure, caracole/caracolelaw.greatLog, caracole/caracolelaw.logBegun, caracole/caracolelaw.logStep
end Go.SL
end
