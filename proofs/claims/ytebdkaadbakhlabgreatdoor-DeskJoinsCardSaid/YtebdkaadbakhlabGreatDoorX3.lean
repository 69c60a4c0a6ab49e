/- YtebdkaadbakhlabGreatDoor: part X3 of this seat's own texts. -/
import Derived.Test.YtebdkaadbakhlabGreatDoorX2
import Derived.Test.YtebdkaadbakhlabGreatDoorU2
set_option linter.unusedVariables false
set_option linter.unusedSimpArgs false

open Go Go.Proofs Go.SL
set_option maxRecDepth 100000
set_option maxHeartbeats 4000000
namespace Go.SL
end Go.SL

