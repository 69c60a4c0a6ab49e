/- YtebdkaadbakhladDoor: part ZJ of this seat's own texts. -/
import Derived.Test.YtebdkaadbakhladDoorZ5
import Derived.Test.YtebdkaadbakhladDoorW4
set_option linter.unusedVariables false
set_option linter.unusedSimpArgs false

open Go Go.Proofs Go.SL Go.RowKit
set_option maxRecDepth 100000
set_option maxHeartbeats 4000000
namespace Go.SL
end Go.SL

