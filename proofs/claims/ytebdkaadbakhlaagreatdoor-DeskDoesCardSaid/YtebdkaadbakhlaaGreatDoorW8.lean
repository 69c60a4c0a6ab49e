/- YtebdkaadbakhlaaGreatDoor: part W8 of this seat's own texts. -/
import Derived.Test.YtebdkaadbakhlaaGreatDoorW4
set_option linter.unusedVariables false
set_option linter.unusedSimpArgs false
open Go Go.Proofs Go.SL
set_option maxRecDepth 100000
namespace Go.SL
end Go.SL
