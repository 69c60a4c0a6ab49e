/- YtebdkaadbakhlabGreatDoor: part WD of this seat's own texts. -/
import Derived.Test.YtebdkaadbakhlabGreatDoorWC
import Derived.Test.YtebdkaadbakhlabGreatDoorP5
set_option linter.unusedVariables false
set_option linter.unusedSimpArgs false
section

open Go Go.Proofs Go.SL
set_option maxRecDepth 100000
namespace Go.SL
-- left out: caracole/caracoleref.KeysOf
end Go.SL
end
section

open Go Go.Proofs Go.SL
set_option maxRecDepth 100000
namespace Go.SL
end Go.SL
end
