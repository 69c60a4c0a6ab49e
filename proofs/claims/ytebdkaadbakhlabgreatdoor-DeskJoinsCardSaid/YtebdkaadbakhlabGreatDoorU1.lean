/- YtebdkaadbakhlabGreatDoor: part U1 of this seat's own texts. -/
import Derived.Test.YtebdkaadbakhlabGreatDoorW2
import Derived.Test.YtebdkaadbakhlabGreatDoorP1
import Derived.Test.YtebdkaadbakhlabGreatDoorSerM
import Derived.Test.YtebdkaadbakhlabGreatDoorP2
set_option linter.unusedVariables false
set_option linter.unusedSimpArgs false
section

open Go Go.Proofs Go.SL
set_option maxRecDepth 100000
namespace Go.SL
end Go.SL
end
section

open Go Go.Proofs Go.SL
set_option maxRecDepth 100000
namespace Go.SL
end Go.SL
end
section

open Go Go.Proofs Go.SL
set_option maxRecDepth 100000
namespace Go.SL
def zero10 : List Int := [0, 0, 0, 0, 0, 0, 0, 0, 0, 0]
end Go.SL
end
section

open Go Go.Proofs Go.SL
set_option maxRecDepth 100000
namespace Go.SL
end Go.SL
end
section

open Go Go.Proofs Go.SL
set_option maxRecDepth 100000
namespace Go.SL
end Go.SL
end
