/- Ytebdkaadbakhlab: part U1 of this seat's own texts. -/
import Derived.Test.YtebdkaadbakhlabW2
set_option linter.unusedVariables false
set_option linter.unusedSimpArgs false

open Go Go.Proofs Go.SL
set_option maxRecDepth 100000
namespace Go.SL
def zero10 : List Int := [0, 0, 0, 0, 0, 0, 0, 0, 0, 0]
end Go.SL

