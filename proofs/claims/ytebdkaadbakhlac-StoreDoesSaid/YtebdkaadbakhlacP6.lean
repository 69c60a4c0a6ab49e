/- Ytebdkaadbakhlac: part P6 of this seat's own texts. -/
import Derived.Test.YtebdkaadbakhlacP4
import Derived.Test.YtebdkaadbakhlacP5
set_option linter.unusedVariables false
set_option linter.unusedSimpArgs false
namespace Go.SL
open Go.ChangeShapes Go.WideShapes Go.RowKit Go.Deep
section
variable {H : Type} {enc : TypeId × Value → H} {P : Program} {w W : World} {base b0 : Nat} {spare : Nat → Bool} {held : Bool} {t : TypeId} {v : Value} {d : DataW H}
end
end Go.SL

