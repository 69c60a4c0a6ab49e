/- Ytebdkaadbakhlac: part W3 of this seat's own texts. -/
import Derived.Test.YtebdkaadbakhlacW2
import Derived.Test.YtebdkaadbakhlacP2
import Derived.Test.YtebdkaadbakhlacP4
set_option linter.unusedVariables false
set_option linter.unusedSimpArgs false
section

open Go Go.Proofs Go.SL
set_option maxRecDepth 100000
namespace Go.SL
end Go.SL
end
section

open Go Go.Proofs Go.SL
set_option maxRecDepth 100000
namespace Go.SL
end Go.SL
end
section

open Go Go.Proofs Go.SL
set_option maxRecDepth 100000
namespace Go.SL
/-- what reads as bs (by v) reads as rest (by v') -/
def Tail (v : Value) (bs : List UInt8) (v' : Value) (rest : List UInt8) : Prop := ∀ c : View, IsBytes c v bs → IsBytes c v' rest
theorem Tail.refl (v : Value) (bs : List UInt8) : Tail v bs v bs := fun _ h => h
theorem Tail.trans {v v' v'' : Value} {a b c : List UInt8} (h : Tail v a v' b) (h' : Tail v' b v'' c) : Tail v a v'' c := fun x hx => h' x (h x hx)
def le : List UInt8 → Int
  | [] => 0
  | x :: l => x.toNat + 256 * le l
end Go.SL
end
section

open Go Go.Proofs Go.SL
set_option maxRecDepth 100000
namespace Go.SL
end Go.SL
end
section

open Go Go.Proofs Go.SL
set_option maxRecDepth 100000
namespace Go.SL
end Go.SL
end
