/- YtebdkaadbakhladDoor: part W3 of this seat's own texts. -/
import Derived.Test.YtebdkaadbakhladDoorW2
import Derived.Test.YtebdkaadbakhladDoorP2
import Derived.Test.YtebdkaadbakhladDoorP4
set_option linter.unusedVariables false
set_option linter.unusedSimpArgs false
section

open Go Go.Proofs Go.SL
set_option maxRecDepth 100000
namespace Go.SL
-- left out: codec.writer
-- left out: (*caracole/codec.writer).put, codec.writer
end Go.SL
end
section

open Go Go.Proofs Go.SL
set_option maxRecDepth 100000
namespace Go.SL
end Go.SL
end
section

open Go Go.Proofs Go.SL
set_option maxRecDepth 100000
namespace Go.SL
-- left out: codec.reader
/-- what reads as bs (by v) reads as rest (by v') -/
def Tail (v : Value) (bs : List UInt8) (v' : Value) (rest : List UInt8) : Prop := ∀ c : View, IsBytes c v bs → IsBytes c v' rest
theorem Tail.refl (v : Value) (bs : List UInt8) : Tail v bs v bs := fun _ h => h
theorem Tail.trans {v v' v'' : Value} {a b c : List UInt8} (h : Tail v a v' b) (h' : Tail v' b v'' c) : Tail v a v'' c := fun x hx => h' x (h x hx)
-- left out: codec.gone
-- left out: (*caracole/codec.reader).byte, codec.reader
end Go.SL
end
section

open Go Go.Proofs Go.SL
set_option maxRecDepth 100000
namespace Go.SL
end Go.SL
end
section

open Go Go.Proofs Go.SL
set_option maxRecDepth 100000
namespace Go.SL
-- left out: (*caracole/codec.reader).byte, (*caracole/codec.reader).op, (*caracole/codec.reader).round, codec.reader
end Go.SL
end
