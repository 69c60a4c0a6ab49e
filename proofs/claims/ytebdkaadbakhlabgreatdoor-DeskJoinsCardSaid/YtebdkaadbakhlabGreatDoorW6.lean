/- YtebdkaadbakhlabGreatDoor: part W6 of this seat's own texts. -/
import Derived.Test.YtebdkaadbakhlabGreatDoorW5
import Derived.Test.YtebdkaadbakhlabGreatDoorP3
set_option linter.unusedVariables false
set_option linter.unusedSimpArgs false
section

open Go Go.Proofs Go.SL
set_option maxRecDepth 100000
namespace Go.SL
-- left out: caracoleref.Scroll
-- left out: scB
structure ScV (c : View) (s : Nat) (lv : Value) (L : List RoundL) (k : Nat) (vs : List Value) : Prop where
  cells : Cells c ⟨s, 0, none⟩ [lv, .int .i64 (k : Int)]
  row : Rds c lv 1 L.length vs
  rounds : Rounds vs L c
theorem ScV.mono {c c' : View} (hl : Le c c') {s : Nat} {lv : Value} {L : List RoundL} {k : Nat} {vs : List Value} (h : ScV c s lv L k vs) : ScV c' s lv L k vs := ⟨h.cells.mono hl, h.row.mono hl, Rounds.up _ _ _ _ hl h.rounds⟩
-- left out: scH
theorem ScV.c0 {c : View} {s : Nat} {lv : Value} {L : List RoundL} {k : Nat} {vs : List Value} (h : ScV c s lv L k vs) : c ⟨s, 0, none⟩ = some lv := by have := h.cells 0 _ rfl; rwa [add_mk] at this
theorem ScV.c1 {c : View} {s : Nat} {lv : Value} {L : List RoundL} {k : Nat} {vs : List Value} (h : ScV c s lv L k vs) : c ⟨s, 0 + 1, none⟩ = some (.int .i64 (k : Int)) := by have := h.cells 1 _ rfl; rwa [add_mk] at this
-- left out: (*caracole/caracoleref.Scroll).Bytes, caracole/caracoleref.BytesOf
end Go.SL
end
section

open Go Go.Proofs Go.SL
set_option maxRecDepth 100000
namespace Go.SL
-- left out: (*caracole/caracoleref.Scroll).Bytes, (*caracole/caracoleref.Scroll).Put, []api.Round, caracole/caracoleref.BytesOf, caracole/caracoleref.Own, caracole/caracoleref.RoundFault
end Go.SL
end
section

open Go Go.Proofs Go.SL
set_option maxRecDepth 100000
namespace Go.SL
-- left out: (*caracole/caracoleref.Scroll).Bytes, (*caracole/caracoleref.Scroll).Crash, []api.Round
end Go.SL
end
section

open Go Go.Proofs Go.SL
set_option maxRecDepth 100000
namespace Go.SL
-- left out: caracole/caracolelaw.greatLog, caracole/caracoleref.Great
end Go.SL
end
