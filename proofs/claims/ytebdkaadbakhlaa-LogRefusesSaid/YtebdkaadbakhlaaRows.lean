/-
  No cell of these rows narrows 'for every input' (looked for: loops, veiled, ifaces, maps, wideKeys, modest, calm, conditions, laid).
  DERIVED. THE GIVEN ROWS OF THIS SEAT. 11 by the template 'for every input the law returns true; each argument reads behind the call as it read before'; 0 by the template 'total and deterministic' (their statements: YtebdkaadbakhlaaTotals.lean).
  GIVEN WITH THE SEED: the statements are not yours to turn. If you find one false, say at which input.
  Laid BY PROGRAM, IN A SANDBOX (cutbox-rows.mjs): the forced cells as the released guide's own fill.sh prints them over the translation 6aec7c45e43c7f9e… (all of the seat's roots in one cut). By AI agents, Wed Nov 11 2026. No macro, syntax, notation, axiom, sorry.
-/
import Derived.Test.YtebdkaadbakhlaaChecked
import GoSem.Claim
import GoSem.ClaimJoined
import GoSem.ClaimMapViews
import Derived.JoinedTies
import Derived.KernelRfl
namespace Go.Proofs.Ytebdkaadbakhlaa
/- THE CELL 'sum', in the pinned program and in every row, IS THE sha256 OF THE DUMP (.gsa) THAT YtebdkaadbakhlaaProg.lean LOADS. Nothing in Lean hashes anything: it is a label: what it is worth is what the hold of that sum in a sandbox is worth. -/
noncomputable def Try.pinned : Pinned := { name := "ytebdkaadbakhlaa", sum := "6aec7c45e43c7f9e9cd48a1faf6a4b63dc2dddf2fdd78ac340b95be4c48f88ab", checked := Try.checked }
namespace Rows
def none {H : Type} : Left H := { results := [], args := [] }

/-- 'caracolelaw.SerialStops': WHATEVER THE INPUT: true; the input reads as it did. -/
def serialStopsSpec : ChangeSpec := { name := "serialStops", fn := fun _ => fun
  | [d1, d2] => { results := [.lit (.bool true)], args := [d1, d2] }
  | _ => none }
def serialStopsRow : OpenClaim := { program := "ytebdkaadbakhlaa", sum := "6aec7c45e43c7f9e9cd48a1faf6a4b63dc2dddf2fdd78ac340b95be4c48f88ab", func := "caracole/caracolelaw.SerialStops", spec := "serialStops", apart := false }
def SerialStopsSaid : Prop := serialStopsRow.holds Try.pinned (OpenSpec.ofChange serialStopsSpec)

/-- ITS FALSE NEIGHBOUR: 'it returns false'. Refute it at one input. -/
def serialStopsWrong : ChangeSpec := { name := "serialStops", fn := fun _ => fun
  | [d1, d2] => { results := [.lit (.bool false)], args := [d1, d2] }
  | _ => none }
def SerialStopsWrongFalsely : Prop := serialStopsRow.holds Try.pinned (OpenSpec.ofChange serialStopsWrong)

/-- 'caracolelaw.SerialReads': WHATEVER THE INPUT: true; the input reads as it did. -/
def serialReadsSpec : ChangeSpec := { name := "serialReads", fn := fun _ => fun
  | [d1, d2, d3] => { results := [.lit (.bool true)], args := [d1, d2, d3] }
  | _ => none }
def serialReadsRow : OpenClaim := { program := "ytebdkaadbakhlaa", sum := "6aec7c45e43c7f9e9cd48a1faf6a4b63dc2dddf2fdd78ac340b95be4c48f88ab", func := "caracole/caracolelaw.SerialReads", spec := "serialReads", apart := false }
def SerialReadsSaid : Prop := serialReadsRow.holds Try.pinned (OpenSpec.ofChange serialReadsSpec)

/-- ITS FALSE NEIGHBOUR: 'it returns false'. Refute it at one input. -/
def serialReadsWrong : ChangeSpec := { name := "serialReads", fn := fun _ => fun
  | [d1, d2, d3] => { results := [.lit (.bool false)], args := [d1, d2, d3] }
  | _ => none }
def SerialReadsWrongFalsely : Prop := serialReadsRow.holds Try.pinned (OpenSpec.ofChange serialReadsWrong)

/-- 'caracolelaw.SerialTwice': WHATEVER THE INPUT: true; the input reads as it did. -/
def serialTwiceSpec : ChangeSpec := { name := "serialTwice", fn := fun _ => fun
  | [d1, d2] => { results := [.lit (.bool true)], args := [d1, d2] }
  | _ => none }
def serialTwiceRow : OpenClaim := { program := "ytebdkaadbakhlaa", sum := "6aec7c45e43c7f9e9cd48a1faf6a4b63dc2dddf2fdd78ac340b95be4c48f88ab", func := "caracole/caracolelaw.SerialTwice", spec := "serialTwice", apart := false }
def SerialTwiceSaid : Prop := serialTwiceRow.holds Try.pinned (OpenSpec.ofChange serialTwiceSpec)

/-- ITS FALSE NEIGHBOUR: 'it returns false'. Refute it at one input. -/
def serialTwiceWrong : ChangeSpec := { name := "serialTwice", fn := fun _ => fun
  | [d1, d2] => { results := [.lit (.bool false)], args := [d1, d2] }
  | _ => none }
def SerialTwiceWrongFalsely : Prop := serialTwiceRow.holds Try.pinned (OpenSpec.ofChange serialTwiceWrong)

/-- 'caracolelaw.SerialDoes': WHATEVER THE INPUT: true; the input reads as it did. -/
def serialDoesSpec : ChangeSpec := { name := "serialDoes", fn := fun _ => fun
  | [d1, d2, d3, d4, d5] => { results := [.lit (.bool true)], args := [d1, d2, d3, d4, d5] }
  | _ => none }
def serialDoesRow : OpenClaim := { program := "ytebdkaadbakhlaa", sum := "6aec7c45e43c7f9e9cd48a1faf6a4b63dc2dddf2fdd78ac340b95be4c48f88ab", func := "caracole/caracolelaw.SerialDoes", spec := "serialDoes", apart := false }
def SerialDoesSaid : Prop := serialDoesRow.holds Try.pinned (OpenSpec.ofChange serialDoesSpec)

/-- ITS FALSE NEIGHBOUR: 'it returns false'. Refute it at one input. -/
def serialDoesWrong : ChangeSpec := { name := "serialDoes", fn := fun _ => fun
  | [d1, d2, d3, d4, d5] => { results := [.lit (.bool false)], args := [d1, d2, d3, d4, d5] }
  | _ => none }
def SerialDoesWrongFalsely : Prop := serialDoesRow.holds Try.pinned (OpenSpec.ofChange serialDoesWrong)

/-- 'caracolelaw.SerialParts': WHATEVER THE INPUT: true; the input reads as it did. -/
def serialPartsSpec : ChangeSpec := { name := "serialParts", fn := fun _ => fun
  | [d1, d2, d3] => { results := [.lit (.bool true)], args := [d1, d2, d3] }
  | _ => none }
def serialPartsRow : OpenClaim := { program := "ytebdkaadbakhlaa", sum := "6aec7c45e43c7f9e9cd48a1faf6a4b63dc2dddf2fdd78ac340b95be4c48f88ab", func := "caracole/caracolelaw.SerialParts", spec := "serialParts", apart := false }
def SerialPartsSaid : Prop := serialPartsRow.holds Try.pinned (OpenSpec.ofChange serialPartsSpec)

/-- ITS FALSE NEIGHBOUR: 'it returns false'. Refute it at one input. -/
def serialPartsWrong : ChangeSpec := { name := "serialParts", fn := fun _ => fun
  | [d1, d2, d3] => { results := [.lit (.bool false)], args := [d1, d2, d3] }
  | _ => none }
def SerialPartsWrongFalsely : Prop := serialPartsRow.holds Try.pinned (OpenSpec.ofChange serialPartsWrong)

/-- 'caracolelaw.CodecDoes': WHATEVER THE INPUT: true; the input reads as it did. -/
def codecDoesSpec : ChangeSpec := { name := "codecDoes", fn := fun _ => fun
  | [d1, d2] => { results := [.lit (.bool true)], args := [d1, d2] }
  | _ => none }
def codecDoesRow : OpenClaim := { program := "ytebdkaadbakhlaa", sum := "6aec7c45e43c7f9e9cd48a1faf6a4b63dc2dddf2fdd78ac340b95be4c48f88ab", func := "caracole/caracolelaw.CodecDoes", spec := "codecDoes", unfollowed := true, recurses := true, apart := false }
def CodecDoesSaid : Prop := codecDoesRow.holds Try.pinned (OpenSpec.ofChange codecDoesSpec)

/-- ITS FALSE NEIGHBOUR: 'it returns false'. Refute it at one input. -/
def codecDoesWrong : ChangeSpec := { name := "codecDoes", fn := fun _ => fun
  | [d1, d2] => { results := [.lit (.bool false)], args := [d1, d2] }
  | _ => none }
def CodecDoesWrongFalsely : Prop := codecDoesRow.holds Try.pinned (OpenSpec.ofChange codecDoesWrong)

/-- 'caracolelaw.CodecBack': WHATEVER THE INPUT: true; the input reads as it did. -/
def codecBackSpec : ChangeSpec := { name := "codecBack", fn := fun _ => fun
  | [d1, d2, d3] => { results := [.lit (.bool true)], args := [d1, d2, d3] }
  | _ => none }
def codecBackRow : OpenClaim := { program := "ytebdkaadbakhlaa", sum := "6aec7c45e43c7f9e9cd48a1faf6a4b63dc2dddf2fdd78ac340b95be4c48f88ab", func := "caracole/caracolelaw.CodecBack", spec := "codecBack", unfollowed := true, recurses := true, apart := false }
def CodecBackSaid : Prop := codecBackRow.holds Try.pinned (OpenSpec.ofChange codecBackSpec)

/-- ITS FALSE NEIGHBOUR: 'it returns false'. Refute it at one input. -/
def codecBackWrong : ChangeSpec := { name := "codecBack", fn := fun _ => fun
  | [d1, d2, d3] => { results := [.lit (.bool false)], args := [d1, d2, d3] }
  | _ => none }
def CodecBackWrongFalsely : Prop := codecBackRow.holds Try.pinned (OpenSpec.ofChange codecBackWrong)

/-- 'caracolelaw.CodecCut': WHATEVER THE INPUT: true; the input reads as it did. -/
def codecCutSpec : ChangeSpec := { name := "codecCut", fn := fun _ => fun
  | [d1, d2] => { results := [.lit (.bool true)], args := [d1, d2] }
  | _ => none }
def codecCutRow : OpenClaim := { program := "ytebdkaadbakhlaa", sum := "6aec7c45e43c7f9e9cd48a1faf6a4b63dc2dddf2fdd78ac340b95be4c48f88ab", func := "caracole/caracolelaw.CodecCut", spec := "codecCut", unfollowed := true, recurses := true, apart := false }
def CodecCutSaid : Prop := codecCutRow.holds Try.pinned (OpenSpec.ofChange codecCutSpec)

/-- ITS FALSE NEIGHBOUR: 'it returns false'. Refute it at one input. -/
def codecCutWrong : ChangeSpec := { name := "codecCut", fn := fun _ => fun
  | [d1, d2] => { results := [.lit (.bool false)], args := [d1, d2] }
  | _ => none }
def CodecCutWrongFalsely : Prop := codecCutRow.holds Try.pinned (OpenSpec.ofChange codecCutWrong)

/-- 'caracolelaw.CodecJoins': WHATEVER THE INPUT: true; the input reads as it did. -/
def codecJoinsSpec : ChangeSpec := { name := "codecJoins", fn := fun _ => fun
  | [d1, d2] => { results := [.lit (.bool true)], args := [d1, d2] }
  | _ => none }
def codecJoinsRow : OpenClaim := { program := "ytebdkaadbakhlaa", sum := "6aec7c45e43c7f9e9cd48a1faf6a4b63dc2dddf2fdd78ac340b95be4c48f88ab", func := "caracole/caracolelaw.CodecJoins", spec := "codecJoins", unfollowed := true, recurses := true, apart := false }
def CodecJoinsSaid : Prop := codecJoinsRow.holds Try.pinned (OpenSpec.ofChange codecJoinsSpec)

/-- ITS FALSE NEIGHBOUR: 'it returns false'. Refute it at one input. -/
def codecJoinsWrong : ChangeSpec := { name := "codecJoins", fn := fun _ => fun
  | [d1, d2] => { results := [.lit (.bool false)], args := [d1, d2] }
  | _ => none }
def CodecJoinsWrongFalsely : Prop := codecJoinsRow.holds Try.pinned (OpenSpec.ofChange codecJoinsWrong)

/-- 'caracolelaw.LogSure': WHATEVER THE INPUT: true; the input reads as it did. -/
def logSureSpec : ChangeSpec := { name := "logSure", fn := fun _ => fun
  | [d1, d2, d3] => { results := [.lit (.bool true)], args := [d1, d2, d3] }
  | _ => none }
def logSureRow : OpenClaim := { program := "ytebdkaadbakhlaa", sum := "6aec7c45e43c7f9e9cd48a1faf6a4b63dc2dddf2fdd78ac340b95be4c48f88ab", func := "caracole/caracolelaw.LogSure", spec := "logSure", unfollowed := true, recurses := true, apart := false }
def LogSureSaid : Prop := logSureRow.holds Try.pinned (OpenSpec.ofChange logSureSpec)

/-- ITS FALSE NEIGHBOUR: 'it returns false'. Refute it at one input. -/
def logSureWrong : ChangeSpec := { name := "logSure", fn := fun _ => fun
  | [d1, d2, d3] => { results := [.lit (.bool false)], args := [d1, d2, d3] }
  | _ => none }
def LogSureWrongFalsely : Prop := logSureRow.holds Try.pinned (OpenSpec.ofChange logSureWrong)

/-- 'caracolelaw.LogRefuses': WHATEVER THE INPUT: true; the input reads as it did. -/
def logRefusesSpec : ChangeSpec := { name := "logRefuses", fn := fun _ => fun
  | [d1, d2] => { results := [.lit (.bool true)], args := [d1, d2] }
  | _ => none }
def logRefusesRow : OpenClaim := { program := "ytebdkaadbakhlaa", sum := "6aec7c45e43c7f9e9cd48a1faf6a4b63dc2dddf2fdd78ac340b95be4c48f88ab", func := "caracole/caracolelaw.LogRefuses", spec := "logRefuses", unfollowed := true, recurses := true, apart := false }
def LogRefusesSaid : Prop := logRefusesRow.holds Try.pinned (OpenSpec.ofChange logRefusesSpec)

/-- ITS FALSE NEIGHBOUR: 'it returns false'. Refute it at one input. -/
def logRefusesWrong : ChangeSpec := { name := "logRefuses", fn := fun _ => fun
  | [d1, d2] => { results := [.lit (.bool false)], args := [d1, d2] }
  | _ => none }
def LogRefusesWrongFalsely : Prop := logRefusesRow.holds Try.pinned (OpenSpec.ofChange logRefusesWrong)

/- THE SECOND FORM. 'bulk': how many values and letters a reading holds, each counted each time it is reached (what is shared counts as often as it is met; a slice's spare places count too). A statement '..UptoSaid' is the law's where the arguments, and the package variables that the reading takes, are together of bulk at most 1048576: NARROWER than '..Said'. Prove '..Said' where nothing that the law and all that it calls make is longer than what came in: it says more and counts as full. Else prove '..UptoSaid'. A law counts once. -/
mutual
def uptoBulk {H : Type} : DataW H → Nat
  | .lit (.string bytes) => bytes.length + 1
  | .lit _ => 1
  | .nil => 1
  | .ptr d => uptoBulk d + 1
  | .slice elems spare => uptoBulkAll elems + uptoBulkAll spare + 1
  | .agg parts => uptoBulkAll parts + 1
  | .iface _ d => uptoBulk d + 1
  | .map entries => uptoBulkEntries entries + 1
  | .held _ => 1
def uptoBulkAll {H : Type} : List (DataW H) → Nat
  | [] => 0
  | d :: r => uptoBulk d + uptoBulkAll r
def uptoBulkEntries {H : Type} : List (Lit × DataW H) → Nat
  | [] => 0
  | x :: r => uptoBulkEntry x + uptoBulkEntries r
def uptoBulkEntry {H : Type} : Lit × DataW H → Nat
  | (.string bytes, d) => bytes.length + uptoBulk d + 1
  | (_, d) => uptoBulk d + 1
 end
def uptoSmall : (H : Type) → List (DataW H) → Bool := fun _ ds => decide (uptoBulkAll ds ≤ 1048576)
def OpenSpec.upto (s : _root_.Go.ChangeSpec) : _root_.Go.OpenSpec := { _root_.Go.OpenSpec.ofChange s with cond := some uptoSmall }

/-- 'caracolelaw.SerialStops', WHERE WHAT IT READS IS OF BULK AT MOST 1048576: true; the input reads as it did. -/
def serialStopsUptoRow : OpenClaim := { program := "ytebdkaadbakhlaa", sum := "6aec7c45e43c7f9e9cd48a1faf6a4b63dc2dddf2fdd78ac340b95be4c48f88ab", func := "caracole/caracolelaw.SerialStops", spec := "serialStops", apart := false, narrowed := true }
def SerialStopsUptoSaid : Prop := serialStopsUptoRow.holds Try.pinned (OpenSpec.upto serialStopsSpec)

/-- 'caracolelaw.SerialReads', WHERE WHAT IT READS IS OF BULK AT MOST 1048576: true; the input reads as it did. -/
def serialReadsUptoRow : OpenClaim := { program := "ytebdkaadbakhlaa", sum := "6aec7c45e43c7f9e9cd48a1faf6a4b63dc2dddf2fdd78ac340b95be4c48f88ab", func := "caracole/caracolelaw.SerialReads", spec := "serialReads", apart := false, narrowed := true }
def SerialReadsUptoSaid : Prop := serialReadsUptoRow.holds Try.pinned (OpenSpec.upto serialReadsSpec)

/-- 'caracolelaw.SerialTwice', WHERE WHAT IT READS IS OF BULK AT MOST 1048576: true; the input reads as it did. -/
def serialTwiceUptoRow : OpenClaim := { program := "ytebdkaadbakhlaa", sum := "6aec7c45e43c7f9e9cd48a1faf6a4b63dc2dddf2fdd78ac340b95be4c48f88ab", func := "caracole/caracolelaw.SerialTwice", spec := "serialTwice", apart := false, narrowed := true }
def SerialTwiceUptoSaid : Prop := serialTwiceUptoRow.holds Try.pinned (OpenSpec.upto serialTwiceSpec)

/-- 'caracolelaw.SerialDoes', WHERE WHAT IT READS IS OF BULK AT MOST 1048576: true; the input reads as it did. -/
def serialDoesUptoRow : OpenClaim := { program := "ytebdkaadbakhlaa", sum := "6aec7c45e43c7f9e9cd48a1faf6a4b63dc2dddf2fdd78ac340b95be4c48f88ab", func := "caracole/caracolelaw.SerialDoes", spec := "serialDoes", apart := false, narrowed := true }
def SerialDoesUptoSaid : Prop := serialDoesUptoRow.holds Try.pinned (OpenSpec.upto serialDoesSpec)

/-- 'caracolelaw.SerialParts', WHERE WHAT IT READS IS OF BULK AT MOST 1048576: true; the input reads as it did. -/
def serialPartsUptoRow : OpenClaim := { program := "ytebdkaadbakhlaa", sum := "6aec7c45e43c7f9e9cd48a1faf6a4b63dc2dddf2fdd78ac340b95be4c48f88ab", func := "caracole/caracolelaw.SerialParts", spec := "serialParts", apart := false, narrowed := true }
def SerialPartsUptoSaid : Prop := serialPartsUptoRow.holds Try.pinned (OpenSpec.upto serialPartsSpec)

/-- 'caracolelaw.CodecDoes', WHERE WHAT IT READS IS OF BULK AT MOST 1048576: true; the input reads as it did. -/
def codecDoesUptoRow : OpenClaim := { program := "ytebdkaadbakhlaa", sum := "6aec7c45e43c7f9e9cd48a1faf6a4b63dc2dddf2fdd78ac340b95be4c48f88ab", func := "caracole/caracolelaw.CodecDoes", spec := "codecDoes", unfollowed := true, recurses := true, apart := false, narrowed := true }
def CodecDoesUptoSaid : Prop := codecDoesUptoRow.holds Try.pinned (OpenSpec.upto codecDoesSpec)

/-- 'caracolelaw.CodecBack', WHERE WHAT IT READS IS OF BULK AT MOST 1048576: true; the input reads as it did. -/
def codecBackUptoRow : OpenClaim := { program := "ytebdkaadbakhlaa", sum := "6aec7c45e43c7f9e9cd48a1faf6a4b63dc2dddf2fdd78ac340b95be4c48f88ab", func := "caracole/caracolelaw.CodecBack", spec := "codecBack", unfollowed := true, recurses := true, apart := false, narrowed := true }
def CodecBackUptoSaid : Prop := codecBackUptoRow.holds Try.pinned (OpenSpec.upto codecBackSpec)

/-- 'caracolelaw.CodecCut', WHERE WHAT IT READS IS OF BULK AT MOST 1048576: true; the input reads as it did. -/
def codecCutUptoRow : OpenClaim := { program := "ytebdkaadbakhlaa", sum := "6aec7c45e43c7f9e9cd48a1faf6a4b63dc2dddf2fdd78ac340b95be4c48f88ab", func := "caracole/caracolelaw.CodecCut", spec := "codecCut", unfollowed := true, recurses := true, apart := false, narrowed := true }
def CodecCutUptoSaid : Prop := codecCutUptoRow.holds Try.pinned (OpenSpec.upto codecCutSpec)

/-- 'caracolelaw.CodecJoins', WHERE WHAT IT READS IS OF BULK AT MOST 1048576: true; the input reads as it did. -/
def codecJoinsUptoRow : OpenClaim := { program := "ytebdkaadbakhlaa", sum := "6aec7c45e43c7f9e9cd48a1faf6a4b63dc2dddf2fdd78ac340b95be4c48f88ab", func := "caracole/caracolelaw.CodecJoins", spec := "codecJoins", unfollowed := true, recurses := true, apart := false, narrowed := true }
def CodecJoinsUptoSaid : Prop := codecJoinsUptoRow.holds Try.pinned (OpenSpec.upto codecJoinsSpec)

/-- 'caracolelaw.LogSure', WHERE WHAT IT READS IS OF BULK AT MOST 1048576: true; the input reads as it did. -/
def logSureUptoRow : OpenClaim := { program := "ytebdkaadbakhlaa", sum := "6aec7c45e43c7f9e9cd48a1faf6a4b63dc2dddf2fdd78ac340b95be4c48f88ab", func := "caracole/caracolelaw.LogSure", spec := "logSure", unfollowed := true, recurses := true, apart := false, narrowed := true }
def LogSureUptoSaid : Prop := logSureUptoRow.holds Try.pinned (OpenSpec.upto logSureSpec)

/-- 'caracolelaw.LogRefuses', WHERE WHAT IT READS IS OF BULK AT MOST 1048576: true; the input reads as it did. -/
def logRefusesUptoRow : OpenClaim := { program := "ytebdkaadbakhlaa", sum := "6aec7c45e43c7f9e9cd48a1faf6a4b63dc2dddf2fdd78ac340b95be4c48f88ab", func := "caracole/caracolelaw.LogRefuses", spec := "logRefuses", unfollowed := true, recurses := true, apart := false, narrowed := true }
def LogRefusesUptoSaid : Prop := logRefusesUptoRow.holds Try.pinned (OpenSpec.upto logRefusesSpec)

end Rows
end Go.Proofs.Ytebdkaadbakhlaa
