/-
  No cell of these rows narrows 'for every input' (looked for: loops, veiled, ifaces, maps, wideKeys, modest, calm, conditions, laid).
  DERIVED. THE GIVEN ROWS OF THIS SEAT. 12 by the template 'for every input the law returns true; each argument reads behind the call as it read before'; 0 by the template 'total and deterministic' (their statements: YtebdkaadbakhlacTotals.lean).
  GIVEN WITH THE SEED: the statements are not yours to turn. If you find one false, say at which input.
  Laid BY PROGRAM, IN A SANDBOX (cutbox-rows.mjs): the forced cells as the released guide's own fill.sh prints them over the translation 0dae4adfbdbe014d… (all of the seat's roots in one cut). By AI agents, Wed Nov 11 2026. No macro, syntax, notation, axiom, sorry.
-/
import Derived.Test.YtebdkaadbakhlacChecked
import GoSem.Claim
import GoSem.ClaimJoined
import GoSem.ClaimMapViews
import Derived.JoinedTies
import Derived.KernelRfl
namespace Go.Proofs.Ytebdkaadbakhlac
/- THE CELL 'sum', in the pinned program and in every row, IS THE sha256 OF THE DUMP (.gsa) THAT YtebdkaadbakhlacProg.lean LOADS. Nothing in Lean hashes anything: it is a label: what it is worth is what the hold of that sum in a sandbox is worth. -/
noncomputable def Try.pinned : Pinned := { name := "ytebdkaadbakhlac", sum := "0dae4adfbdbe014d0074dc439b2f02865248fd8f87d0c512155134a223eb44d3", checked := Try.checked }
namespace Rows
def none {H : Type} : Left H := { results := [], args := [] }

/-- 'caracolelaw.WorkerAlone': WHATEVER THE INPUT: true; the input reads as it did. -/
def workerAloneSpec : ChangeSpec := { name := "workerAlone", fn := fun _ => fun
  | [d1, d2] => { results := [.lit (.bool true)], args := [d1, d2] }
  | _ => none }
def workerAloneRow : OpenClaim := { program := "ytebdkaadbakhlac", sum := "0dae4adfbdbe014d0074dc439b2f02865248fd8f87d0c512155134a223eb44d3", func := "caracole/caracolelaw.WorkerAlone", spec := "workerAlone", unfollowed := true, recurses := true, apart := false }
def WorkerAloneSaid : Prop := workerAloneRow.holds Try.pinned (OpenSpec.ofChange workerAloneSpec)

/-- ITS FALSE NEIGHBOUR: 'it returns false'. Refute it at one input. -/
def workerAloneWrong : ChangeSpec := { name := "workerAlone", fn := fun _ => fun
  | [d1, d2] => { results := [.lit (.bool false)], args := [d1, d2] }
  | _ => none }
def WorkerAloneWrongFalsely : Prop := workerAloneRow.holds Try.pinned (OpenSpec.ofChange workerAloneWrong)

/-- 'caracolelaw.RoundApart': WHATEVER THE INPUT: true; the input reads as it did. -/
def roundApartSpec : ChangeSpec := { name := "roundApart", fn := fun _ => fun
  | [d1, d2, d3, d4] => { results := [.lit (.bool true)], args := [d1, d2, d3, d4] }
  | _ => none }
def roundApartRow : OpenClaim := { program := "ytebdkaadbakhlac", sum := "0dae4adfbdbe014d0074dc439b2f02865248fd8f87d0c512155134a223eb44d3", func := "caracole/caracolelaw.RoundApart", spec := "roundApart", unfollowed := true, recurses := true, apart := false }
def RoundApartSaid : Prop := roundApartRow.holds Try.pinned (OpenSpec.ofChange roundApartSpec)

/-- ITS FALSE NEIGHBOUR: 'it returns false'. Refute it at one input. -/
def roundApartWrong : ChangeSpec := { name := "roundApart", fn := fun _ => fun
  | [d1, d2, d3, d4] => { results := [.lit (.bool false)], args := [d1, d2, d3, d4] }
  | _ => none }
def RoundApartWrongFalsely : Prop := roundApartRow.holds Try.pinned (OpenSpec.ofChange roundApartWrong)

/-- 'caracolelaw.RoundOver': WHATEVER THE INPUT: true; the input reads as it did. -/
def roundOverSpec : ChangeSpec := { name := "roundOver", fn := fun _ => fun
  | [d1, d2, d3, d4] => { results := [.lit (.bool true)], args := [d1, d2, d3, d4] }
  | _ => none }
def roundOverRow : OpenClaim := { program := "ytebdkaadbakhlac", sum := "0dae4adfbdbe014d0074dc439b2f02865248fd8f87d0c512155134a223eb44d3", func := "caracole/caracolelaw.RoundOver", spec := "roundOver", unfollowed := true, recurses := true, apart := false }
def RoundOverSaid : Prop := roundOverRow.holds Try.pinned (OpenSpec.ofChange roundOverSpec)

/-- ITS FALSE NEIGHBOUR: 'it returns false'. Refute it at one input. -/
def roundOverWrong : ChangeSpec := { name := "roundOver", fn := fun _ => fun
  | [d1, d2, d3, d4] => { results := [.lit (.bool false)], args := [d1, d2, d3, d4] }
  | _ => none }
def RoundOverWrongFalsely : Prop := roundOverRow.holds Try.pinned (OpenSpec.ofChange roundOverWrong)

/-- 'caracolelaw.RoundLast': WHATEVER THE INPUT: true; the input reads as it did. -/
def roundLastSpec : ChangeSpec := { name := "roundLast", fn := fun _ => fun
  | [d1, d2, d3, d4] => { results := [.lit (.bool true)], args := [d1, d2, d3, d4] }
  | _ => none }
def roundLastRow : OpenClaim := { program := "ytebdkaadbakhlac", sum := "0dae4adfbdbe014d0074dc439b2f02865248fd8f87d0c512155134a223eb44d3", func := "caracole/caracolelaw.RoundLast", spec := "roundLast", unfollowed := true, recurses := true, apart := false }
def RoundLastSaid : Prop := roundLastRow.holds Try.pinned (OpenSpec.ofChange roundLastSpec)

/-- ITS FALSE NEIGHBOUR: 'it returns false'. Refute it at one input. -/
def roundLastWrong : ChangeSpec := { name := "roundLast", fn := fun _ => fun
  | [d1, d2, d3, d4] => { results := [.lit (.bool false)], args := [d1, d2, d3, d4] }
  | _ => none }
def RoundLastWrongFalsely : Prop := roundLastRow.holds Try.pinned (OpenSpec.ofChange roundLastWrong)

/-- 'caracolelaw.RoundDoes': WHATEVER THE INPUT: true; the input reads as it did. -/
def roundDoesSpec : ChangeSpec := { name := "roundDoes", fn := fun _ => fun
  | [d1, d2, d3, d4] => { results := [.lit (.bool true)], args := [d1, d2, d3, d4] }
  | _ => none }
def roundDoesRow : OpenClaim := { program := "ytebdkaadbakhlac", sum := "0dae4adfbdbe014d0074dc439b2f02865248fd8f87d0c512155134a223eb44d3", func := "caracole/caracolelaw.RoundDoes", spec := "roundDoes", unfollowed := true, recurses := true, apart := false }
def RoundDoesSaid : Prop := roundDoesRow.holds Try.pinned (OpenSpec.ofChange roundDoesSpec)

/-- ITS FALSE NEIGHBOUR: 'it returns false'. Refute it at one input. -/
def roundDoesWrong : ChangeSpec := { name := "roundDoes", fn := fun _ => fun
  | [d1, d2, d3, d4] => { results := [.lit (.bool false)], args := [d1, d2, d3, d4] }
  | _ => none }
def RoundDoesWrongFalsely : Prop := roundDoesRow.holds Try.pinned (OpenSpec.ofChange roundDoesWrong)

/-- 'caracolelaw.RoundGoes': WHATEVER THE INPUT: true; the input reads as it did. -/
def roundGoesSpec : ChangeSpec := { name := "roundGoes", fn := fun _ => fun
  | [d1, d2, d3] => { results := [.lit (.bool true)], args := [d1, d2, d3] }
  | _ => none }
def roundGoesRow : OpenClaim := { program := "ytebdkaadbakhlac", sum := "0dae4adfbdbe014d0074dc439b2f02865248fd8f87d0c512155134a223eb44d3", func := "caracole/caracolelaw.RoundGoes", spec := "roundGoes", unfollowed := true, recurses := true, apart := false }
def RoundGoesSaid : Prop := roundGoesRow.holds Try.pinned (OpenSpec.ofChange roundGoesSpec)

/-- ITS FALSE NEIGHBOUR: 'it returns false'. Refute it at one input. -/
def roundGoesWrong : ChangeSpec := { name := "roundGoes", fn := fun _ => fun
  | [d1, d2, d3] => { results := [.lit (.bool false)], args := [d1, d2, d3] }
  | _ => none }
def RoundGoesWrongFalsely : Prop := roundGoesRow.holds Try.pinned (OpenSpec.ofChange roundGoesWrong)

/-- 'caracolelaw.RoundSame': WHATEVER THE INPUT: true; the input reads as it did. -/
def roundSameSpec : ChangeSpec := { name := "roundSame", fn := fun _ => fun
  | [d1, d2, d3] => { results := [.lit (.bool true)], args := [d1, d2, d3] }
  | _ => none }
def roundSameRow : OpenClaim := { program := "ytebdkaadbakhlac", sum := "0dae4adfbdbe014d0074dc439b2f02865248fd8f87d0c512155134a223eb44d3", func := "caracole/caracolelaw.RoundSame", spec := "roundSame", unfollowed := true, recurses := true, apart := false }
def RoundSameSaid : Prop := roundSameRow.holds Try.pinned (OpenSpec.ofChange roundSameSpec)

/-- ITS FALSE NEIGHBOUR: 'it returns false'. Refute it at one input. -/
def roundSameWrong : ChangeSpec := { name := "roundSame", fn := fun _ => fun
  | [d1, d2, d3] => { results := [.lit (.bool false)], args := [d1, d2, d3] }
  | _ => none }
def RoundSameWrongFalsely : Prop := roundSameRow.holds Try.pinned (OpenSpec.ofChange roundSameWrong)

/-- 'caracolelaw.StoreDoes': WHATEVER THE INPUT: true; the input reads as it did. -/
def storeDoesSpec : ChangeSpec := { name := "storeDoes", fn := fun _ => fun
  | [d1, d2] => { results := [.lit (.bool true)], args := [d1, d2] }
  | _ => none }
def storeDoesRow : OpenClaim := { program := "ytebdkaadbakhlac", sum := "0dae4adfbdbe014d0074dc439b2f02865248fd8f87d0c512155134a223eb44d3", func := "caracole/caracolelaw.StoreDoes", spec := "storeDoes", unfollowed := true, recurses := true, apart := false }
def StoreDoesSaid : Prop := storeDoesRow.holds Try.pinned (OpenSpec.ofChange storeDoesSpec)

/-- ITS FALSE NEIGHBOUR: 'it returns false'. Refute it at one input. -/
def storeDoesWrong : ChangeSpec := { name := "storeDoes", fn := fun _ => fun
  | [d1, d2] => { results := [.lit (.bool false)], args := [d1, d2] }
  | _ => none }
def StoreDoesWrongFalsely : Prop := storeDoesRow.holds Try.pinned (OpenSpec.ofChange storeDoesWrong)

/-- 'caracolelaw.StorePicks': WHATEVER THE INPUT: true; the input reads as it did. -/
def storePicksSpec : ChangeSpec := { name := "storePicks", fn := fun _ => fun
  | [d1, d2] => { results := [.lit (.bool true)], args := [d1, d2] }
  | _ => none }
def storePicksRow : OpenClaim := { program := "ytebdkaadbakhlac", sum := "0dae4adfbdbe014d0074dc439b2f02865248fd8f87d0c512155134a223eb44d3", func := "caracole/caracolelaw.StorePicks", spec := "storePicks", unfollowed := true, recurses := true, apart := false }
def StorePicksSaid : Prop := storePicksRow.holds Try.pinned (OpenSpec.ofChange storePicksSpec)

/-- ITS FALSE NEIGHBOUR: 'it returns false'. Refute it at one input. -/
def storePicksWrong : ChangeSpec := { name := "storePicks", fn := fun _ => fun
  | [d1, d2] => { results := [.lit (.bool false)], args := [d1, d2] }
  | _ => none }
def StorePicksWrongFalsely : Prop := storePicksRow.holds Try.pinned (OpenSpec.ofChange storePicksWrong)

/-- 'caracolelaw.StoreCrash': WHATEVER THE INPUT: true; the input reads as it did. -/
def storeCrashSpec : ChangeSpec := { name := "storeCrash", fn := fun _ => fun
  | [d1, d2] => { results := [.lit (.bool true)], args := [d1, d2] }
  | _ => none }
def storeCrashRow : OpenClaim := { program := "ytebdkaadbakhlac", sum := "0dae4adfbdbe014d0074dc439b2f02865248fd8f87d0c512155134a223eb44d3", func := "caracole/caracolelaw.StoreCrash", spec := "storeCrash", unfollowed := true, recurses := true, apart := false }
def StoreCrashSaid : Prop := storeCrashRow.holds Try.pinned (OpenSpec.ofChange storeCrashSpec)

/-- ITS FALSE NEIGHBOUR: 'it returns false'. Refute it at one input. -/
def storeCrashWrong : ChangeSpec := { name := "storeCrash", fn := fun _ => fun
  | [d1, d2] => { results := [.lit (.bool false)], args := [d1, d2] }
  | _ => none }
def StoreCrashWrongFalsely : Prop := storeCrashRow.holds Try.pinned (OpenSpec.ofChange storeCrashWrong)

/-- 'caracolelaw.StoreRefuses': WHATEVER THE INPUT: true; the input reads as it did. -/
def storeRefusesSpec : ChangeSpec := { name := "storeRefuses", fn := fun _ => fun
  | [d] => { results := [.lit (.bool true)], args := [d] }
  | _ => none }
def storeRefusesRow : OpenClaim := { program := "ytebdkaadbakhlac", sum := "0dae4adfbdbe014d0074dc439b2f02865248fd8f87d0c512155134a223eb44d3", func := "caracole/caracolelaw.StoreRefuses", spec := "storeRefuses", unfollowed := true, recurses := true, apart := false }
def StoreRefusesSaid : Prop := storeRefusesRow.holds Try.pinned (OpenSpec.ofChange storeRefusesSpec)

/-- ITS FALSE NEIGHBOUR: 'it returns false'. Refute it at one input. -/
def storeRefusesWrong : ChangeSpec := { name := "storeRefuses", fn := fun _ => fun
  | [d] => { results := [.lit (.bool false)], args := [d] }
  | _ => none }
def StoreRefusesWrongFalsely : Prop := storeRefusesRow.holds Try.pinned (OpenSpec.ofChange storeRefusesWrong)

/-- 'caracolelaw.StoreStays': WHATEVER THE INPUT: true; the input reads as it did. -/
def storeStaysSpec : ChangeSpec := { name := "storeStays", fn := fun _ => fun
  | [d] => { results := [.lit (.bool true)], args := [d] }
  | _ => none }
def storeStaysRow : OpenClaim := { program := "ytebdkaadbakhlac", sum := "0dae4adfbdbe014d0074dc439b2f02865248fd8f87d0c512155134a223eb44d3", func := "caracole/caracolelaw.StoreStays", spec := "storeStays", unfollowed := true, recurses := true, apart := false }
def StoreStaysSaid : Prop := storeStaysRow.holds Try.pinned (OpenSpec.ofChange storeStaysSpec)

/-- ITS FALSE NEIGHBOUR: 'it returns false'. Refute it at one input. -/
def storeStaysWrong : ChangeSpec := { name := "storeStays", fn := fun _ => fun
  | [d] => { results := [.lit (.bool false)], args := [d] }
  | _ => none }
def StoreStaysWrongFalsely : Prop := storeStaysRow.holds Try.pinned (OpenSpec.ofChange storeStaysWrong)

/- THE SECOND FORM. 'bulk': how many values and letters a reading holds, each counted each time it is reached (what is shared counts as often as it is met; a slice's spare places count too). A statement '..UptoSaid' is the law's where the arguments, and the package variables that the reading takes, are together of bulk at most 1048576: NARROWER than '..Said'. Prove '..Said' where nothing that the law and all that it calls make is longer than what came in: it says more and counts as full. Else prove '..UptoSaid'. A law counts once. -/
mutual
def uptoBulk {H : Type} : DataW H → Nat
  | .lit (.string bytes) => bytes.length + 1
  | .lit _ => 1
  | .nil => 1
  | .ptr d => uptoBulk d + 1
  | .slice elems spare => uptoBulkAll elems + uptoBulkAll spare + 1
  | .agg parts => uptoBulkAll parts + 1
  | .iface _ d => uptoBulk d + 1
  | .map entries => uptoBulkEntries entries + 1
  | .held _ => 1
def uptoBulkAll {H : Type} : List (DataW H) → Nat
  | [] => 0
  | d :: r => uptoBulk d + uptoBulkAll r
def uptoBulkEntries {H : Type} : List (Lit × DataW H) → Nat
  | [] => 0
  | x :: r => uptoBulkEntry x + uptoBulkEntries r
def uptoBulkEntry {H : Type} : Lit × DataW H → Nat
  | (.string bytes, d) => bytes.length + uptoBulk d + 1
  | (_, d) => uptoBulk d + 1
 end
def uptoSmall : (H : Type) → List (DataW H) → Bool := fun _ ds => decide (uptoBulkAll ds ≤ 1048576)
def OpenSpec.upto (s : _root_.Go.ChangeSpec) : _root_.Go.OpenSpec := { _root_.Go.OpenSpec.ofChange s with cond := some uptoSmall }

/-- 'caracolelaw.WorkerAlone', WHERE WHAT IT READS IS OF BULK AT MOST 1048576: true; the input reads as it did. -/
def workerAloneUptoRow : OpenClaim := { program := "ytebdkaadbakhlac", sum := "0dae4adfbdbe014d0074dc439b2f02865248fd8f87d0c512155134a223eb44d3", func := "caracole/caracolelaw.WorkerAlone", spec := "workerAlone", unfollowed := true, recurses := true, apart := false, narrowed := true }
def WorkerAloneUptoSaid : Prop := workerAloneUptoRow.holds Try.pinned (OpenSpec.upto workerAloneSpec)

/-- 'caracolelaw.RoundApart', WHERE WHAT IT READS IS OF BULK AT MOST 1048576: true; the input reads as it did. -/
def roundApartUptoRow : OpenClaim := { program := "ytebdkaadbakhlac", sum := "0dae4adfbdbe014d0074dc439b2f02865248fd8f87d0c512155134a223eb44d3", func := "caracole/caracolelaw.RoundApart", spec := "roundApart", unfollowed := true, recurses := true, apart := false, narrowed := true }
def RoundApartUptoSaid : Prop := roundApartUptoRow.holds Try.pinned (OpenSpec.upto roundApartSpec)

/-- 'caracolelaw.RoundOver', WHERE WHAT IT READS IS OF BULK AT MOST 1048576: true; the input reads as it did. -/
def roundOverUptoRow : OpenClaim := { program := "ytebdkaadbakhlac", sum := "0dae4adfbdbe014d0074dc439b2f02865248fd8f87d0c512155134a223eb44d3", func := "caracole/caracolelaw.RoundOver", spec := "roundOver", unfollowed := true, recurses := true, apart := false, narrowed := true }
def RoundOverUptoSaid : Prop := roundOverUptoRow.holds Try.pinned (OpenSpec.upto roundOverSpec)

/-- 'caracolelaw.RoundLast', WHERE WHAT IT READS IS OF BULK AT MOST 1048576: true; the input reads as it did. -/
def roundLastUptoRow : OpenClaim := { program := "ytebdkaadbakhlac", sum := "0dae4adfbdbe014d0074dc439b2f02865248fd8f87d0c512155134a223eb44d3", func := "caracole/caracolelaw.RoundLast", spec := "roundLast", unfollowed := true, recurses := true, apart := false, narrowed := true }
def RoundLastUptoSaid : Prop := roundLastUptoRow.holds Try.pinned (OpenSpec.upto roundLastSpec)

/-- 'caracolelaw.RoundDoes', WHERE WHAT IT READS IS OF BULK AT MOST 1048576: true; the input reads as it did. -/
def roundDoesUptoRow : OpenClaim := { program := "ytebdkaadbakhlac", sum := "0dae4adfbdbe014d0074dc439b2f02865248fd8f87d0c512155134a223eb44d3", func := "caracole/caracolelaw.RoundDoes", spec := "roundDoes", unfollowed := true, recurses := true, apart := false, narrowed := true }
def RoundDoesUptoSaid : Prop := roundDoesUptoRow.holds Try.pinned (OpenSpec.upto roundDoesSpec)

/-- 'caracolelaw.RoundGoes', WHERE WHAT IT READS IS OF BULK AT MOST 1048576: true; the input reads as it did. -/
def roundGoesUptoRow : OpenClaim := { program := "ytebdkaadbakhlac", sum := "0dae4adfbdbe014d0074dc439b2f02865248fd8f87d0c512155134a223eb44d3", func := "caracole/caracolelaw.RoundGoes", spec := "roundGoes", unfollowed := true, recurses := true, apart := false, narrowed := true }
def RoundGoesUptoSaid : Prop := roundGoesUptoRow.holds Try.pinned (OpenSpec.upto roundGoesSpec)

/-- 'caracolelaw.RoundSame', WHERE WHAT IT READS IS OF BULK AT MOST 1048576: true; the input reads as it did. -/
def roundSameUptoRow : OpenClaim := { program := "ytebdkaadbakhlac", sum := "0dae4adfbdbe014d0074dc439b2f02865248fd8f87d0c512155134a223eb44d3", func := "caracole/caracolelaw.RoundSame", spec := "roundSame", unfollowed := true, recurses := true, apart := false, narrowed := true }
def RoundSameUptoSaid : Prop := roundSameUptoRow.holds Try.pinned (OpenSpec.upto roundSameSpec)

/-- 'caracolelaw.StoreDoes', WHERE WHAT IT READS IS OF BULK AT MOST 1048576: true; the input reads as it did. -/
def storeDoesUptoRow : OpenClaim := { program := "ytebdkaadbakhlac", sum := "0dae4adfbdbe014d0074dc439b2f02865248fd8f87d0c512155134a223eb44d3", func := "caracole/caracolelaw.StoreDoes", spec := "storeDoes", unfollowed := true, recurses := true, apart := false, narrowed := true }
def StoreDoesUptoSaid : Prop := storeDoesUptoRow.holds Try.pinned (OpenSpec.upto storeDoesSpec)

/-- 'caracolelaw.StorePicks', WHERE WHAT IT READS IS OF BULK AT MOST 1048576: true; the input reads as it did. -/
def storePicksUptoRow : OpenClaim := { program := "ytebdkaadbakhlac", sum := "0dae4adfbdbe014d0074dc439b2f02865248fd8f87d0c512155134a223eb44d3", func := "caracole/caracolelaw.StorePicks", spec := "storePicks", unfollowed := true, recurses := true, apart := false, narrowed := true }
def StorePicksUptoSaid : Prop := storePicksUptoRow.holds Try.pinned (OpenSpec.upto storePicksSpec)

/-- 'caracolelaw.StoreCrash', WHERE WHAT IT READS IS OF BULK AT MOST 1048576: true; the input reads as it did. -/
def storeCrashUptoRow : OpenClaim := { program := "ytebdkaadbakhlac", sum := "0dae4adfbdbe014d0074dc439b2f02865248fd8f87d0c512155134a223eb44d3", func := "caracole/caracolelaw.StoreCrash", spec := "storeCrash", unfollowed := true, recurses := true, apart := false, narrowed := true }
def StoreCrashUptoSaid : Prop := storeCrashUptoRow.holds Try.pinned (OpenSpec.upto storeCrashSpec)

/-- 'caracolelaw.StoreRefuses', WHERE WHAT IT READS IS OF BULK AT MOST 1048576: true; the input reads as it did. -/
def storeRefusesUptoRow : OpenClaim := { program := "ytebdkaadbakhlac", sum := "0dae4adfbdbe014d0074dc439b2f02865248fd8f87d0c512155134a223eb44d3", func := "caracole/caracolelaw.StoreRefuses", spec := "storeRefuses", unfollowed := true, recurses := true, apart := false, narrowed := true }
def StoreRefusesUptoSaid : Prop := storeRefusesUptoRow.holds Try.pinned (OpenSpec.upto storeRefusesSpec)

/-- 'caracolelaw.StoreStays', WHERE WHAT IT READS IS OF BULK AT MOST 1048576: true; the input reads as it did. -/
def storeStaysUptoRow : OpenClaim := { program := "ytebdkaadbakhlac", sum := "0dae4adfbdbe014d0074dc439b2f02865248fd8f87d0c512155134a223eb44d3", func := "caracole/caracolelaw.StoreStays", spec := "storeStays", unfollowed := true, recurses := true, apart := false, narrowed := true }
def StoreStaysUptoSaid : Prop := storeStaysUptoRow.holds Try.pinned (OpenSpec.upto storeStaysSpec)

end Rows
end Go.Proofs.Ytebdkaadbakhlac
