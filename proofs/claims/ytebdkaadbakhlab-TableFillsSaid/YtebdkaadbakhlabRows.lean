/-
  No cell of these rows narrows 'for every input' (looked for: loops, veiled, ifaces, maps, wideKeys, modest, calm, conditions, laid).
  DERIVED. THE GIVEN ROWS OF THIS SEAT. 11 by the template 'for every input the law returns true; each argument reads behind the call as it read before'; 0 by the template 'total and deterministic' (their statements: YtebdkaadbakhlabTotals.lean).
  GIVEN WITH THE SEED: the statements are not yours to turn. If you find one false, say at which input.
  Laid BY PROGRAM, IN A SANDBOX (cutbox-rows.mjs): the forced cells as the released guide's own fill.sh prints them over the translation 37866c84beab86cb… (all of the seat's roots in one cut). By AI agents, Wed Nov 11 2026. No macro, syntax, notation, axiom, sorry.
-/
import Derived.Test.YtebdkaadbakhlabChecked
import GoSem.Claim
import GoSem.ClaimJoined
import GoSem.ClaimMapViews
import Derived.JoinedTies
import Derived.KernelRfl
namespace Go.Proofs.Ytebdkaadbakhlab
/- THE CELL 'sum', in the pinned program and in every row, IS THE sha256 OF THE DUMP (.gsa) THAT YtebdkaadbakhlabProg.lean LOADS. Nothing in Lean hashes anything: it is a label: what it is worth is what the hold of that sum in a sandbox is worth. -/
noncomputable def Try.pinned : Pinned := { name := "ytebdkaadbakhlab", sum := "37866c84beab86cb13d4b00e1d041f69c3b622006ec9cc163fe799b3ab7ebd7b", checked := Try.checked }
namespace Rows
def none {H : Type} : Left H := { results := [], args := [] }

/-- 'caracolelaw.LogDoes': WHATEVER THE INPUT: true; the input reads as it did. -/
def logDoesSpec : ChangeSpec := { name := "logDoes", fn := fun _ => fun
  | [d1, d2, d3] => { results := [.lit (.bool true)], args := [d1, d2, d3] }
  | _ => none }
def logDoesRow : OpenClaim := { program := "ytebdkaadbakhlab", sum := "37866c84beab86cb13d4b00e1d041f69c3b622006ec9cc163fe799b3ab7ebd7b", func := "caracole/caracolelaw.LogDoes", spec := "logDoes", unfollowed := true, recurses := true, apart := false }
def LogDoesSaid : Prop := logDoesRow.holds Try.pinned (OpenSpec.ofChange logDoesSpec)

/-- ITS FALSE NEIGHBOUR: 'it returns false'. Refute it at one input. -/
def logDoesWrong : ChangeSpec := { name := "logDoes", fn := fun _ => fun
  | [d1, d2, d3] => { results := [.lit (.bool false)], args := [d1, d2, d3] }
  | _ => none }
def LogDoesWrongFalsely : Prop := logDoesRow.holds Try.pinned (OpenSpec.ofChange logDoesWrong)

/-- 'caracolelaw.LogOpens': WHATEVER THE INPUT: true; the input reads as it did. -/
def logOpensSpec : ChangeSpec := { name := "logOpens", fn := fun _ => fun
  | [d1, d2, d3] => { results := [.lit (.bool true)], args := [d1, d2, d3] }
  | _ => none }
def logOpensRow : OpenClaim := { program := "ytebdkaadbakhlab", sum := "37866c84beab86cb13d4b00e1d041f69c3b622006ec9cc163fe799b3ab7ebd7b", func := "caracole/caracolelaw.LogOpens", spec := "logOpens", unfollowed := true, recurses := true, apart := false }
def LogOpensSaid : Prop := logOpensRow.holds Try.pinned (OpenSpec.ofChange logOpensSpec)

/-- ITS FALSE NEIGHBOUR: 'it returns false'. Refute it at one input. -/
def logOpensWrong : ChangeSpec := { name := "logOpens", fn := fun _ => fun
  | [d1, d2, d3] => { results := [.lit (.bool false)], args := [d1, d2, d3] }
  | _ => none }
def LogOpensWrongFalsely : Prop := logOpensRow.holds Try.pinned (OpenSpec.ofChange logOpensWrong)

/-- 'caracolelaw.CodeKeys': WHATEVER THE INPUT: true; the input reads as it did. -/
def codeKeysSpec : ChangeSpec := { name := "codeKeys", fn := fun _ => fun
  | [d1, d2] => { results := [.lit (.bool true)], args := [d1, d2] }
  | _ => none }
def codeKeysRow : OpenClaim := { program := "ytebdkaadbakhlab", sum := "37866c84beab86cb13d4b00e1d041f69c3b622006ec9cc163fe799b3ab7ebd7b", func := "caracole/caracolelaw.CodeKeys", spec := "codeKeys", recurses := true, apart := false }
def CodeKeysSaid : Prop := codeKeysRow.holds Try.pinned (OpenSpec.ofChange codeKeysSpec)

/-- ITS FALSE NEIGHBOUR: 'it returns false'. Refute it at one input. -/
def codeKeysWrong : ChangeSpec := { name := "codeKeys", fn := fun _ => fun
  | [d1, d2] => { results := [.lit (.bool false)], args := [d1, d2] }
  | _ => none }
def CodeKeysWrongFalsely : Prop := codeKeysRow.holds Try.pinned (OpenSpec.ofChange codeKeysWrong)

/-- 'caracolelaw.CodeOne': WHATEVER THE INPUT: true; the input reads as it did. -/
def codeOneSpec : ChangeSpec := { name := "codeOne", fn := fun _ => fun
  | [d1, d2] => { results := [.lit (.bool true)], args := [d1, d2] }
  | _ => none }
def codeOneRow : OpenClaim := { program := "ytebdkaadbakhlab", sum := "37866c84beab86cb13d4b00e1d041f69c3b622006ec9cc163fe799b3ab7ebd7b", func := "caracole/caracolelaw.CodeOne", spec := "codeOne", recurses := true, apart := false }
def CodeOneSaid : Prop := codeOneRow.holds Try.pinned (OpenSpec.ofChange codeOneSpec)

/-- ITS FALSE NEIGHBOUR: 'it returns false'. Refute it at one input. -/
def codeOneWrong : ChangeSpec := { name := "codeOne", fn := fun _ => fun
  | [d1, d2] => { results := [.lit (.bool false)], args := [d1, d2] }
  | _ => none }
def CodeOneWrongFalsely : Prop := codeOneRow.holds Try.pinned (OpenSpec.ofChange codeOneWrong)

/-- 'caracolelaw.CodeDoes': WHATEVER THE INPUT: true; the input reads as it did. -/
def codeDoesSpec : ChangeSpec := { name := "codeDoes", fn := fun _ => fun
  | [d1, d2] => { results := [.lit (.bool true)], args := [d1, d2] }
  | _ => none }
def codeDoesRow : OpenClaim := { program := "ytebdkaadbakhlab", sum := "37866c84beab86cb13d4b00e1d041f69c3b622006ec9cc163fe799b3ab7ebd7b", func := "caracole/caracolelaw.CodeDoes", spec := "codeDoes", unfollowed := true, recurses := true, apart := false }
def CodeDoesSaid : Prop := codeDoesRow.holds Try.pinned (OpenSpec.ofChange codeDoesSpec)

/-- ITS FALSE NEIGHBOUR: 'it returns false'. Refute it at one input. -/
def codeDoesWrong : ChangeSpec := { name := "codeDoes", fn := fun _ => fun
  | [d1, d2] => { results := [.lit (.bool false)], args := [d1, d2] }
  | _ => none }
def CodeDoesWrongFalsely : Prop := codeDoesRow.holds Try.pinned (OpenSpec.ofChange codeDoesWrong)

/-- 'caracolelaw.TableDoes': WHATEVER THE INPUT: true; the input reads as it did. -/
def tableDoesSpec : ChangeSpec := { name := "tableDoes", fn := fun _ => fun
  | [d1, d2, d3, d4, d5] => { results := [.lit (.bool true)], args := [d1, d2, d3, d4, d5] }
  | _ => none }
def tableDoesRow : OpenClaim := { program := "ytebdkaadbakhlab", sum := "37866c84beab86cb13d4b00e1d041f69c3b622006ec9cc163fe799b3ab7ebd7b", func := "caracole/caracolelaw.TableDoes", spec := "tableDoes", unfollowed := true, recurses := true, apart := false }
def TableDoesSaid : Prop := tableDoesRow.holds Try.pinned (OpenSpec.ofChange tableDoesSpec)

/-- ITS FALSE NEIGHBOUR: 'it returns false'. Refute it at one input. -/
def tableDoesWrong : ChangeSpec := { name := "tableDoes", fn := fun _ => fun
  | [d1, d2, d3, d4, d5] => { results := [.lit (.bool false)], args := [d1, d2, d3, d4, d5] }
  | _ => none }
def TableDoesWrongFalsely : Prop := tableDoesRow.holds Try.pinned (OpenSpec.ofChange tableDoesWrong)

/-- 'caracolelaw.TableOnce': WHATEVER THE INPUT: true; the input reads as it did. -/
def tableOnceSpec : ChangeSpec := { name := "tableOnce", fn := fun _ => fun
  | [d1, d2, d3, d4, d5] => { results := [.lit (.bool true)], args := [d1, d2, d3, d4, d5] }
  | _ => none }
def tableOnceRow : OpenClaim := { program := "ytebdkaadbakhlab", sum := "37866c84beab86cb13d4b00e1d041f69c3b622006ec9cc163fe799b3ab7ebd7b", func := "caracole/caracolelaw.TableOnce", spec := "tableOnce", unfollowed := true, recurses := true, apart := false }
def TableOnceSaid : Prop := tableOnceRow.holds Try.pinned (OpenSpec.ofChange tableOnceSpec)

/-- ITS FALSE NEIGHBOUR: 'it returns false'. Refute it at one input. -/
def tableOnceWrong : ChangeSpec := { name := "tableOnce", fn := fun _ => fun
  | [d1, d2, d3, d4, d5] => { results := [.lit (.bool false)], args := [d1, d2, d3, d4, d5] }
  | _ => none }
def TableOnceWrongFalsely : Prop := tableOnceRow.holds Try.pinned (OpenSpec.ofChange tableOnceWrong)

/-- 'caracolelaw.TableFills': WHATEVER THE INPUT: true; the input reads as it did. -/
def tableFillsSpec : ChangeSpec := { name := "tableFills", fn := fun _ => fun
  | [d1, d2, d3] => { results := [.lit (.bool true)], args := [d1, d2, d3] }
  | _ => none }
def tableFillsRow : OpenClaim := { program := "ytebdkaadbakhlab", sum := "37866c84beab86cb13d4b00e1d041f69c3b622006ec9cc163fe799b3ab7ebd7b", func := "caracole/caracolelaw.TableFills", spec := "tableFills", unfollowed := true, recurses := true, apart := false }
def TableFillsSaid : Prop := tableFillsRow.holds Try.pinned (OpenSpec.ofChange tableFillsSpec)

/-- ITS FALSE NEIGHBOUR: 'it returns false'. Refute it at one input. -/
def tableFillsWrong : ChangeSpec := { name := "tableFills", fn := fun _ => fun
  | [d1, d2, d3] => { results := [.lit (.bool false)], args := [d1, d2, d3] }
  | _ => none }
def TableFillsWrongFalsely : Prop := tableFillsRow.holds Try.pinned (OpenSpec.ofChange tableFillsWrong)

/-- 'caracolelaw.WorkerWaits': WHATEVER THE INPUT: true; the input reads as it did. -/
def workerWaitsSpec : ChangeSpec := { name := "workerWaits", fn := fun _ => fun
  | [d1, d2, d3] => { results := [.lit (.bool true)], args := [d1, d2, d3] }
  | _ => none }
def workerWaitsRow : OpenClaim := { program := "ytebdkaadbakhlab", sum := "37866c84beab86cb13d4b00e1d041f69c3b622006ec9cc163fe799b3ab7ebd7b", func := "caracole/caracolelaw.WorkerWaits", spec := "workerWaits", unfollowed := true, recurses := true, apart := false }
def WorkerWaitsSaid : Prop := workerWaitsRow.holds Try.pinned (OpenSpec.ofChange workerWaitsSpec)

/-- ITS FALSE NEIGHBOUR: 'it returns false'. Refute it at one input. -/
def workerWaitsWrong : ChangeSpec := { name := "workerWaits", fn := fun _ => fun
  | [d1, d2, d3] => { results := [.lit (.bool false)], args := [d1, d2, d3] }
  | _ => none }
def WorkerWaitsWrongFalsely : Prop := workerWaitsRow.holds Try.pinned (OpenSpec.ofChange workerWaitsWrong)

/-- 'caracolelaw.WorkerOver': WHATEVER THE INPUT: true; the input reads as it did. -/
def workerOverSpec : ChangeSpec := { name := "workerOver", fn := fun _ => fun
  | [d1, d2, d3] => { results := [.lit (.bool true)], args := [d1, d2, d3] }
  | _ => none }
def workerOverRow : OpenClaim := { program := "ytebdkaadbakhlab", sum := "37866c84beab86cb13d4b00e1d041f69c3b622006ec9cc163fe799b3ab7ebd7b", func := "caracole/caracolelaw.WorkerOver", spec := "workerOver", unfollowed := true, recurses := true, apart := false }
def WorkerOverSaid : Prop := workerOverRow.holds Try.pinned (OpenSpec.ofChange workerOverSpec)

/-- ITS FALSE NEIGHBOUR: 'it returns false'. Refute it at one input. -/
def workerOverWrong : ChangeSpec := { name := "workerOver", fn := fun _ => fun
  | [d1, d2, d3] => { results := [.lit (.bool false)], args := [d1, d2, d3] }
  | _ => none }
def WorkerOverWrongFalsely : Prop := workerOverRow.holds Try.pinned (OpenSpec.ofChange workerOverWrong)

/-- 'caracolelaw.WorkerDoes': WHATEVER THE INPUT: true; the input reads as it did. -/
def workerDoesSpec : ChangeSpec := { name := "workerDoes", fn := fun _ => fun
  | [d1, d2, d3, d4] => { results := [.lit (.bool true)], args := [d1, d2, d3, d4] }
  | _ => none }
def workerDoesRow : OpenClaim := { program := "ytebdkaadbakhlab", sum := "37866c84beab86cb13d4b00e1d041f69c3b622006ec9cc163fe799b3ab7ebd7b", func := "caracole/caracolelaw.WorkerDoes", spec := "workerDoes", unfollowed := true, recurses := true, apart := false }
def WorkerDoesSaid : Prop := workerDoesRow.holds Try.pinned (OpenSpec.ofChange workerDoesSpec)

/-- ITS FALSE NEIGHBOUR: 'it returns false'. Refute it at one input. -/
def workerDoesWrong : ChangeSpec := { name := "workerDoes", fn := fun _ => fun
  | [d1, d2, d3, d4] => { results := [.lit (.bool false)], args := [d1, d2, d3, d4] }
  | _ => none }
def WorkerDoesWrongFalsely : Prop := workerDoesRow.holds Try.pinned (OpenSpec.ofChange workerDoesWrong)

/- THE SECOND FORM. 'bulk': how many values and letters a reading holds, each counted each time it is reached (what is shared counts as often as it is met; a slice's spare places count too). A statement '..UptoSaid' is the law's where the arguments, and the package variables that the reading takes, are together of bulk at most 1048576: NARROWER than '..Said'. Prove '..Said' where nothing that the law and all that it calls make is longer than what came in: it says more and counts as full. Else prove '..UptoSaid'. A law counts once. -/
mutual
def uptoBulk {H : Type} : DataW H → Nat
  | .lit (.string bytes) => bytes.length + 1
  | .lit _ => 1
  | .nil => 1
  | .ptr d => uptoBulk d + 1
  | .slice elems spare => uptoBulkAll elems + uptoBulkAll spare + 1
  | .agg parts => uptoBulkAll parts + 1
  | .iface _ d => uptoBulk d + 1
  | .map entries => uptoBulkEntries entries + 1
  | .held _ => 1
def uptoBulkAll {H : Type} : List (DataW H) → Nat
  | [] => 0
  | d :: r => uptoBulk d + uptoBulkAll r
def uptoBulkEntries {H : Type} : List (Lit × DataW H) → Nat
  | [] => 0
  | x :: r => uptoBulkEntry x + uptoBulkEntries r
def uptoBulkEntry {H : Type} : Lit × DataW H → Nat
  | (.string bytes, d) => bytes.length + uptoBulk d + 1
  | (_, d) => uptoBulk d + 1
 end
def uptoSmall : (H : Type) → List (DataW H) → Bool := fun _ ds => decide (uptoBulkAll ds ≤ 1048576)
def OpenSpec.upto (s : _root_.Go.ChangeSpec) : _root_.Go.OpenSpec := { _root_.Go.OpenSpec.ofChange s with cond := some uptoSmall }

/-- 'caracolelaw.LogDoes', WHERE WHAT IT READS IS OF BULK AT MOST 1048576: true; the input reads as it did. -/
def logDoesUptoRow : OpenClaim := { program := "ytebdkaadbakhlab", sum := "37866c84beab86cb13d4b00e1d041f69c3b622006ec9cc163fe799b3ab7ebd7b", func := "caracole/caracolelaw.LogDoes", spec := "logDoes", unfollowed := true, recurses := true, apart := false, narrowed := true }
def LogDoesUptoSaid : Prop := logDoesUptoRow.holds Try.pinned (OpenSpec.upto logDoesSpec)

/-- 'caracolelaw.LogOpens', WHERE WHAT IT READS IS OF BULK AT MOST 1048576: true; the input reads as it did. -/
def logOpensUptoRow : OpenClaim := { program := "ytebdkaadbakhlab", sum := "37866c84beab86cb13d4b00e1d041f69c3b622006ec9cc163fe799b3ab7ebd7b", func := "caracole/caracolelaw.LogOpens", spec := "logOpens", unfollowed := true, recurses := true, apart := false, narrowed := true }
def LogOpensUptoSaid : Prop := logOpensUptoRow.holds Try.pinned (OpenSpec.upto logOpensSpec)

/-- 'caracolelaw.CodeKeys', WHERE WHAT IT READS IS OF BULK AT MOST 1048576: true; the input reads as it did. -/
def codeKeysUptoRow : OpenClaim := { program := "ytebdkaadbakhlab", sum := "37866c84beab86cb13d4b00e1d041f69c3b622006ec9cc163fe799b3ab7ebd7b", func := "caracole/caracolelaw.CodeKeys", spec := "codeKeys", recurses := true, apart := false, narrowed := true }
def CodeKeysUptoSaid : Prop := codeKeysUptoRow.holds Try.pinned (OpenSpec.upto codeKeysSpec)

/-- 'caracolelaw.CodeOne', WHERE WHAT IT READS IS OF BULK AT MOST 1048576: true; the input reads as it did. -/
def codeOneUptoRow : OpenClaim := { program := "ytebdkaadbakhlab", sum := "37866c84beab86cb13d4b00e1d041f69c3b622006ec9cc163fe799b3ab7ebd7b", func := "caracole/caracolelaw.CodeOne", spec := "codeOne", recurses := true, apart := false, narrowed := true }
def CodeOneUptoSaid : Prop := codeOneUptoRow.holds Try.pinned (OpenSpec.upto codeOneSpec)

/-- 'caracolelaw.CodeDoes', WHERE WHAT IT READS IS OF BULK AT MOST 1048576: true; the input reads as it did. -/
def codeDoesUptoRow : OpenClaim := { program := "ytebdkaadbakhlab", sum := "37866c84beab86cb13d4b00e1d041f69c3b622006ec9cc163fe799b3ab7ebd7b", func := "caracole/caracolelaw.CodeDoes", spec := "codeDoes", unfollowed := true, recurses := true, apart := false, narrowed := true }
def CodeDoesUptoSaid : Prop := codeDoesUptoRow.holds Try.pinned (OpenSpec.upto codeDoesSpec)

/-- 'caracolelaw.TableDoes', WHERE WHAT IT READS IS OF BULK AT MOST 1048576: true; the input reads as it did. -/
def tableDoesUptoRow : OpenClaim := { program := "ytebdkaadbakhlab", sum := "37866c84beab86cb13d4b00e1d041f69c3b622006ec9cc163fe799b3ab7ebd7b", func := "caracole/caracolelaw.TableDoes", spec := "tableDoes", unfollowed := true, recurses := true, apart := false, narrowed := true }
def TableDoesUptoSaid : Prop := tableDoesUptoRow.holds Try.pinned (OpenSpec.upto tableDoesSpec)

/-- 'caracolelaw.TableOnce', WHERE WHAT IT READS IS OF BULK AT MOST 1048576: true; the input reads as it did. -/
def tableOnceUptoRow : OpenClaim := { program := "ytebdkaadbakhlab", sum := "37866c84beab86cb13d4b00e1d041f69c3b622006ec9cc163fe799b3ab7ebd7b", func := "caracole/caracolelaw.TableOnce", spec := "tableOnce", unfollowed := true, recurses := true, apart := false, narrowed := true }
def TableOnceUptoSaid : Prop := tableOnceUptoRow.holds Try.pinned (OpenSpec.upto tableOnceSpec)

/-- 'caracolelaw.TableFills', WHERE WHAT IT READS IS OF BULK AT MOST 1048576: true; the input reads as it did. -/
def tableFillsUptoRow : OpenClaim := { program := "ytebdkaadbakhlab", sum := "37866c84beab86cb13d4b00e1d041f69c3b622006ec9cc163fe799b3ab7ebd7b", func := "caracole/caracolelaw.TableFills", spec := "tableFills", unfollowed := true, recurses := true, apart := false, narrowed := true }
def TableFillsUptoSaid : Prop := tableFillsUptoRow.holds Try.pinned (OpenSpec.upto tableFillsSpec)

/-- 'caracolelaw.WorkerWaits', WHERE WHAT IT READS IS OF BULK AT MOST 1048576: true; the input reads as it did. -/
def workerWaitsUptoRow : OpenClaim := { program := "ytebdkaadbakhlab", sum := "37866c84beab86cb13d4b00e1d041f69c3b622006ec9cc163fe799b3ab7ebd7b", func := "caracole/caracolelaw.WorkerWaits", spec := "workerWaits", unfollowed := true, recurses := true, apart := false, narrowed := true }
def WorkerWaitsUptoSaid : Prop := workerWaitsUptoRow.holds Try.pinned (OpenSpec.upto workerWaitsSpec)

/-- 'caracolelaw.WorkerOver', WHERE WHAT IT READS IS OF BULK AT MOST 1048576: true; the input reads as it did. -/
def workerOverUptoRow : OpenClaim := { program := "ytebdkaadbakhlab", sum := "37866c84beab86cb13d4b00e1d041f69c3b622006ec9cc163fe799b3ab7ebd7b", func := "caracole/caracolelaw.WorkerOver", spec := "workerOver", unfollowed := true, recurses := true, apart := false, narrowed := true }
def WorkerOverUptoSaid : Prop := workerOverUptoRow.holds Try.pinned (OpenSpec.upto workerOverSpec)

/-- 'caracolelaw.WorkerDoes', WHERE WHAT IT READS IS OF BULK AT MOST 1048576: true; the input reads as it did. -/
def workerDoesUptoRow : OpenClaim := { program := "ytebdkaadbakhlab", sum := "37866c84beab86cb13d4b00e1d041f69c3b622006ec9cc163fe799b3ab7ebd7b", func := "caracole/caracolelaw.WorkerDoes", spec := "workerDoes", unfollowed := true, recurses := true, apart := false, narrowed := true }
def WorkerDoesUptoSaid : Prop := workerDoesUptoRow.holds Try.pinned (OpenSpec.upto workerDoesSpec)

end Rows
end Go.Proofs.Ytebdkaadbakhlab
