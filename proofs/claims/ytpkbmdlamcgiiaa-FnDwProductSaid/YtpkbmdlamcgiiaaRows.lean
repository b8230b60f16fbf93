/-
  No cell of these rows narrows 'for every input' (looked for: loops, veiled, ifaces, maps, wideKeys, modest, calm, conditions, laid).
  DERIVED. THE GIVEN ROWS OF THIS SEAT. 10 by the template 'for every input the law returns true; each argument reads behind the call as it read before'; 0 by the template 'total and deterministic' (their statements: YtpkbmdlamcgiiaaTotals.lean).
  GIVEN WITH THE SEED: the statements are not yours to turn. If you find one false, say at which input.
  Laid BY PROGRAM, IN A SANDBOX (cutbox-rows.mjs): the forced cells as the released guide's own fill.sh prints them over the translation 8381e3bf56546e99… (all of the seat's roots in one cut). By AI agents, Wed Nov 11 2026. No macro, syntax, notation, axiom, sorry.
-/
import Derived.Test.YtpkbmdlamcgiiaaChecked
import GoSem.Claim
import GoSem.ClaimJoined
import GoSem.ClaimMapViews
import Derived.JoinedTies
import Derived.KernelRfl
namespace Go.Proofs.Ytpkbmdlamcgiiaa
/- THE CELL 'sum', in the pinned program and in every row, IS THE sha256 OF THE DUMP (.gsa) THAT YtpkbmdlamcgiiaaProg.lean LOADS. Nothing in Lean hashes anything: it is a label: what it is worth is what the hold of that sum in a sandbox is worth. -/
noncomputable def Try.pinned : Pinned := { name := "ytpkbmdlamcgiiaa", sum := "8381e3bf56546e9922c84088c71ab77ced237cc404944e8e7b1cc7d765c8ae49", checked := Try.checked }
namespace Rows
def none {H : Type} : Left H := { results := [], args := [] }

/-- 'laws.FnMakeDw': WHATEVER THE INPUT: true; the input reads as it did. -/
def fnMakeDwSpec : ChangeSpec := { name := "fnMakeDw", fn := fun _ => fun
  | [d] => { results := [.lit (.bool true)], args := [d] }
  | _ => none }
def fnMakeDwRow : OpenClaim := { program := "ytpkbmdlamcgiiaa", sum := "8381e3bf56546e9922c84088c71ab77ced237cc404944e8e7b1cc7d765c8ae49", func := "loop.example/g00506/laws.FnMakeDw", spec := "fnMakeDw", apart := false }
def FnMakeDwSaid : Prop := fnMakeDwRow.holds Try.pinned (OpenSpec.ofChange fnMakeDwSpec)

/-- ITS FALSE NEIGHBOUR: 'it returns false'. Refute it at one input. -/
def fnMakeDwWrong : ChangeSpec := { name := "fnMakeDw", fn := fun _ => fun
  | [d] => { results := [.lit (.bool false)], args := [d] }
  | _ => none }
def FnMakeDwWrongFalsely : Prop := fnMakeDwRow.holds Try.pinned (OpenSpec.ofChange fnMakeDwWrong)

/-- 'laws.FnZwSpreads': WHATEVER THE INPUT: true; the input reads as it did. -/
def fnZwSpreadsSpec : ChangeSpec := { name := "fnZwSpreads", fn := fun _ => fun
  | [d] => { results := [.lit (.bool true)], args := [d] }
  | _ => none }
def fnZwSpreadsRow : OpenClaim := { program := "ytpkbmdlamcgiiaa", sum := "8381e3bf56546e9922c84088c71ab77ced237cc404944e8e7b1cc7d765c8ae49", func := "loop.example/g00506/laws.FnZwSpreads", spec := "fnZwSpreads", apart := false }
def FnZwSpreadsSaid : Prop := fnZwSpreadsRow.holds Try.pinned (OpenSpec.ofChange fnZwSpreadsSpec)

/-- ITS FALSE NEIGHBOUR: 'it returns false'. Refute it at one input. -/
def fnZwSpreadsWrong : ChangeSpec := { name := "fnZwSpreads", fn := fun _ => fun
  | [d] => { results := [.lit (.bool false)], args := [d] }
  | _ => none }
def FnZwSpreadsWrongFalsely : Prop := fnZwSpreadsRow.holds Try.pinned (OpenSpec.ofChange fnZwSpreadsWrong)

/-- 'laws.FnZwProduct': WHATEVER THE INPUT: true; the input reads as it did. -/
def fnZwProductSpec : ChangeSpec := { name := "fnZwProduct", fn := fun _ => fun
  | [d] => { results := [.lit (.bool true)], args := [d] }
  | _ => none }
def fnZwProductRow : OpenClaim := { program := "ytpkbmdlamcgiiaa", sum := "8381e3bf56546e9922c84088c71ab77ced237cc404944e8e7b1cc7d765c8ae49", func := "loop.example/g00506/laws.FnZwProduct", spec := "fnZwProduct", apart := false }
def FnZwProductSaid : Prop := fnZwProductRow.holds Try.pinned (OpenSpec.ofChange fnZwProductSpec)

/-- ITS FALSE NEIGHBOUR: 'it returns false'. Refute it at one input. -/
def fnZwProductWrong : ChangeSpec := { name := "fnZwProduct", fn := fun _ => fun
  | [d] => { results := [.lit (.bool false)], args := [d] }
  | _ => none }
def FnZwProductWrongFalsely : Prop := fnZwProductRow.holds Try.pinned (OpenSpec.ofChange fnZwProductWrong)

/-- 'laws.FnByRoot': WHATEVER THE INPUT: true; the input reads as it did. -/
def fnByRootSpec : ChangeSpec := { name := "fnByRoot", fn := fun _ => fun
  | [d] => { results := [.lit (.bool true)], args := [d] }
  | _ => none }
def fnByRootRow : OpenClaim := { program := "ytpkbmdlamcgiiaa", sum := "8381e3bf56546e9922c84088c71ab77ced237cc404944e8e7b1cc7d765c8ae49", func := "loop.example/g00506/laws.FnByRoot", spec := "fnByRoot", apart := false }
def FnByRootSaid : Prop := fnByRootRow.holds Try.pinned (OpenSpec.ofChange fnByRootSpec)

/-- ITS FALSE NEIGHBOUR: 'it returns false'. Refute it at one input. -/
def fnByRootWrong : ChangeSpec := { name := "fnByRoot", fn := fun _ => fun
  | [d] => { results := [.lit (.bool false)], args := [d] }
  | _ => none }
def FnByRootWrongFalsely : Prop := fnByRootRow.holds Try.pinned (OpenSpec.ofChange fnByRootWrong)

/-- 'laws.FnDwProduct': WHATEVER THE INPUT: true; the input reads as it did. -/
def fnDwProductSpec : ChangeSpec := { name := "fnDwProduct", fn := fun _ => fun
  | [d] => { results := [.lit (.bool true)], args := [d] }
  | _ => none }
def fnDwProductRow : OpenClaim := { program := "ytpkbmdlamcgiiaa", sum := "8381e3bf56546e9922c84088c71ab77ced237cc404944e8e7b1cc7d765c8ae49", func := "loop.example/g00506/laws.FnDwProduct", spec := "fnDwProduct", apart := false }
def FnDwProductSaid : Prop := fnDwProductRow.holds Try.pinned (OpenSpec.ofChange fnDwProductSpec)

/-- ITS FALSE NEIGHBOUR: 'it returns false'. Refute it at one input. -/
def fnDwProductWrong : ChangeSpec := { name := "fnDwProduct", fn := fun _ => fun
  | [d] => { results := [.lit (.bool false)], args := [d] }
  | _ => none }
def FnDwProductWrongFalsely : Prop := fnDwProductRow.holds Try.pinned (OpenSpec.ofChange fnDwProductWrong)

/-- 'laws.FnPhases': WHATEVER THE INPUT: true; the input reads as it did. -/
def fnPhasesSpec : ChangeSpec := { name := "fnPhases", fn := fun _ => fun
  | [d] => { results := [.lit (.bool true)], args := [d] }
  | _ => none }
def fnPhasesRow : OpenClaim := { program := "ytpkbmdlamcgiiaa", sum := "8381e3bf56546e9922c84088c71ab77ced237cc404944e8e7b1cc7d765c8ae49", func := "loop.example/g00506/laws.FnPhases", spec := "fnPhases", apart := false }
def FnPhasesSaid : Prop := fnPhasesRow.holds Try.pinned (OpenSpec.ofChange fnPhasesSpec)

/-- ITS FALSE NEIGHBOUR: 'it returns false'. Refute it at one input. -/
def fnPhasesWrong : ChangeSpec := { name := "fnPhases", fn := fun _ => fun
  | [d] => { results := [.lit (.bool false)], args := [d] }
  | _ => none }
def FnPhasesWrongFalsely : Prop := fnPhasesRow.holds Try.pinned (OpenSpec.ofChange fnPhasesWrong)

/-- 'laws.FnDwSpreads': WHATEVER THE INPUT: true; the input reads as it did. -/
def fnDwSpreadsSpec : ChangeSpec := { name := "fnDwSpreads", fn := fun _ => fun
  | [d] => { results := [.lit (.bool true)], args := [d] }
  | _ => none }
def fnDwSpreadsRow : OpenClaim := { program := "ytpkbmdlamcgiiaa", sum := "8381e3bf56546e9922c84088c71ab77ced237cc404944e8e7b1cc7d765c8ae49", func := "loop.example/g00506/laws.FnDwSpreads", spec := "fnDwSpreads", apart := false }
def FnDwSpreadsSaid : Prop := fnDwSpreadsRow.holds Try.pinned (OpenSpec.ofChange fnDwSpreadsSpec)

/-- ITS FALSE NEIGHBOUR: 'it returns false'. Refute it at one input. -/
def fnDwSpreadsWrong : ChangeSpec := { name := "fnDwSpreads", fn := fun _ => fun
  | [d] => { results := [.lit (.bool false)], args := [d] }
  | _ => none }
def FnDwSpreadsWrongFalsely : Prop := fnDwSpreadsRow.holds Try.pinned (OpenSpec.ofChange fnDwSpreadsWrong)

/-- 'laws.FnSize': WHATEVER THE INPUT: true; the input reads as it did. -/
def fnSizeSpec : ChangeSpec := { name := "fnSize", fn := fun _ => fun
  | [d] => { results := [.lit (.bool true)], args := [d] }
  | _ => none }
def fnSizeRow : OpenClaim := { program := "ytpkbmdlamcgiiaa", sum := "8381e3bf56546e9922c84088c71ab77ced237cc404944e8e7b1cc7d765c8ae49", func := "loop.example/g00506/laws.FnSize", spec := "fnSize", apart := false }
def FnSizeSaid : Prop := fnSizeRow.holds Try.pinned (OpenSpec.ofChange fnSizeSpec)

/-- ITS FALSE NEIGHBOUR: 'it returns false'. Refute it at one input. -/
def fnSizeWrong : ChangeSpec := { name := "fnSize", fn := fun _ => fun
  | [d] => { results := [.lit (.bool false)], args := [d] }
  | _ => none }
def FnSizeWrongFalsely : Prop := fnSizeRow.holds Try.pinned (OpenSpec.ofChange fnSizeWrong)

/-- 'laws.FnDwSum': WHATEVER THE INPUT: true; the input reads as it did. -/
def fnDwSumSpec : ChangeSpec := { name := "fnDwSum", fn := fun _ => fun
  | [d] => { results := [.lit (.bool true)], args := [d] }
  | _ => none }
def fnDwSumRow : OpenClaim := { program := "ytpkbmdlamcgiiaa", sum := "8381e3bf56546e9922c84088c71ab77ced237cc404944e8e7b1cc7d765c8ae49", func := "loop.example/g00506/laws.FnDwSum", spec := "fnDwSum", apart := false }
def FnDwSumSaid : Prop := fnDwSumRow.holds Try.pinned (OpenSpec.ofChange fnDwSumSpec)

/-- ITS FALSE NEIGHBOUR: 'it returns false'. Refute it at one input. -/
def fnDwSumWrong : ChangeSpec := { name := "fnDwSum", fn := fun _ => fun
  | [d] => { results := [.lit (.bool false)], args := [d] }
  | _ => none }
def FnDwSumWrongFalsely : Prop := fnDwSumRow.holds Try.pinned (OpenSpec.ofChange fnDwSumWrong)

/-- 'laws.FnSign': WHATEVER THE INPUT: true; the input reads as it did. -/
def fnSignSpec : ChangeSpec := { name := "fnSign", fn := fun _ => fun
  | [d] => { results := [.lit (.bool true)], args := [d] }
  | _ => none }
def fnSignRow : OpenClaim := { program := "ytpkbmdlamcgiiaa", sum := "8381e3bf56546e9922c84088c71ab77ced237cc404944e8e7b1cc7d765c8ae49", func := "loop.example/g00506/laws.FnSign", spec := "fnSign", apart := false }
def FnSignSaid : Prop := fnSignRow.holds Try.pinned (OpenSpec.ofChange fnSignSpec)

/-- ITS FALSE NEIGHBOUR: 'it returns false'. Refute it at one input. -/
def fnSignWrong : ChangeSpec := { name := "fnSign", fn := fun _ => fun
  | [d] => { results := [.lit (.bool false)], args := [d] }
  | _ => none }
def FnSignWrongFalsely : Prop := fnSignRow.holds Try.pinned (OpenSpec.ofChange fnSignWrong)

/- THE SECOND FORM. 'bulk': how many values and letters a reading holds, each counted each time it is reached (what is shared counts as often as it is met; a slice's spare places count too). A statement '..UptoSaid' is the law's where the arguments, and the package variables that the reading takes, are together of bulk at most 1048576: NARROWER than '..Said'. Prove '..Said' where nothing that the law and all that it calls make is longer than what came in: it says more and counts as full. Else prove '..UptoSaid'. A law counts once. -/
mutual
def uptoBulk {H : Type} : DataW H → Nat
  | .lit (.string bytes) => bytes.length + 1
  | .lit _ => 1
  | .nil => 1
  | .ptr d => uptoBulk d + 1
  | .slice elems spare => uptoBulkAll elems + uptoBulkAll spare + 1
  | .agg parts => uptoBulkAll parts + 1
  | .iface _ d => uptoBulk d + 1
  | .map entries => uptoBulkEntries entries + 1
  | .held _ => 1
def uptoBulkAll {H : Type} : List (DataW H) → Nat
  | [] => 0
  | d :: r => uptoBulk d + uptoBulkAll r
def uptoBulkEntries {H : Type} : List (Lit × DataW H) → Nat
  | [] => 0
  | x :: r => uptoBulkEntry x + uptoBulkEntries r
def uptoBulkEntry {H : Type} : Lit × DataW H → Nat
  | (.string bytes, d) => bytes.length + uptoBulk d + 1
  | (_, d) => uptoBulk d + 1
 end
def uptoSmall : (H : Type) → List (DataW H) → Bool := fun _ ds => decide (uptoBulkAll ds ≤ 1048576)
def OpenSpec.upto (s : _root_.Go.ChangeSpec) : _root_.Go.OpenSpec := { _root_.Go.OpenSpec.ofChange s with cond := some uptoSmall }

/-- 'laws.FnMakeDw', WHERE WHAT IT READS IS OF BULK AT MOST 1048576: true; the input reads as it did. -/
def fnMakeDwUptoRow : OpenClaim := { program := "ytpkbmdlamcgiiaa", sum := "8381e3bf56546e9922c84088c71ab77ced237cc404944e8e7b1cc7d765c8ae49", func := "loop.example/g00506/laws.FnMakeDw", spec := "fnMakeDw", apart := false, narrowed := true }
def FnMakeDwUptoSaid : Prop := fnMakeDwUptoRow.holds Try.pinned (OpenSpec.upto fnMakeDwSpec)

/-- 'laws.FnZwSpreads', WHERE WHAT IT READS IS OF BULK AT MOST 1048576: true; the input reads as it did. -/
def fnZwSpreadsUptoRow : OpenClaim := { program := "ytpkbmdlamcgiiaa", sum := "8381e3bf56546e9922c84088c71ab77ced237cc404944e8e7b1cc7d765c8ae49", func := "loop.example/g00506/laws.FnZwSpreads", spec := "fnZwSpreads", apart := false, narrowed := true }
def FnZwSpreadsUptoSaid : Prop := fnZwSpreadsUptoRow.holds Try.pinned (OpenSpec.upto fnZwSpreadsSpec)

/-- 'laws.FnZwProduct', WHERE WHAT IT READS IS OF BULK AT MOST 1048576: true; the input reads as it did. -/
def fnZwProductUptoRow : OpenClaim := { program := "ytpkbmdlamcgiiaa", sum := "8381e3bf56546e9922c84088c71ab77ced237cc404944e8e7b1cc7d765c8ae49", func := "loop.example/g00506/laws.FnZwProduct", spec := "fnZwProduct", apart := false, narrowed := true }
def FnZwProductUptoSaid : Prop := fnZwProductUptoRow.holds Try.pinned (OpenSpec.upto fnZwProductSpec)

/-- 'laws.FnByRoot', WHERE WHAT IT READS IS OF BULK AT MOST 1048576: true; the input reads as it did. -/
def fnByRootUptoRow : OpenClaim := { program := "ytpkbmdlamcgiiaa", sum := "8381e3bf56546e9922c84088c71ab77ced237cc404944e8e7b1cc7d765c8ae49", func := "loop.example/g00506/laws.FnByRoot", spec := "fnByRoot", apart := false, narrowed := true }
def FnByRootUptoSaid : Prop := fnByRootUptoRow.holds Try.pinned (OpenSpec.upto fnByRootSpec)

/-- 'laws.FnDwProduct', WHERE WHAT IT READS IS OF BULK AT MOST 1048576: true; the input reads as it did. -/
def fnDwProductUptoRow : OpenClaim := { program := "ytpkbmdlamcgiiaa", sum := "8381e3bf56546e9922c84088c71ab77ced237cc404944e8e7b1cc7d765c8ae49", func := "loop.example/g00506/laws.FnDwProduct", spec := "fnDwProduct", apart := false, narrowed := true }
def FnDwProductUptoSaid : Prop := fnDwProductUptoRow.holds Try.pinned (OpenSpec.upto fnDwProductSpec)

/-- 'laws.FnPhases', WHERE WHAT IT READS IS OF BULK AT MOST 1048576: true; the input reads as it did. -/
def fnPhasesUptoRow : OpenClaim := { program := "ytpkbmdlamcgiiaa", sum := "8381e3bf56546e9922c84088c71ab77ced237cc404944e8e7b1cc7d765c8ae49", func := "loop.example/g00506/laws.FnPhases", spec := "fnPhases", apart := false, narrowed := true }
def FnPhasesUptoSaid : Prop := fnPhasesUptoRow.holds Try.pinned (OpenSpec.upto fnPhasesSpec)

/-- 'laws.FnDwSpreads', WHERE WHAT IT READS IS OF BULK AT MOST 1048576: true; the input reads as it did. -/
def fnDwSpreadsUptoRow : OpenClaim := { program := "ytpkbmdlamcgiiaa", sum := "8381e3bf56546e9922c84088c71ab77ced237cc404944e8e7b1cc7d765c8ae49", func := "loop.example/g00506/laws.FnDwSpreads", spec := "fnDwSpreads", apart := false, narrowed := true }
def FnDwSpreadsUptoSaid : Prop := fnDwSpreadsUptoRow.holds Try.pinned (OpenSpec.upto fnDwSpreadsSpec)

/-- 'laws.FnSize', WHERE WHAT IT READS IS OF BULK AT MOST 1048576: true; the input reads as it did. -/
def fnSizeUptoRow : OpenClaim := { program := "ytpkbmdlamcgiiaa", sum := "8381e3bf56546e9922c84088c71ab77ced237cc404944e8e7b1cc7d765c8ae49", func := "loop.example/g00506/laws.FnSize", spec := "fnSize", apart := false, narrowed := true }
def FnSizeUptoSaid : Prop := fnSizeUptoRow.holds Try.pinned (OpenSpec.upto fnSizeSpec)

/-- 'laws.FnDwSum', WHERE WHAT IT READS IS OF BULK AT MOST 1048576: true; the input reads as it did. -/
def fnDwSumUptoRow : OpenClaim := { program := "ytpkbmdlamcgiiaa", sum := "8381e3bf56546e9922c84088c71ab77ced237cc404944e8e7b1cc7d765c8ae49", func := "loop.example/g00506/laws.FnDwSum", spec := "fnDwSum", apart := false, narrowed := true }
def FnDwSumUptoSaid : Prop := fnDwSumUptoRow.holds Try.pinned (OpenSpec.upto fnDwSumSpec)

/-- 'laws.FnSign', WHERE WHAT IT READS IS OF BULK AT MOST 1048576: true; the input reads as it did. -/
def fnSignUptoRow : OpenClaim := { program := "ytpkbmdlamcgiiaa", sum := "8381e3bf56546e9922c84088c71ab77ced237cc404944e8e7b1cc7d765c8ae49", func := "loop.example/g00506/laws.FnSign", spec := "fnSign", apart := false, narrowed := true }
def FnSignUptoSaid : Prop := fnSignUptoRow.holds Try.pinned (OpenSpec.upto fnSignSpec)

end Rows
end Go.Proofs.Ytpkbmdlamcgiiaa
