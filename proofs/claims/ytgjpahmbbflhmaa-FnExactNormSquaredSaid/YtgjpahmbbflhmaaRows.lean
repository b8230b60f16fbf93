/-
  No cell of these rows narrows 'for every input' (looked for: loops, veiled, ifaces, maps, wideKeys, modest, calm, conditions, laid).
  DERIVED. THE GIVEN ROWS OF THIS SEAT. 10 by the template 'for every input the law returns true; each argument reads behind the call as it read before'; 0 by the template 'total and deterministic' (their statements: YtgjpahmbbflhmaaTotals.lean).
  GIVEN WITH THE SEED: the statements are not yours to turn. If you find one false, say at which input.
  Laid BY PROGRAM, IN A SANDBOX (cutbox-rows.mjs): the forced cells as the released guide's own fill.sh prints them over the translation d1811c7a81529c91… (all of the seat's roots in one cut). By AI agents, Wed Nov 11 2026. No macro, syntax, notation, axiom, sorry.
-/
import Derived.Test.YtgjpahmbbflhmaaChecked
import GoSem.Claim
import GoSem.ClaimJoined
import GoSem.ClaimMapViews
import Derived.JoinedTies
import Derived.KernelRfl
namespace Go.Proofs.Ytgjpahmbbflhmaa
/- THE CELL 'sum', in the pinned program and in every row, IS THE sha256 OF THE DUMP (.gsa) THAT YtgjpahmbbflhmaaProg.lean LOADS. Nothing in Lean hashes anything: it is a label: what it is worth is what the hold of that sum in a sandbox is worth. -/
noncomputable def Try.pinned : Pinned := { name := "ytgjpahmbbflhmaa", sum := "d1811c7a81529c91edf07a169c46817315037e6cb5790428fa9f730903a5f37d", checked := Try.checked }
namespace Rows
def none {H : Type} : Left H := { results := [], args := [] }

/-- 'laws.FnExactMulZOmega': WHATEVER THE INPUT: true; the input reads as it did. -/
def fnExactMulZOmegaSpec : ChangeSpec := { name := "fnExactMulZOmega", fn := fun _ => fun
  | [d1, d2] => { results := [.lit (.bool true)], args := [d1, d2] }
  | _ => none }
def fnExactMulZOmegaRow : OpenClaim := { program := "ytgjpahmbbflhmaa", sum := "d1811c7a81529c91edf07a169c46817315037e6cb5790428fa9f730903a5f37d", func := "loop.example/g00506/laws.FnExactMulZOmega", spec := "fnExactMulZOmega", apart := false }
def FnExactMulZOmegaSaid : Prop := fnExactMulZOmegaRow.holds Try.pinned (OpenSpec.ofChange fnExactMulZOmegaSpec)

/-- ITS FALSE NEIGHBOUR: 'it returns false'. Refute it at one input. -/
def fnExactMulZOmegaWrong : ChangeSpec := { name := "fnExactMulZOmega", fn := fun _ => fun
  | [d1, d2] => { results := [.lit (.bool false)], args := [d1, d2] }
  | _ => none }
def FnExactMulZOmegaWrongFalsely : Prop := fnExactMulZOmegaRow.holds Try.pinned (OpenSpec.ofChange fnExactMulZOmegaWrong)

/-- 'laws.FnExactMulDOmega': WHATEVER THE INPUT: true; the input reads as it did. -/
def fnExactMulDOmegaSpec : ChangeSpec := { name := "fnExactMulDOmega", fn := fun _ => fun
  | [d1, d2] => { results := [.lit (.bool true)], args := [d1, d2] }
  | _ => none }
def fnExactMulDOmegaRow : OpenClaim := { program := "ytgjpahmbbflhmaa", sum := "d1811c7a81529c91edf07a169c46817315037e6cb5790428fa9f730903a5f37d", func := "loop.example/g00506/laws.FnExactMulDOmega", spec := "fnExactMulDOmega", apart := false }
def FnExactMulDOmegaSaid : Prop := fnExactMulDOmegaRow.holds Try.pinned (OpenSpec.ofChange fnExactMulDOmegaSpec)

/-- ITS FALSE NEIGHBOUR: 'it returns false'. Refute it at one input. -/
def fnExactMulDOmegaWrong : ChangeSpec := { name := "fnExactMulDOmega", fn := fun _ => fun
  | [d1, d2] => { results := [.lit (.bool false)], args := [d1, d2] }
  | _ => none }
def FnExactMulDOmegaWrongFalsely : Prop := fnExactMulDOmegaRow.holds Try.pinned (OpenSpec.ofChange fnExactMulDOmegaWrong)

/-- 'laws.FnExactNormSquared': WHATEVER THE INPUT: true; the input reads as it did. -/
def fnExactNormSquaredSpec : ChangeSpec := { name := "fnExactNormSquared", fn := fun _ => fun
  | [d] => { results := [.lit (.bool true)], args := [d] }
  | _ => none }
def fnExactNormSquaredRow : OpenClaim := { program := "ytgjpahmbbflhmaa", sum := "d1811c7a81529c91edf07a169c46817315037e6cb5790428fa9f730903a5f37d", func := "loop.example/g00506/laws.FnExactNormSquared", spec := "fnExactNormSquared", apart := false }
def FnExactNormSquaredSaid : Prop := fnExactNormSquaredRow.holds Try.pinned (OpenSpec.ofChange fnExactNormSquaredSpec)

/-- ITS FALSE NEIGHBOUR: 'it returns false'. Refute it at one input. -/
def fnExactNormSquaredWrong : ChangeSpec := { name := "fnExactNormSquared", fn := fun _ => fun
  | [d] => { results := [.lit (.bool false)], args := [d] }
  | _ => none }
def FnExactNormSquaredWrongFalsely : Prop := fnExactNormSquaredRow.holds Try.pinned (OpenSpec.ofChange fnExactNormSquaredWrong)

/-- 'laws.FnExactAddDOmega': WHATEVER THE INPUT: true; the input reads as it did. -/
def fnExactAddDOmegaSpec : ChangeSpec := { name := "fnExactAddDOmega", fn := fun _ => fun
  | [d1, d2] => { results := [.lit (.bool true)], args := [d1, d2] }
  | _ => none }
def fnExactAddDOmegaRow : OpenClaim := { program := "ytgjpahmbbflhmaa", sum := "d1811c7a81529c91edf07a169c46817315037e6cb5790428fa9f730903a5f37d", func := "loop.example/g00506/laws.FnExactAddDOmega", spec := "fnExactAddDOmega", apart := false }
def FnExactAddDOmegaSaid : Prop := fnExactAddDOmegaRow.holds Try.pinned (OpenSpec.ofChange fnExactAddDOmegaSpec)

/-- ITS FALSE NEIGHBOUR: 'it returns false'. Refute it at one input. -/
def fnExactAddDOmegaWrong : ChangeSpec := { name := "fnExactAddDOmega", fn := fun _ => fun
  | [d1, d2] => { results := [.lit (.bool false)], args := [d1, d2] }
  | _ => none }
def FnExactAddDOmegaWrongFalsely : Prop := fnExactAddDOmegaRow.holds Try.pinned (OpenSpec.ofChange fnExactAddDOmegaWrong)

/-- 'laws.FnExactScaleState': WHATEVER THE INPUT: true; the input reads as it did. -/
def fnExactScaleStateSpec : ChangeSpec := { name := "fnExactScaleState", fn := fun _ => fun
  | [d1, d2] => { results := [.lit (.bool true)], args := [d1, d2] }
  | _ => none }
def fnExactScaleStateRow : OpenClaim := { program := "ytgjpahmbbflhmaa", sum := "d1811c7a81529c91edf07a169c46817315037e6cb5790428fa9f730903a5f37d", func := "loop.example/g00506/laws.FnExactScaleState", spec := "fnExactScaleState", apart := false }
def FnExactScaleStateSaid : Prop := fnExactScaleStateRow.holds Try.pinned (OpenSpec.ofChange fnExactScaleStateSpec)

/-- ITS FALSE NEIGHBOUR: 'it returns false'. Refute it at one input. -/
def fnExactScaleStateWrong : ChangeSpec := { name := "fnExactScaleState", fn := fun _ => fun
  | [d1, d2] => { results := [.lit (.bool false)], args := [d1, d2] }
  | _ => none }
def FnExactScaleStateWrongFalsely : Prop := fnExactScaleStateRow.holds Try.pinned (OpenSpec.ofChange fnExactScaleStateWrong)

/-- 'laws.FnExactAddStates': WHATEVER THE INPUT: true; the input reads as it did. -/
def fnExactAddStatesSpec : ChangeSpec := { name := "fnExactAddStates", fn := fun _ => fun
  | [d1, d2] => { results := [.lit (.bool true)], args := [d1, d2] }
  | _ => none }
def fnExactAddStatesRow : OpenClaim := { program := "ytgjpahmbbflhmaa", sum := "d1811c7a81529c91edf07a169c46817315037e6cb5790428fa9f730903a5f37d", func := "loop.example/g00506/laws.FnExactAddStates", spec := "fnExactAddStates", apart := false }
def FnExactAddStatesSaid : Prop := fnExactAddStatesRow.holds Try.pinned (OpenSpec.ofChange fnExactAddStatesSpec)

/-- ITS FALSE NEIGHBOUR: 'it returns false'. Refute it at one input. -/
def fnExactAddStatesWrong : ChangeSpec := { name := "fnExactAddStates", fn := fun _ => fun
  | [d1, d2] => { results := [.lit (.bool false)], args := [d1, d2] }
  | _ => none }
def FnExactAddStatesWrongFalsely : Prop := fnExactAddStatesRow.holds Try.pinned (OpenSpec.ofChange fnExactAddStatesWrong)

/-- 'laws.FnExactInnerProduct': WHATEVER THE INPUT: true; the input reads as it did. -/
def fnExactInnerProductSpec : ChangeSpec := { name := "fnExactInnerProduct", fn := fun _ => fun
  | [d1, d2] => { results := [.lit (.bool true)], args := [d1, d2] }
  | _ => none }
def fnExactInnerProductRow : OpenClaim := { program := "ytgjpahmbbflhmaa", sum := "d1811c7a81529c91edf07a169c46817315037e6cb5790428fa9f730903a5f37d", func := "loop.example/g00506/laws.FnExactInnerProduct", spec := "fnExactInnerProduct", apart := false }
def FnExactInnerProductSaid : Prop := fnExactInnerProductRow.holds Try.pinned (OpenSpec.ofChange fnExactInnerProductSpec)

/-- ITS FALSE NEIGHBOUR: 'it returns false'. Refute it at one input. -/
def fnExactInnerProductWrong : ChangeSpec := { name := "fnExactInnerProduct", fn := fun _ => fun
  | [d1, d2] => { results := [.lit (.bool false)], args := [d1, d2] }
  | _ => none }
def FnExactInnerProductWrongFalsely : Prop := fnExactInnerProductRow.holds Try.pinned (OpenSpec.ofChange fnExactInnerProductWrong)

/-- 'laws.FnExactGlobalPhase': WHATEVER THE INPUT: true; the input reads as it did. -/
def fnExactGlobalPhaseSpec : ChangeSpec := { name := "fnExactGlobalPhase", fn := fun _ => fun
  | [d1, d2] => { results := [.lit (.bool true)], args := [d1, d2] }
  | _ => none }
def fnExactGlobalPhaseRow : OpenClaim := { program := "ytgjpahmbbflhmaa", sum := "d1811c7a81529c91edf07a169c46817315037e6cb5790428fa9f730903a5f37d", func := "loop.example/g00506/laws.FnExactGlobalPhase", spec := "fnExactGlobalPhase", apart := false }
def FnExactGlobalPhaseSaid : Prop := fnExactGlobalPhaseRow.holds Try.pinned (OpenSpec.ofChange fnExactGlobalPhaseSpec)

/-- ITS FALSE NEIGHBOUR: 'it returns false'. Refute it at one input. -/
def fnExactGlobalPhaseWrong : ChangeSpec := { name := "fnExactGlobalPhase", fn := fun _ => fun
  | [d1, d2] => { results := [.lit (.bool false)], args := [d1, d2] }
  | _ => none }
def FnExactGlobalPhaseWrongFalsely : Prop := fnExactGlobalPhaseRow.holds Try.pinned (OpenSpec.ofChange fnExactGlobalPhaseWrong)

/-- 'laws.FnExactApplyMatrix': WHATEVER THE INPUT: true; the input reads as it did. -/
def fnExactApplyMatrixSpec : ChangeSpec := { name := "fnExactApplyMatrix", fn := fun _ => fun
  | [d1, d2] => { results := [.lit (.bool true)], args := [d1, d2] }
  | _ => none }
def fnExactApplyMatrixRow : OpenClaim := { program := "ytgjpahmbbflhmaa", sum := "d1811c7a81529c91edf07a169c46817315037e6cb5790428fa9f730903a5f37d", func := "loop.example/g00506/laws.FnExactApplyMatrix", spec := "fnExactApplyMatrix", apart := false }
def FnExactApplyMatrixSaid : Prop := fnExactApplyMatrixRow.holds Try.pinned (OpenSpec.ofChange fnExactApplyMatrixSpec)

/-- ITS FALSE NEIGHBOUR: 'it returns false'. Refute it at one input. -/
def fnExactApplyMatrixWrong : ChangeSpec := { name := "fnExactApplyMatrix", fn := fun _ => fun
  | [d1, d2] => { results := [.lit (.bool false)], args := [d1, d2] }
  | _ => none }
def FnExactApplyMatrixWrongFalsely : Prop := fnExactApplyMatrixRow.holds Try.pinned (OpenSpec.ofChange fnExactApplyMatrixWrong)

/-- 'laws.FnExactMulMatrix': WHATEVER THE INPUT: true; the input reads as it did. -/
def fnExactMulMatrixSpec : ChangeSpec := { name := "fnExactMulMatrix", fn := fun _ => fun
  | [d1, d2] => { results := [.lit (.bool true)], args := [d1, d2] }
  | _ => none }
def fnExactMulMatrixRow : OpenClaim := { program := "ytgjpahmbbflhmaa", sum := "d1811c7a81529c91edf07a169c46817315037e6cb5790428fa9f730903a5f37d", func := "loop.example/g00506/laws.FnExactMulMatrix", spec := "fnExactMulMatrix", apart := false }
def FnExactMulMatrixSaid : Prop := fnExactMulMatrixRow.holds Try.pinned (OpenSpec.ofChange fnExactMulMatrixSpec)

/-- ITS FALSE NEIGHBOUR: 'it returns false'. Refute it at one input. -/
def fnExactMulMatrixWrong : ChangeSpec := { name := "fnExactMulMatrix", fn := fun _ => fun
  | [d1, d2] => { results := [.lit (.bool false)], args := [d1, d2] }
  | _ => none }
def FnExactMulMatrixWrongFalsely : Prop := fnExactMulMatrixRow.holds Try.pinned (OpenSpec.ofChange fnExactMulMatrixWrong)

/- THE SECOND FORM. 'bulk': how many values and letters a reading holds, each counted each time it is reached (what is shared counts as often as it is met; a slice's spare places count too). A statement '..UptoSaid' is the law's where the arguments, and the package variables that the reading takes, are together of bulk at most 1048576: NARROWER than '..Said'. Prove '..Said' where nothing that the law and all that it calls make is longer than what came in: it says more and counts as full. Else prove '..UptoSaid'. A law counts once. -/
mutual
def uptoBulk {H : Type} : DataW H → Nat
  | .lit (.string bytes) => bytes.length + 1
  | .lit _ => 1
  | .nil => 1
  | .ptr d => uptoBulk d + 1
  | .slice elems spare => uptoBulkAll elems + uptoBulkAll spare + 1
  | .agg parts => uptoBulkAll parts + 1
  | .iface _ d => uptoBulk d + 1
  | .map entries => uptoBulkEntries entries + 1
  | .held _ => 1
def uptoBulkAll {H : Type} : List (DataW H) → Nat
  | [] => 0
  | d :: r => uptoBulk d + uptoBulkAll r
def uptoBulkEntries {H : Type} : List (Lit × DataW H) → Nat
  | [] => 0
  | x :: r => uptoBulkEntry x + uptoBulkEntries r
def uptoBulkEntry {H : Type} : Lit × DataW H → Nat
  | (.string bytes, d) => bytes.length + uptoBulk d + 1
  | (_, d) => uptoBulk d + 1
 end
def uptoSmall : (H : Type) → List (DataW H) → Bool := fun _ ds => decide (uptoBulkAll ds ≤ 1048576)
def OpenSpec.upto (s : _root_.Go.ChangeSpec) : _root_.Go.OpenSpec := { _root_.Go.OpenSpec.ofChange s with cond := some uptoSmall }

/-- 'laws.FnExactMulZOmega', WHERE WHAT IT READS IS OF BULK AT MOST 1048576: true; the input reads as it did. -/
def fnExactMulZOmegaUptoRow : OpenClaim := { program := "ytgjpahmbbflhmaa", sum := "d1811c7a81529c91edf07a169c46817315037e6cb5790428fa9f730903a5f37d", func := "loop.example/g00506/laws.FnExactMulZOmega", spec := "fnExactMulZOmega", apart := false, narrowed := true }
def FnExactMulZOmegaUptoSaid : Prop := fnExactMulZOmegaUptoRow.holds Try.pinned (OpenSpec.upto fnExactMulZOmegaSpec)

/-- 'laws.FnExactMulDOmega', WHERE WHAT IT READS IS OF BULK AT MOST 1048576: true; the input reads as it did. -/
def fnExactMulDOmegaUptoRow : OpenClaim := { program := "ytgjpahmbbflhmaa", sum := "d1811c7a81529c91edf07a169c46817315037e6cb5790428fa9f730903a5f37d", func := "loop.example/g00506/laws.FnExactMulDOmega", spec := "fnExactMulDOmega", apart := false, narrowed := true }
def FnExactMulDOmegaUptoSaid : Prop := fnExactMulDOmegaUptoRow.holds Try.pinned (OpenSpec.upto fnExactMulDOmegaSpec)

/-- 'laws.FnExactNormSquared', WHERE WHAT IT READS IS OF BULK AT MOST 1048576: true; the input reads as it did. -/
def fnExactNormSquaredUptoRow : OpenClaim := { program := "ytgjpahmbbflhmaa", sum := "d1811c7a81529c91edf07a169c46817315037e6cb5790428fa9f730903a5f37d", func := "loop.example/g00506/laws.FnExactNormSquared", spec := "fnExactNormSquared", apart := false, narrowed := true }
def FnExactNormSquaredUptoSaid : Prop := fnExactNormSquaredUptoRow.holds Try.pinned (OpenSpec.upto fnExactNormSquaredSpec)

/-- 'laws.FnExactAddDOmega', WHERE WHAT IT READS IS OF BULK AT MOST 1048576: true; the input reads as it did. -/
def fnExactAddDOmegaUptoRow : OpenClaim := { program := "ytgjpahmbbflhmaa", sum := "d1811c7a81529c91edf07a169c46817315037e6cb5790428fa9f730903a5f37d", func := "loop.example/g00506/laws.FnExactAddDOmega", spec := "fnExactAddDOmega", apart := false, narrowed := true }
def FnExactAddDOmegaUptoSaid : Prop := fnExactAddDOmegaUptoRow.holds Try.pinned (OpenSpec.upto fnExactAddDOmegaSpec)

/-- 'laws.FnExactScaleState', WHERE WHAT IT READS IS OF BULK AT MOST 1048576: true; the input reads as it did. -/
def fnExactScaleStateUptoRow : OpenClaim := { program := "ytgjpahmbbflhmaa", sum := "d1811c7a81529c91edf07a169c46817315037e6cb5790428fa9f730903a5f37d", func := "loop.example/g00506/laws.FnExactScaleState", spec := "fnExactScaleState", apart := false, narrowed := true }
def FnExactScaleStateUptoSaid : Prop := fnExactScaleStateUptoRow.holds Try.pinned (OpenSpec.upto fnExactScaleStateSpec)

/-- 'laws.FnExactAddStates', WHERE WHAT IT READS IS OF BULK AT MOST 1048576: true; the input reads as it did. -/
def fnExactAddStatesUptoRow : OpenClaim := { program := "ytgjpahmbbflhmaa", sum := "d1811c7a81529c91edf07a169c46817315037e6cb5790428fa9f730903a5f37d", func := "loop.example/g00506/laws.FnExactAddStates", spec := "fnExactAddStates", apart := false, narrowed := true }
def FnExactAddStatesUptoSaid : Prop := fnExactAddStatesUptoRow.holds Try.pinned (OpenSpec.upto fnExactAddStatesSpec)

/-- 'laws.FnExactInnerProduct', WHERE WHAT IT READS IS OF BULK AT MOST 1048576: true; the input reads as it did. -/
def fnExactInnerProductUptoRow : OpenClaim := { program := "ytgjpahmbbflhmaa", sum := "d1811c7a81529c91edf07a169c46817315037e6cb5790428fa9f730903a5f37d", func := "loop.example/g00506/laws.FnExactInnerProduct", spec := "fnExactInnerProduct", apart := false, narrowed := true }
def FnExactInnerProductUptoSaid : Prop := fnExactInnerProductUptoRow.holds Try.pinned (OpenSpec.upto fnExactInnerProductSpec)

/-- 'laws.FnExactGlobalPhase', WHERE WHAT IT READS IS OF BULK AT MOST 1048576: true; the input reads as it did. -/
def fnExactGlobalPhaseUptoRow : OpenClaim := { program := "ytgjpahmbbflhmaa", sum := "d1811c7a81529c91edf07a169c46817315037e6cb5790428fa9f730903a5f37d", func := "loop.example/g00506/laws.FnExactGlobalPhase", spec := "fnExactGlobalPhase", apart := false, narrowed := true }
def FnExactGlobalPhaseUptoSaid : Prop := fnExactGlobalPhaseUptoRow.holds Try.pinned (OpenSpec.upto fnExactGlobalPhaseSpec)

/-- 'laws.FnExactApplyMatrix', WHERE WHAT IT READS IS OF BULK AT MOST 1048576: true; the input reads as it did. -/
def fnExactApplyMatrixUptoRow : OpenClaim := { program := "ytgjpahmbbflhmaa", sum := "d1811c7a81529c91edf07a169c46817315037e6cb5790428fa9f730903a5f37d", func := "loop.example/g00506/laws.FnExactApplyMatrix", spec := "fnExactApplyMatrix", apart := false, narrowed := true }
def FnExactApplyMatrixUptoSaid : Prop := fnExactApplyMatrixUptoRow.holds Try.pinned (OpenSpec.upto fnExactApplyMatrixSpec)

/-- 'laws.FnExactMulMatrix', WHERE WHAT IT READS IS OF BULK AT MOST 1048576: true; the input reads as it did. -/
def fnExactMulMatrixUptoRow : OpenClaim := { program := "ytgjpahmbbflhmaa", sum := "d1811c7a81529c91edf07a169c46817315037e6cb5790428fa9f730903a5f37d", func := "loop.example/g00506/laws.FnExactMulMatrix", spec := "fnExactMulMatrix", apart := false, narrowed := true }
def FnExactMulMatrixUptoSaid : Prop := fnExactMulMatrixUptoRow.holds Try.pinned (OpenSpec.upto fnExactMulMatrixSpec)

end Rows
end Go.Proofs.Ytgjpahmbbflhmaa
