/-
  No cell of these rows narrows 'for every input' (looked for: loops, veiled, ifaces, maps, wideKeys, modest, calm, conditions, laid).
  DERIVED. THE GIVEN ROWS OF THIS SEAT. 11 by the template 'for every input the law returns true; each argument reads behind the call as it read before'; 0 by the template 'total and deterministic' (their statements: YtaokfppadfoniaaTotals.lean).
  GIVEN WITH THE SEED: the statements are not yours to turn. If you find one false, say at which input.
  Laid BY PROGRAM, IN A SANDBOX (cutbox-rows.mjs): the forced cells as the released guide's own fill.sh prints them over the translation f31986809f868c28… (all of the seat's roots in one cut). By AI agents, Wed Nov 11 2026. No macro, syntax, notation, axiom, sorry.
-/
import Derived.Test.YtaokfppadfoniaaChecked
import GoSem.Claim
import GoSem.ClaimJoined
import GoSem.ClaimMapViews
import Derived.JoinedTies
import Derived.KernelRfl
namespace Go.Proofs.Ytaokfppadfoniaa
/- THE CELL 'sum', in the pinned program and in every row, IS THE sha256 OF THE DUMP (.gsa) THAT YtaokfppadfoniaaProg.lean LOADS. Nothing in Lean hashes anything: it is a label: what it is worth is what the hold of that sum in a sandbox is worth. -/
noncomputable def Try.pinned : Pinned := { name := "ytaokfppadfoniaa", sum := "f31986809f868c28f00a1174314a3f04656befd062cc2ee48d5036c81358c872", checked := Try.checked }
namespace Rows
def none {H : Type} : Left H := { results := [], args := [] }

/-- 'laws.FnMakeDw': WHATEVER THE INPUT: true; the input reads as it did. -/
def fnMakeDwSpec : ChangeSpec := { name := "fnMakeDw", fn := fun _ => fun
  | [d] => { results := [.lit (.bool true)], args := [d] }
  | _ => none }
def fnMakeDwRow : OpenClaim := { program := "ytaokfppadfoniaa", sum := "f31986809f868c28f00a1174314a3f04656befd062cc2ee48d5036c81358c872", func := "loop.example/g00506/laws.FnMakeDw", spec := "fnMakeDw", apart := false }
def FnMakeDwSaid : Prop := fnMakeDwRow.holds Try.pinned (OpenSpec.ofChange fnMakeDwSpec)

/-- ITS FALSE NEIGHBOUR: 'it returns false'. Refute it at one input. -/
def fnMakeDwWrong : ChangeSpec := { name := "fnMakeDw", fn := fun _ => fun
  | [d] => { results := [.lit (.bool false)], args := [d] }
  | _ => none }
def FnMakeDwWrongFalsely : Prop := fnMakeDwRow.holds Try.pinned (OpenSpec.ofChange fnMakeDwWrong)

/-- 'laws.FnPhases': WHATEVER THE INPUT: true; the input reads as it did. -/
def fnPhasesSpec : ChangeSpec := { name := "fnPhases", fn := fun _ => fun
  | [d] => { results := [.lit (.bool true)], args := [d] }
  | _ => none }
def fnPhasesRow : OpenClaim := { program := "ytaokfppadfoniaa", sum := "f31986809f868c28f00a1174314a3f04656befd062cc2ee48d5036c81358c872", func := "loop.example/g00506/laws.FnPhases", spec := "fnPhases", apart := false }
def FnPhasesSaid : Prop := fnPhasesRow.holds Try.pinned (OpenSpec.ofChange fnPhasesSpec)

/-- ITS FALSE NEIGHBOUR: 'it returns false'. Refute it at one input. -/
def fnPhasesWrong : ChangeSpec := { name := "fnPhases", fn := fun _ => fun
  | [d] => { results := [.lit (.bool false)], args := [d] }
  | _ => none }
def FnPhasesWrongFalsely : Prop := fnPhasesRow.holds Try.pinned (OpenSpec.ofChange fnPhasesWrong)

/-- 'laws.FnBasis': WHATEVER THE INPUT: true; the input reads as it did. -/
def fnBasisSpec : ChangeSpec := { name := "fnBasis", fn := fun _ => fun
  | [d] => { results := [.lit (.bool true)], args := [d] }
  | _ => none }
def fnBasisRow : OpenClaim := { program := "ytaokfppadfoniaa", sum := "f31986809f868c28f00a1174314a3f04656befd062cc2ee48d5036c81358c872", func := "loop.example/g00506/laws.FnBasis", spec := "fnBasis", apart := false }
def FnBasisSaid : Prop := fnBasisRow.holds Try.pinned (OpenSpec.ofChange fnBasisSpec)

/-- ITS FALSE NEIGHBOUR: 'it returns false'. Refute it at one input. -/
def fnBasisWrong : ChangeSpec := { name := "fnBasis", fn := fun _ => fun
  | [d] => { results := [.lit (.bool false)], args := [d] }
  | _ => none }
def FnBasisWrongFalsely : Prop := fnBasisRow.holds Try.pinned (OpenSpec.ofChange fnBasisWrong)

/-- 'laws.FnExactScaleState': WHATEVER THE INPUT: true; the input reads as it did. -/
def fnExactScaleStateSpec : ChangeSpec := { name := "fnExactScaleState", fn := fun _ => fun
  | [d1, d2] => { results := [.lit (.bool true)], args := [d1, d2] }
  | _ => none }
def fnExactScaleStateRow : OpenClaim := { program := "ytaokfppadfoniaa", sum := "f31986809f868c28f00a1174314a3f04656befd062cc2ee48d5036c81358c872", func := "loop.example/g00506/laws.FnExactScaleState", spec := "fnExactScaleState", apart := false }
def FnExactScaleStateSaid : Prop := fnExactScaleStateRow.holds Try.pinned (OpenSpec.ofChange fnExactScaleStateSpec)

/-- ITS FALSE NEIGHBOUR: 'it returns false'. Refute it at one input. -/
def fnExactScaleStateWrong : ChangeSpec := { name := "fnExactScaleState", fn := fun _ => fun
  | [d1, d2] => { results := [.lit (.bool false)], args := [d1, d2] }
  | _ => none }
def FnExactScaleStateWrongFalsely : Prop := fnExactScaleStateRow.holds Try.pinned (OpenSpec.ofChange fnExactScaleStateWrong)

/-- 'laws.FnExactAddStates': WHATEVER THE INPUT: true; the input reads as it did. -/
def fnExactAddStatesSpec : ChangeSpec := { name := "fnExactAddStates", fn := fun _ => fun
  | [d1, d2] => { results := [.lit (.bool true)], args := [d1, d2] }
  | _ => none }
def fnExactAddStatesRow : OpenClaim := { program := "ytaokfppadfoniaa", sum := "f31986809f868c28f00a1174314a3f04656befd062cc2ee48d5036c81358c872", func := "loop.example/g00506/laws.FnExactAddStates", spec := "fnExactAddStates", apart := false }
def FnExactAddStatesSaid : Prop := fnExactAddStatesRow.holds Try.pinned (OpenSpec.ofChange fnExactAddStatesSpec)

/-- ITS FALSE NEIGHBOUR: 'it returns false'. Refute it at one input. -/
def fnExactAddStatesWrong : ChangeSpec := { name := "fnExactAddStates", fn := fun _ => fun
  | [d1, d2] => { results := [.lit (.bool false)], args := [d1, d2] }
  | _ => none }
def FnExactAddStatesWrongFalsely : Prop := fnExactAddStatesRow.holds Try.pinned (OpenSpec.ofChange fnExactAddStatesWrong)

/-- 'laws.FnExactInnerProduct': WHATEVER THE INPUT: true; the input reads as it did. -/
def fnExactInnerProductSpec : ChangeSpec := { name := "fnExactInnerProduct", fn := fun _ => fun
  | [d1, d2] => { results := [.lit (.bool true)], args := [d1, d2] }
  | _ => none }
def fnExactInnerProductRow : OpenClaim := { program := "ytaokfppadfoniaa", sum := "f31986809f868c28f00a1174314a3f04656befd062cc2ee48d5036c81358c872", func := "loop.example/g00506/laws.FnExactInnerProduct", spec := "fnExactInnerProduct", apart := false }
def FnExactInnerProductSaid : Prop := fnExactInnerProductRow.holds Try.pinned (OpenSpec.ofChange fnExactInnerProductSpec)

/-- ITS FALSE NEIGHBOUR: 'it returns false'. Refute it at one input. -/
def fnExactInnerProductWrong : ChangeSpec := { name := "fnExactInnerProduct", fn := fun _ => fun
  | [d1, d2] => { results := [.lit (.bool false)], args := [d1, d2] }
  | _ => none }
def FnExactInnerProductWrongFalsely : Prop := fnExactInnerProductRow.holds Try.pinned (OpenSpec.ofChange fnExactInnerProductWrong)

/-- 'laws.FnScaled': WHATEVER THE INPUT: true; the input reads as it did. -/
def fnScaledSpec : ChangeSpec := { name := "fnScaled", fn := fun _ => fun
  | [d] => { results := [.lit (.bool true)], args := [d] }
  | _ => none }
def fnScaledRow : OpenClaim := { program := "ytaokfppadfoniaa", sum := "f31986809f868c28f00a1174314a3f04656befd062cc2ee48d5036c81358c872", func := "loop.example/g00506/laws.FnScaled", spec := "fnScaled", apart := false }
def FnScaledSaid : Prop := fnScaledRow.holds Try.pinned (OpenSpec.ofChange fnScaledSpec)

/-- ITS FALSE NEIGHBOUR: 'it returns false'. Refute it at one input. -/
def fnScaledWrong : ChangeSpec := { name := "fnScaled", fn := fun _ => fun
  | [d] => { results := [.lit (.bool false)], args := [d] }
  | _ => none }
def FnScaledWrongFalsely : Prop := fnScaledRow.holds Try.pinned (OpenSpec.ofChange fnScaledWrong)

/-- 'laws.FnExactGlobalPhase': WHATEVER THE INPUT: true; the input reads as it did. -/
def fnExactGlobalPhaseSpec : ChangeSpec := { name := "fnExactGlobalPhase", fn := fun _ => fun
  | [d1, d2] => { results := [.lit (.bool true)], args := [d1, d2] }
  | _ => none }
def fnExactGlobalPhaseRow : OpenClaim := { program := "ytaokfppadfoniaa", sum := "f31986809f868c28f00a1174314a3f04656befd062cc2ee48d5036c81358c872", func := "loop.example/g00506/laws.FnExactGlobalPhase", spec := "fnExactGlobalPhase", apart := false }
def FnExactGlobalPhaseSaid : Prop := fnExactGlobalPhaseRow.holds Try.pinned (OpenSpec.ofChange fnExactGlobalPhaseSpec)

/-- ITS FALSE NEIGHBOUR: 'it returns false'. Refute it at one input. -/
def fnExactGlobalPhaseWrong : ChangeSpec := { name := "fnExactGlobalPhase", fn := fun _ => fun
  | [d1, d2] => { results := [.lit (.bool false)], args := [d1, d2] }
  | _ => none }
def FnExactGlobalPhaseWrongFalsely : Prop := fnExactGlobalPhaseRow.holds Try.pinned (OpenSpec.ofChange fnExactGlobalPhaseWrong)

/-- 'laws.FnVec': WHATEVER THE INPUT: true; the input reads as it did. -/
def fnVecSpec : ChangeSpec := { name := "fnVec", fn := fun _ => fun
  | [d] => { results := [.lit (.bool true)], args := [d] }
  | _ => none }
def fnVecRow : OpenClaim := { program := "ytaokfppadfoniaa", sum := "f31986809f868c28f00a1174314a3f04656befd062cc2ee48d5036c81358c872", func := "loop.example/g00506/laws.FnVec", spec := "fnVec", apart := false }
def FnVecSaid : Prop := fnVecRow.holds Try.pinned (OpenSpec.ofChange fnVecSpec)

/-- ITS FALSE NEIGHBOUR: 'it returns false'. Refute it at one input. -/
def fnVecWrong : ChangeSpec := { name := "fnVec", fn := fun _ => fun
  | [d] => { results := [.lit (.bool false)], args := [d] }
  | _ => none }
def FnVecWrongFalsely : Prop := fnVecRow.holds Try.pinned (OpenSpec.ofChange fnVecWrong)

/-- 'laws.FnExactApplyMatrix': WHATEVER THE INPUT: true; the input reads as it did. -/
def fnExactApplyMatrixSpec : ChangeSpec := { name := "fnExactApplyMatrix", fn := fun _ => fun
  | [d1, d2] => { results := [.lit (.bool true)], args := [d1, d2] }
  | _ => none }
def fnExactApplyMatrixRow : OpenClaim := { program := "ytaokfppadfoniaa", sum := "f31986809f868c28f00a1174314a3f04656befd062cc2ee48d5036c81358c872", func := "loop.example/g00506/laws.FnExactApplyMatrix", spec := "fnExactApplyMatrix", apart := false }
def FnExactApplyMatrixSaid : Prop := fnExactApplyMatrixRow.holds Try.pinned (OpenSpec.ofChange fnExactApplyMatrixSpec)

/-- ITS FALSE NEIGHBOUR: 'it returns false'. Refute it at one input. -/
def fnExactApplyMatrixWrong : ChangeSpec := { name := "fnExactApplyMatrix", fn := fun _ => fun
  | [d1, d2] => { results := [.lit (.bool false)], args := [d1, d2] }
  | _ => none }
def FnExactApplyMatrixWrongFalsely : Prop := fnExactApplyMatrixRow.holds Try.pinned (OpenSpec.ofChange fnExactApplyMatrixWrong)

/-- 'laws.FnExactMulMatrix': WHATEVER THE INPUT: true; the input reads as it did. -/
def fnExactMulMatrixSpec : ChangeSpec := { name := "fnExactMulMatrix", fn := fun _ => fun
  | [d1, d2] => { results := [.lit (.bool true)], args := [d1, d2] }
  | _ => none }
def fnExactMulMatrixRow : OpenClaim := { program := "ytaokfppadfoniaa", sum := "f31986809f868c28f00a1174314a3f04656befd062cc2ee48d5036c81358c872", func := "loop.example/g00506/laws.FnExactMulMatrix", spec := "fnExactMulMatrix", apart := false }
def FnExactMulMatrixSaid : Prop := fnExactMulMatrixRow.holds Try.pinned (OpenSpec.ofChange fnExactMulMatrixSpec)

/-- ITS FALSE NEIGHBOUR: 'it returns false'. Refute it at one input. -/
def fnExactMulMatrixWrong : ChangeSpec := { name := "fnExactMulMatrix", fn := fun _ => fun
  | [d1, d2] => { results := [.lit (.bool false)], args := [d1, d2] }
  | _ => none }
def FnExactMulMatrixWrongFalsely : Prop := fnExactMulMatrixRow.holds Try.pinned (OpenSpec.ofChange fnExactMulMatrixWrong)

/- THE SECOND FORM. 'bulk': how many values and letters a reading holds, each counted each time it is reached (what is shared counts as often as it is met; a slice's spare places count too). A statement '..UptoSaid' is the law's where the arguments, and the package variables that the reading takes, are together of bulk at most 1048576: NARROWER than '..Said'. Prove '..Said' where nothing that the law and all that it calls make is longer than what came in: it says more and counts as full. Else prove '..UptoSaid'. A law counts once. -/
mutual
def uptoBulk {H : Type} : DataW H → Nat
  | .lit (.string bytes) => bytes.length + 1
  | .lit _ => 1
  | .nil => 1
  | .ptr d => uptoBulk d + 1
  | .slice elems spare => uptoBulkAll elems + uptoBulkAll spare + 1
  | .agg parts => uptoBulkAll parts + 1
  | .iface _ d => uptoBulk d + 1
  | .map entries => uptoBulkEntries entries + 1
  | .held _ => 1
def uptoBulkAll {H : Type} : List (DataW H) → Nat
  | [] => 0
  | d :: r => uptoBulk d + uptoBulkAll r
def uptoBulkEntries {H : Type} : List (Lit × DataW H) → Nat
  | [] => 0
  | x :: r => uptoBulkEntry x + uptoBulkEntries r
def uptoBulkEntry {H : Type} : Lit × DataW H → Nat
  | (.string bytes, d) => bytes.length + uptoBulk d + 1
  | (_, d) => uptoBulk d + 1
 end
def uptoSmall : (H : Type) → List (DataW H) → Bool := fun _ ds => decide (uptoBulkAll ds ≤ 1048576)
def OpenSpec.upto (s : _root_.Go.ChangeSpec) : _root_.Go.OpenSpec := { _root_.Go.OpenSpec.ofChange s with cond := some uptoSmall }

/-- 'laws.FnMakeDw', WHERE WHAT IT READS IS OF BULK AT MOST 1048576: true; the input reads as it did. -/
def fnMakeDwUptoRow : OpenClaim := { program := "ytaokfppadfoniaa", sum := "f31986809f868c28f00a1174314a3f04656befd062cc2ee48d5036c81358c872", func := "loop.example/g00506/laws.FnMakeDw", spec := "fnMakeDw", apart := false, narrowed := true }
def FnMakeDwUptoSaid : Prop := fnMakeDwUptoRow.holds Try.pinned (OpenSpec.upto fnMakeDwSpec)

/-- 'laws.FnPhases', WHERE WHAT IT READS IS OF BULK AT MOST 1048576: true; the input reads as it did. -/
def fnPhasesUptoRow : OpenClaim := { program := "ytaokfppadfoniaa", sum := "f31986809f868c28f00a1174314a3f04656befd062cc2ee48d5036c81358c872", func := "loop.example/g00506/laws.FnPhases", spec := "fnPhases", apart := false, narrowed := true }
def FnPhasesUptoSaid : Prop := fnPhasesUptoRow.holds Try.pinned (OpenSpec.upto fnPhasesSpec)

/-- 'laws.FnBasis', WHERE WHAT IT READS IS OF BULK AT MOST 1048576: true; the input reads as it did. -/
def fnBasisUptoRow : OpenClaim := { program := "ytaokfppadfoniaa", sum := "f31986809f868c28f00a1174314a3f04656befd062cc2ee48d5036c81358c872", func := "loop.example/g00506/laws.FnBasis", spec := "fnBasis", apart := false, narrowed := true }
def FnBasisUptoSaid : Prop := fnBasisUptoRow.holds Try.pinned (OpenSpec.upto fnBasisSpec)

/-- 'laws.FnExactScaleState', WHERE WHAT IT READS IS OF BULK AT MOST 1048576: true; the input reads as it did. -/
def fnExactScaleStateUptoRow : OpenClaim := { program := "ytaokfppadfoniaa", sum := "f31986809f868c28f00a1174314a3f04656befd062cc2ee48d5036c81358c872", func := "loop.example/g00506/laws.FnExactScaleState", spec := "fnExactScaleState", apart := false, narrowed := true }
def FnExactScaleStateUptoSaid : Prop := fnExactScaleStateUptoRow.holds Try.pinned (OpenSpec.upto fnExactScaleStateSpec)

/-- 'laws.FnExactAddStates', WHERE WHAT IT READS IS OF BULK AT MOST 1048576: true; the input reads as it did. -/
def fnExactAddStatesUptoRow : OpenClaim := { program := "ytaokfppadfoniaa", sum := "f31986809f868c28f00a1174314a3f04656befd062cc2ee48d5036c81358c872", func := "loop.example/g00506/laws.FnExactAddStates", spec := "fnExactAddStates", apart := false, narrowed := true }
def FnExactAddStatesUptoSaid : Prop := fnExactAddStatesUptoRow.holds Try.pinned (OpenSpec.upto fnExactAddStatesSpec)

/-- 'laws.FnExactInnerProduct', WHERE WHAT IT READS IS OF BULK AT MOST 1048576: true; the input reads as it did. -/
def fnExactInnerProductUptoRow : OpenClaim := { program := "ytaokfppadfoniaa", sum := "f31986809f868c28f00a1174314a3f04656befd062cc2ee48d5036c81358c872", func := "loop.example/g00506/laws.FnExactInnerProduct", spec := "fnExactInnerProduct", apart := false, narrowed := true }
def FnExactInnerProductUptoSaid : Prop := fnExactInnerProductUptoRow.holds Try.pinned (OpenSpec.upto fnExactInnerProductSpec)

/-- 'laws.FnScaled', WHERE WHAT IT READS IS OF BULK AT MOST 1048576: true; the input reads as it did. -/
def fnScaledUptoRow : OpenClaim := { program := "ytaokfppadfoniaa", sum := "f31986809f868c28f00a1174314a3f04656befd062cc2ee48d5036c81358c872", func := "loop.example/g00506/laws.FnScaled", spec := "fnScaled", apart := false, narrowed := true }
def FnScaledUptoSaid : Prop := fnScaledUptoRow.holds Try.pinned (OpenSpec.upto fnScaledSpec)

/-- 'laws.FnExactGlobalPhase', WHERE WHAT IT READS IS OF BULK AT MOST 1048576: true; the input reads as it did. -/
def fnExactGlobalPhaseUptoRow : OpenClaim := { program := "ytaokfppadfoniaa", sum := "f31986809f868c28f00a1174314a3f04656befd062cc2ee48d5036c81358c872", func := "loop.example/g00506/laws.FnExactGlobalPhase", spec := "fnExactGlobalPhase", apart := false, narrowed := true }
def FnExactGlobalPhaseUptoSaid : Prop := fnExactGlobalPhaseUptoRow.holds Try.pinned (OpenSpec.upto fnExactGlobalPhaseSpec)

/-- 'laws.FnVec', WHERE WHAT IT READS IS OF BULK AT MOST 1048576: true; the input reads as it did. -/
def fnVecUptoRow : OpenClaim := { program := "ytaokfppadfoniaa", sum := "f31986809f868c28f00a1174314a3f04656befd062cc2ee48d5036c81358c872", func := "loop.example/g00506/laws.FnVec", spec := "fnVec", apart := false, narrowed := true }
def FnVecUptoSaid : Prop := fnVecUptoRow.holds Try.pinned (OpenSpec.upto fnVecSpec)

/-- 'laws.FnExactApplyMatrix', WHERE WHAT IT READS IS OF BULK AT MOST 1048576: true; the input reads as it did. -/
def fnExactApplyMatrixUptoRow : OpenClaim := { program := "ytaokfppadfoniaa", sum := "f31986809f868c28f00a1174314a3f04656befd062cc2ee48d5036c81358c872", func := "loop.example/g00506/laws.FnExactApplyMatrix", spec := "fnExactApplyMatrix", apart := false, narrowed := true }
def FnExactApplyMatrixUptoSaid : Prop := fnExactApplyMatrixUptoRow.holds Try.pinned (OpenSpec.upto fnExactApplyMatrixSpec)

/-- 'laws.FnExactMulMatrix', WHERE WHAT IT READS IS OF BULK AT MOST 1048576: true; the input reads as it did. -/
def fnExactMulMatrixUptoRow : OpenClaim := { program := "ytaokfppadfoniaa", sum := "f31986809f868c28f00a1174314a3f04656befd062cc2ee48d5036c81358c872", func := "loop.example/g00506/laws.FnExactMulMatrix", spec := "fnExactMulMatrix", apart := false, narrowed := true }
def FnExactMulMatrixUptoSaid : Prop := fnExactMulMatrixUptoRow.holds Try.pinned (OpenSpec.upto fnExactMulMatrixSpec)

end Rows
end Go.Proofs.Ytaokfppadfoniaa
