/-
  No cell of these rows narrows 'for every input' (looked for: loops, veiled, ifaces, maps, wideKeys, modest, calm, conditions, laid).
  DERIVED. THE GIVEN ROWS OF THIS SEAT. 12 by the template 'for every input the law returns true; each argument reads behind the call as it read before'; 0 by the template 'total and deterministic' (their statements: YtllkllnfbmcfeaaTotals.lean).
  GIVEN WITH THE SEED: the statements are not yours to turn. If you find one false, say at which input.
  Laid BY PROGRAM, IN A SANDBOX (cutbox-rows.mjs): the forced cells as the released guide's own fill.sh prints them over the translation 28b79843d34ad843… (all of the seat's roots in one cut). By AI agents, Wed Nov 11 2026. No macro, syntax, notation, axiom, sorry.
-/
import Derived.Test.YtllkllnfbmcfeaaChecked
import GoSem.Claim
import GoSem.ClaimJoined
import GoSem.ClaimMapViews
import Derived.JoinedTies
import Derived.KernelRfl
namespace Go.Proofs.Ytllkllnfbmcfeaa
/- THE CELL 'sum', in the pinned program and in every row, IS THE sha256 OF THE DUMP (.gsa) THAT YtllkllnfbmcfeaaProg.lean LOADS. Nothing in Lean hashes anything: it is a label: what it is worth is what the hold of that sum in a sandbox is worth. -/
noncomputable def Try.pinned : Pinned := { name := "ytllkllnfbmcfeaa", sum := "28b79843d34ad8438ddc2268fc14dcd00c44fdd5c416a5e733e163e8c5614c39", checked := Try.checked }
namespace Rows
def none {H : Type} : Left H := { results := [], args := [] }

/-- 'laws.FnExactAddZOmega': WHATEVER THE INPUT: true; the input reads as it did. -/
def fnExactAddZOmegaSpec : ChangeSpec := { name := "fnExactAddZOmega", fn := fun _ => fun
  | [d1, d2] => { results := [.lit (.bool true)], args := [d1, d2] }
  | _ => none }
def fnExactAddZOmegaRow : OpenClaim := { program := "ytllkllnfbmcfeaa", sum := "28b79843d34ad8438ddc2268fc14dcd00c44fdd5c416a5e733e163e8c5614c39", func := "loop.example/g00506/laws.FnExactAddZOmega", spec := "fnExactAddZOmega", apart := false }
def FnExactAddZOmegaSaid : Prop := fnExactAddZOmegaRow.holds Try.pinned (OpenSpec.ofChange fnExactAddZOmegaSpec)

/-- ITS FALSE NEIGHBOUR: 'it returns false'. Refute it at one input. -/
def fnExactAddZOmegaWrong : ChangeSpec := { name := "fnExactAddZOmega", fn := fun _ => fun
  | [d1, d2] => { results := [.lit (.bool false)], args := [d1, d2] }
  | _ => none }
def FnExactAddZOmegaWrongFalsely : Prop := fnExactAddZOmegaRow.holds Try.pinned (OpenSpec.ofChange fnExactAddZOmegaWrong)

/-- 'laws.FnExactQubitCount': WHATEVER THE INPUT: true; the input reads as it did. -/
def fnExactQubitCountSpec : ChangeSpec := { name := "fnExactQubitCount", fn := fun _ => fun
  | [d] => { results := [.lit (.bool true)], args := [d] }
  | _ => none }
def fnExactQubitCountRow : OpenClaim := { program := "ytllkllnfbmcfeaa", sum := "28b79843d34ad8438ddc2268fc14dcd00c44fdd5c416a5e733e163e8c5614c39", func := "loop.example/g00506/laws.FnExactQubitCount", spec := "fnExactQubitCount", apart := false }
def FnExactQubitCountSaid : Prop := fnExactQubitCountRow.holds Try.pinned (OpenSpec.ofChange fnExactQubitCountSpec)

/-- ITS FALSE NEIGHBOUR: 'it returns false'. Refute it at one input. -/
def fnExactQubitCountWrong : ChangeSpec := { name := "fnExactQubitCount", fn := fun _ => fun
  | [d] => { results := [.lit (.bool false)], args := [d] }
  | _ => none }
def FnExactQubitCountWrongFalsely : Prop := fnExactQubitCountRow.holds Try.pinned (OpenSpec.ofChange fnExactQubitCountWrong)

/-- 'laws.FnExactEqualState': WHATEVER THE INPUT: true; the input reads as it did. -/
def fnExactEqualStateSpec : ChangeSpec := { name := "fnExactEqualState", fn := fun _ => fun
  | [d1, d2] => { results := [.lit (.bool true)], args := [d1, d2] }
  | _ => none }
def fnExactEqualStateRow : OpenClaim := { program := "ytllkllnfbmcfeaa", sum := "28b79843d34ad8438ddc2268fc14dcd00c44fdd5c416a5e733e163e8c5614c39", func := "loop.example/g00506/laws.FnExactEqualState", spec := "fnExactEqualState", apart := false }
def FnExactEqualStateSaid : Prop := fnExactEqualStateRow.holds Try.pinned (OpenSpec.ofChange fnExactEqualStateSpec)

/-- ITS FALSE NEIGHBOUR: 'it returns false'. Refute it at one input. -/
def fnExactEqualStateWrong : ChangeSpec := { name := "fnExactEqualState", fn := fun _ => fun
  | [d1, d2] => { results := [.lit (.bool false)], args := [d1, d2] }
  | _ => none }
def FnExactEqualStateWrongFalsely : Prop := fnExactEqualStateRow.holds Try.pinned (OpenSpec.ofChange fnExactEqualStateWrong)

/-- 'laws.FnExactRealSign': WHATEVER THE INPUT: true; the input reads as it did. -/
def fnExactRealSignSpec : ChangeSpec := { name := "fnExactRealSign", fn := fun _ => fun
  | [d] => { results := [.lit (.bool true)], args := [d] }
  | _ => none }
def fnExactRealSignRow : OpenClaim := { program := "ytllkllnfbmcfeaa", sum := "28b79843d34ad8438ddc2268fc14dcd00c44fdd5c416a5e733e163e8c5614c39", func := "loop.example/g00506/laws.FnExactRealSign", spec := "fnExactRealSign", apart := false }
def FnExactRealSignSaid : Prop := fnExactRealSignRow.holds Try.pinned (OpenSpec.ofChange fnExactRealSignSpec)

/-- ITS FALSE NEIGHBOUR: 'it returns false'. Refute it at one input. -/
def fnExactRealSignWrong : ChangeSpec := { name := "fnExactRealSign", fn := fun _ => fun
  | [d] => { results := [.lit (.bool false)], args := [d] }
  | _ => none }
def FnExactRealSignWrongFalsely : Prop := fnExactRealSignRow.holds Try.pinned (OpenSpec.ofChange fnExactRealSignWrong)

/-- 'laws.FnExactNewDOmega': WHATEVER THE INPUT: true; the input reads as it did. -/
def fnExactNewDOmegaSpec : ChangeSpec := { name := "fnExactNewDOmega", fn := fun _ => fun
  | [d1, d2] => { results := [.lit (.bool true)], args := [d1, d2] }
  | _ => none }
def fnExactNewDOmegaRow : OpenClaim := { program := "ytllkllnfbmcfeaa", sum := "28b79843d34ad8438ddc2268fc14dcd00c44fdd5c416a5e733e163e8c5614c39", func := "loop.example/g00506/laws.FnExactNewDOmega", spec := "fnExactNewDOmega", apart := false }
def FnExactNewDOmegaSaid : Prop := fnExactNewDOmegaRow.holds Try.pinned (OpenSpec.ofChange fnExactNewDOmegaSpec)

/-- ITS FALSE NEIGHBOUR: 'it returns false'. Refute it at one input. -/
def fnExactNewDOmegaWrong : ChangeSpec := { name := "fnExactNewDOmega", fn := fun _ => fun
  | [d1, d2] => { results := [.lit (.bool false)], args := [d1, d2] }
  | _ => none }
def FnExactNewDOmegaWrongFalsely : Prop := fnExactNewDOmegaRow.holds Try.pinned (OpenSpec.ofChange fnExactNewDOmegaWrong)

/-- 'laws.FnExactBasisState': WHATEVER THE INPUT: true; the input reads as it did. -/
def fnExactBasisStateSpec : ChangeSpec := { name := "fnExactBasisState", fn := fun _ => fun
  | [d1, d2] => { results := [.lit (.bool true)], args := [d1, d2] }
  | _ => none }
def fnExactBasisStateRow : OpenClaim := { program := "ytllkllnfbmcfeaa", sum := "28b79843d34ad8438ddc2268fc14dcd00c44fdd5c416a5e733e163e8c5614c39", func := "loop.example/g00506/laws.FnExactBasisState", spec := "fnExactBasisState", apart := false }
def FnExactBasisStateSaid : Prop := fnExactBasisStateRow.holds Try.pinned (OpenSpec.ofChange fnExactBasisStateSpec)

/-- ITS FALSE NEIGHBOUR: 'it returns false'. Refute it at one input. -/
def fnExactBasisStateWrong : ChangeSpec := { name := "fnExactBasisState", fn := fun _ => fun
  | [d1, d2] => { results := [.lit (.bool false)], args := [d1, d2] }
  | _ => none }
def FnExactBasisStateWrongFalsely : Prop := fnExactBasisStateRow.holds Try.pinned (OpenSpec.ofChange fnExactBasisStateWrong)

/-- 'laws.FnExactConjDOmega': WHATEVER THE INPUT: true; the input reads as it did. -/
def fnExactConjDOmegaSpec : ChangeSpec := { name := "fnExactConjDOmega", fn := fun _ => fun
  | [d] => { results := [.lit (.bool true)], args := [d] }
  | _ => none }
def fnExactConjDOmegaRow : OpenClaim := { program := "ytllkllnfbmcfeaa", sum := "28b79843d34ad8438ddc2268fc14dcd00c44fdd5c416a5e733e163e8c5614c39", func := "loop.example/g00506/laws.FnExactConjDOmega", spec := "fnExactConjDOmega", apart := false }
def FnExactConjDOmegaSaid : Prop := fnExactConjDOmegaRow.holds Try.pinned (OpenSpec.ofChange fnExactConjDOmegaSpec)

/-- ITS FALSE NEIGHBOUR: 'it returns false'. Refute it at one input. -/
def fnExactConjDOmegaWrong : ChangeSpec := { name := "fnExactConjDOmega", fn := fun _ => fun
  | [d] => { results := [.lit (.bool false)], args := [d] }
  | _ => none }
def FnExactConjDOmegaWrongFalsely : Prop := fnExactConjDOmegaRow.holds Try.pinned (OpenSpec.ofChange fnExactConjDOmegaWrong)

/-- 'laws.FnExactNegDOmega': WHATEVER THE INPUT: true; the input reads as it did. -/
def fnExactNegDOmegaSpec : ChangeSpec := { name := "fnExactNegDOmega", fn := fun _ => fun
  | [d] => { results := [.lit (.bool true)], args := [d] }
  | _ => none }
def fnExactNegDOmegaRow : OpenClaim := { program := "ytllkllnfbmcfeaa", sum := "28b79843d34ad8438ddc2268fc14dcd00c44fdd5c416a5e733e163e8c5614c39", func := "loop.example/g00506/laws.FnExactNegDOmega", spec := "fnExactNegDOmega", apart := false }
def FnExactNegDOmegaSaid : Prop := fnExactNegDOmegaRow.holds Try.pinned (OpenSpec.ofChange fnExactNegDOmegaSpec)

/-- ITS FALSE NEIGHBOUR: 'it returns false'. Refute it at one input. -/
def fnExactNegDOmegaWrong : ChangeSpec := { name := "fnExactNegDOmega", fn := fun _ => fun
  | [d] => { results := [.lit (.bool false)], args := [d] }
  | _ => none }
def FnExactNegDOmegaWrongFalsely : Prop := fnExactNegDOmegaRow.holds Try.pinned (OpenSpec.ofChange fnExactNegDOmegaWrong)

/-- 'laws.FnExactIsValidState': WHATEVER THE INPUT: true; the input reads as it did. -/
def fnExactIsValidStateSpec : ChangeSpec := { name := "fnExactIsValidState", fn := fun _ => fun
  | [d] => { results := [.lit (.bool true)], args := [d] }
  | _ => none }
def fnExactIsValidStateRow : OpenClaim := { program := "ytllkllnfbmcfeaa", sum := "28b79843d34ad8438ddc2268fc14dcd00c44fdd5c416a5e733e163e8c5614c39", func := "loop.example/g00506/laws.FnExactIsValidState", spec := "fnExactIsValidState", apart := false }
def FnExactIsValidStateSaid : Prop := fnExactIsValidStateRow.holds Try.pinned (OpenSpec.ofChange fnExactIsValidStateSpec)

/-- ITS FALSE NEIGHBOUR: 'it returns false'. Refute it at one input. -/
def fnExactIsValidStateWrong : ChangeSpec := { name := "fnExactIsValidState", fn := fun _ => fun
  | [d] => { results := [.lit (.bool false)], args := [d] }
  | _ => none }
def FnExactIsValidStateWrongFalsely : Prop := fnExactIsValidStateRow.holds Try.pinned (OpenSpec.ofChange fnExactIsValidStateWrong)

/-- 'laws.FnExactEqualMatrix': WHATEVER THE INPUT: true; the input reads as it did. -/
def fnExactEqualMatrixSpec : ChangeSpec := { name := "fnExactEqualMatrix", fn := fun _ => fun
  | [d1, d2] => { results := [.lit (.bool true)], args := [d1, d2] }
  | _ => none }
def fnExactEqualMatrixRow : OpenClaim := { program := "ytllkllnfbmcfeaa", sum := "28b79843d34ad8438ddc2268fc14dcd00c44fdd5c416a5e733e163e8c5614c39", func := "loop.example/g00506/laws.FnExactEqualMatrix", spec := "fnExactEqualMatrix", apart := false }
def FnExactEqualMatrixSaid : Prop := fnExactEqualMatrixRow.holds Try.pinned (OpenSpec.ofChange fnExactEqualMatrixSpec)

/-- ITS FALSE NEIGHBOUR: 'it returns false'. Refute it at one input. -/
def fnExactEqualMatrixWrong : ChangeSpec := { name := "fnExactEqualMatrix", fn := fun _ => fun
  | [d1, d2] => { results := [.lit (.bool false)], args := [d1, d2] }
  | _ => none }
def FnExactEqualMatrixWrongFalsely : Prop := fnExactEqualMatrixRow.holds Try.pinned (OpenSpec.ofChange fnExactEqualMatrixWrong)

/-- 'laws.FnExactIdentityMatrix': WHATEVER THE INPUT: true; the input reads as it did. -/
def fnExactIdentityMatrixSpec : ChangeSpec := { name := "fnExactIdentityMatrix", fn := fun _ => fun
  | [d] => { results := [.lit (.bool true)], args := [d] }
  | _ => none }
def fnExactIdentityMatrixRow : OpenClaim := { program := "ytllkllnfbmcfeaa", sum := "28b79843d34ad8438ddc2268fc14dcd00c44fdd5c416a5e733e163e8c5614c39", func := "loop.example/g00506/laws.FnExactIdentityMatrix", spec := "fnExactIdentityMatrix", apart := false }
def FnExactIdentityMatrixSaid : Prop := fnExactIdentityMatrixRow.holds Try.pinned (OpenSpec.ofChange fnExactIdentityMatrixSpec)

/-- ITS FALSE NEIGHBOUR: 'it returns false'. Refute it at one input. -/
def fnExactIdentityMatrixWrong : ChangeSpec := { name := "fnExactIdentityMatrix", fn := fun _ => fun
  | [d] => { results := [.lit (.bool false)], args := [d] }
  | _ => none }
def FnExactIdentityMatrixWrongFalsely : Prop := fnExactIdentityMatrixRow.holds Try.pinned (OpenSpec.ofChange fnExactIdentityMatrixWrong)

/-- 'laws.FnExactIsValidMatrix': WHATEVER THE INPUT: true; the input reads as it did. -/
def fnExactIsValidMatrixSpec : ChangeSpec := { name := "fnExactIsValidMatrix", fn := fun _ => fun
  | [d] => { results := [.lit (.bool true)], args := [d] }
  | _ => none }
def fnExactIsValidMatrixRow : OpenClaim := { program := "ytllkllnfbmcfeaa", sum := "28b79843d34ad8438ddc2268fc14dcd00c44fdd5c416a5e733e163e8c5614c39", func := "loop.example/g00506/laws.FnExactIsValidMatrix", spec := "fnExactIsValidMatrix", apart := false }
def FnExactIsValidMatrixSaid : Prop := fnExactIsValidMatrixRow.holds Try.pinned (OpenSpec.ofChange fnExactIsValidMatrixSpec)

/-- ITS FALSE NEIGHBOUR: 'it returns false'. Refute it at one input. -/
def fnExactIsValidMatrixWrong : ChangeSpec := { name := "fnExactIsValidMatrix", fn := fun _ => fun
  | [d] => { results := [.lit (.bool false)], args := [d] }
  | _ => none }
def FnExactIsValidMatrixWrongFalsely : Prop := fnExactIsValidMatrixRow.holds Try.pinned (OpenSpec.ofChange fnExactIsValidMatrixWrong)

/- THE SECOND FORM. 'bulk': how many values and letters a reading holds, each counted each time it is reached (what is shared counts as often as it is met; a slice's spare places count too). A statement '..UptoSaid' is the law's where the arguments, and the package variables that the reading takes, are together of bulk at most 1048576: NARROWER than '..Said'. Prove '..Said' where nothing that the law and all that it calls make is longer than what came in: it says more and counts as full. Else prove '..UptoSaid'. A law counts once. -/
mutual
def uptoBulk {H : Type} : DataW H → Nat
  | .lit (.string bytes) => bytes.length + 1
  | .lit _ => 1
  | .nil => 1
  | .ptr d => uptoBulk d + 1
  | .slice elems spare => uptoBulkAll elems + uptoBulkAll spare + 1
  | .agg parts => uptoBulkAll parts + 1
  | .iface _ d => uptoBulk d + 1
  | .map entries => uptoBulkEntries entries + 1
  | .held _ => 1
def uptoBulkAll {H : Type} : List (DataW H) → Nat
  | [] => 0
  | d :: r => uptoBulk d + uptoBulkAll r
def uptoBulkEntries {H : Type} : List (Lit × DataW H) → Nat
  | [] => 0
  | x :: r => uptoBulkEntry x + uptoBulkEntries r
def uptoBulkEntry {H : Type} : Lit × DataW H → Nat
  | (.string bytes, d) => bytes.length + uptoBulk d + 1
  | (_, d) => uptoBulk d + 1
 end
def uptoSmall : (H : Type) → List (DataW H) → Bool := fun _ ds => decide (uptoBulkAll ds ≤ 1048576)
def OpenSpec.upto (s : _root_.Go.ChangeSpec) : _root_.Go.OpenSpec := { _root_.Go.OpenSpec.ofChange s with cond := some uptoSmall }

/-- 'laws.FnExactAddZOmega', WHERE WHAT IT READS IS OF BULK AT MOST 1048576: true; the input reads as it did. -/
def fnExactAddZOmegaUptoRow : OpenClaim := { program := "ytllkllnfbmcfeaa", sum := "28b79843d34ad8438ddc2268fc14dcd00c44fdd5c416a5e733e163e8c5614c39", func := "loop.example/g00506/laws.FnExactAddZOmega", spec := "fnExactAddZOmega", apart := false, narrowed := true }
def FnExactAddZOmegaUptoSaid : Prop := fnExactAddZOmegaUptoRow.holds Try.pinned (OpenSpec.upto fnExactAddZOmegaSpec)

/-- 'laws.FnExactQubitCount', WHERE WHAT IT READS IS OF BULK AT MOST 1048576: true; the input reads as it did. -/
def fnExactQubitCountUptoRow : OpenClaim := { program := "ytllkllnfbmcfeaa", sum := "28b79843d34ad8438ddc2268fc14dcd00c44fdd5c416a5e733e163e8c5614c39", func := "loop.example/g00506/laws.FnExactQubitCount", spec := "fnExactQubitCount", apart := false, narrowed := true }
def FnExactQubitCountUptoSaid : Prop := fnExactQubitCountUptoRow.holds Try.pinned (OpenSpec.upto fnExactQubitCountSpec)

/-- 'laws.FnExactEqualState', WHERE WHAT IT READS IS OF BULK AT MOST 1048576: true; the input reads as it did. -/
def fnExactEqualStateUptoRow : OpenClaim := { program := "ytllkllnfbmcfeaa", sum := "28b79843d34ad8438ddc2268fc14dcd00c44fdd5c416a5e733e163e8c5614c39", func := "loop.example/g00506/laws.FnExactEqualState", spec := "fnExactEqualState", apart := false, narrowed := true }
def FnExactEqualStateUptoSaid : Prop := fnExactEqualStateUptoRow.holds Try.pinned (OpenSpec.upto fnExactEqualStateSpec)

/-- 'laws.FnExactRealSign', WHERE WHAT IT READS IS OF BULK AT MOST 1048576: true; the input reads as it did. -/
def fnExactRealSignUptoRow : OpenClaim := { program := "ytllkllnfbmcfeaa", sum := "28b79843d34ad8438ddc2268fc14dcd00c44fdd5c416a5e733e163e8c5614c39", func := "loop.example/g00506/laws.FnExactRealSign", spec := "fnExactRealSign", apart := false, narrowed := true }
def FnExactRealSignUptoSaid : Prop := fnExactRealSignUptoRow.holds Try.pinned (OpenSpec.upto fnExactRealSignSpec)

/-- 'laws.FnExactNewDOmega', WHERE WHAT IT READS IS OF BULK AT MOST 1048576: true; the input reads as it did. -/
def fnExactNewDOmegaUptoRow : OpenClaim := { program := "ytllkllnfbmcfeaa", sum := "28b79843d34ad8438ddc2268fc14dcd00c44fdd5c416a5e733e163e8c5614c39", func := "loop.example/g00506/laws.FnExactNewDOmega", spec := "fnExactNewDOmega", apart := false, narrowed := true }
def FnExactNewDOmegaUptoSaid : Prop := fnExactNewDOmegaUptoRow.holds Try.pinned (OpenSpec.upto fnExactNewDOmegaSpec)

/-- 'laws.FnExactBasisState', WHERE WHAT IT READS IS OF BULK AT MOST 1048576: true; the input reads as it did. -/
def fnExactBasisStateUptoRow : OpenClaim := { program := "ytllkllnfbmcfeaa", sum := "28b79843d34ad8438ddc2268fc14dcd00c44fdd5c416a5e733e163e8c5614c39", func := "loop.example/g00506/laws.FnExactBasisState", spec := "fnExactBasisState", apart := false, narrowed := true }
def FnExactBasisStateUptoSaid : Prop := fnExactBasisStateUptoRow.holds Try.pinned (OpenSpec.upto fnExactBasisStateSpec)

/-- 'laws.FnExactConjDOmega', WHERE WHAT IT READS IS OF BULK AT MOST 1048576: true; the input reads as it did. -/
def fnExactConjDOmegaUptoRow : OpenClaim := { program := "ytllkllnfbmcfeaa", sum := "28b79843d34ad8438ddc2268fc14dcd00c44fdd5c416a5e733e163e8c5614c39", func := "loop.example/g00506/laws.FnExactConjDOmega", spec := "fnExactConjDOmega", apart := false, narrowed := true }
def FnExactConjDOmegaUptoSaid : Prop := fnExactConjDOmegaUptoRow.holds Try.pinned (OpenSpec.upto fnExactConjDOmegaSpec)

/-- 'laws.FnExactNegDOmega', WHERE WHAT IT READS IS OF BULK AT MOST 1048576: true; the input reads as it did. -/
def fnExactNegDOmegaUptoRow : OpenClaim := { program := "ytllkllnfbmcfeaa", sum := "28b79843d34ad8438ddc2268fc14dcd00c44fdd5c416a5e733e163e8c5614c39", func := "loop.example/g00506/laws.FnExactNegDOmega", spec := "fnExactNegDOmega", apart := false, narrowed := true }
def FnExactNegDOmegaUptoSaid : Prop := fnExactNegDOmegaUptoRow.holds Try.pinned (OpenSpec.upto fnExactNegDOmegaSpec)

/-- 'laws.FnExactIsValidState', WHERE WHAT IT READS IS OF BULK AT MOST 1048576: true; the input reads as it did. -/
def fnExactIsValidStateUptoRow : OpenClaim := { program := "ytllkllnfbmcfeaa", sum := "28b79843d34ad8438ddc2268fc14dcd00c44fdd5c416a5e733e163e8c5614c39", func := "loop.example/g00506/laws.FnExactIsValidState", spec := "fnExactIsValidState", apart := false, narrowed := true }
def FnExactIsValidStateUptoSaid : Prop := fnExactIsValidStateUptoRow.holds Try.pinned (OpenSpec.upto fnExactIsValidStateSpec)

/-- 'laws.FnExactEqualMatrix', WHERE WHAT IT READS IS OF BULK AT MOST 1048576: true; the input reads as it did. -/
def fnExactEqualMatrixUptoRow : OpenClaim := { program := "ytllkllnfbmcfeaa", sum := "28b79843d34ad8438ddc2268fc14dcd00c44fdd5c416a5e733e163e8c5614c39", func := "loop.example/g00506/laws.FnExactEqualMatrix", spec := "fnExactEqualMatrix", apart := false, narrowed := true }
def FnExactEqualMatrixUptoSaid : Prop := fnExactEqualMatrixUptoRow.holds Try.pinned (OpenSpec.upto fnExactEqualMatrixSpec)

/-- 'laws.FnExactIdentityMatrix', WHERE WHAT IT READS IS OF BULK AT MOST 1048576: true; the input reads as it did. -/
def fnExactIdentityMatrixUptoRow : OpenClaim := { program := "ytllkllnfbmcfeaa", sum := "28b79843d34ad8438ddc2268fc14dcd00c44fdd5c416a5e733e163e8c5614c39", func := "loop.example/g00506/laws.FnExactIdentityMatrix", spec := "fnExactIdentityMatrix", apart := false, narrowed := true }
def FnExactIdentityMatrixUptoSaid : Prop := fnExactIdentityMatrixUptoRow.holds Try.pinned (OpenSpec.upto fnExactIdentityMatrixSpec)

/-- 'laws.FnExactIsValidMatrix', WHERE WHAT IT READS IS OF BULK AT MOST 1048576: true; the input reads as it did. -/
def fnExactIsValidMatrixUptoRow : OpenClaim := { program := "ytllkllnfbmcfeaa", sum := "28b79843d34ad8438ddc2268fc14dcd00c44fdd5c416a5e733e163e8c5614c39", func := "loop.example/g00506/laws.FnExactIsValidMatrix", spec := "fnExactIsValidMatrix", apart := false, narrowed := true }
def FnExactIsValidMatrixUptoSaid : Prop := fnExactIsValidMatrixUptoRow.holds Try.pinned (OpenSpec.upto fnExactIsValidMatrixSpec)

end Rows
end Go.Proofs.Ytllkllnfbmcfeaa
