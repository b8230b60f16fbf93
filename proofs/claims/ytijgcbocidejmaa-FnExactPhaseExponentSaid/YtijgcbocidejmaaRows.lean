/-
  No cell of these rows narrows 'for every input' (looked for: loops, veiled, ifaces, maps, wideKeys, modest, calm, conditions, laid).
  DERIVED. THE GIVEN ROWS OF THIS SEAT. 12 by the template 'for every input the law returns true; each argument reads behind the call as it read before'; 0 by the template 'total and deterministic' (their statements: YtijgcbocidejmaaTotals.lean).
  GIVEN WITH THE SEED: the statements are not yours to turn. If you find one false, say at which input.
  Laid BY PROGRAM, IN A SANDBOX (cutbox-rows.mjs): the forced cells as the released guide's own fill.sh prints them over the translation ccd4d4de337b5697… (all of the seat's roots in one cut). By AI agents, Wed Nov 11 2026. No macro, syntax, notation, axiom, sorry.
-/
import Derived.Test.YtijgcbocidejmaaChecked
import GoSem.Claim
import GoSem.ClaimJoined
import GoSem.ClaimMapViews
import Derived.JoinedTies
import Derived.KernelRfl
namespace Go.Proofs.Ytijgcbocidejmaa
/- THE CELL 'sum', in the pinned program and in every row, IS THE sha256 OF THE DUMP (.gsa) THAT YtijgcbocidejmaaProg.lean LOADS. Nothing in Lean hashes anything: it is a label: what it is worth is what the hold of that sum in a sandbox is worth. -/
noncomputable def Try.pinned : Pinned := { name := "ytijgcbocidejmaa", sum := "ccd4d4de337b5697cf2898ceda9febfab4ddc299d72eb6be3c1f9612fae4fc5b", checked := Try.checked }
namespace Rows
def none {H : Type} : Left H := { results := [], args := [] }

/-- 'laws.FnExactConstants': WHATEVER THE INPUT: true; the input reads as it did. -/
def fnExactConstantsSpec : ChangeSpec := { name := "fnExactConstants", fn := fun _ => fun
  | [] => { results := [.lit (.bool true)], args := [] }
  | _ => none }
def fnExactConstantsRow : OpenClaim := { program := "ytijgcbocidejmaa", sum := "ccd4d4de337b5697cf2898ceda9febfab4ddc299d72eb6be3c1f9612fae4fc5b", func := "loop.example/g00506/laws.FnExactConstants", spec := "fnExactConstants", apart := false }
def FnExactConstantsSaid : Prop := fnExactConstantsRow.holds Try.pinned (OpenSpec.ofChange fnExactConstantsSpec)

/-- ITS FALSE NEIGHBOUR: 'it returns false'. Refute it at one input. -/
def fnExactConstantsWrong : ChangeSpec := { name := "fnExactConstants", fn := fun _ => fun
  | [] => { results := [.lit (.bool false)], args := [] }
  | _ => none }
def FnExactConstantsWrongFalsely : Prop := fnExactConstantsRow.holds Try.pinned (OpenSpec.ofChange fnExactConstantsWrong)

/-- 'laws.FnExactIsValidZOmega': WHATEVER THE INPUT: true; the input reads as it did. -/
def fnExactIsValidZOmegaSpec : ChangeSpec := { name := "fnExactIsValidZOmega", fn := fun _ => fun
  | [d] => { results := [.lit (.bool true)], args := [d] }
  | _ => none }
def fnExactIsValidZOmegaRow : OpenClaim := { program := "ytijgcbocidejmaa", sum := "ccd4d4de337b5697cf2898ceda9febfab4ddc299d72eb6be3c1f9612fae4fc5b", func := "loop.example/g00506/laws.FnExactIsValidZOmega", spec := "fnExactIsValidZOmega", apart := false }
def FnExactIsValidZOmegaSaid : Prop := fnExactIsValidZOmegaRow.holds Try.pinned (OpenSpec.ofChange fnExactIsValidZOmegaSpec)

/-- ITS FALSE NEIGHBOUR: 'it returns false'. Refute it at one input. -/
def fnExactIsValidZOmegaWrong : ChangeSpec := { name := "fnExactIsValidZOmega", fn := fun _ => fun
  | [d] => { results := [.lit (.bool false)], args := [d] }
  | _ => none }
def FnExactIsValidZOmegaWrongFalsely : Prop := fnExactIsValidZOmegaRow.holds Try.pinned (OpenSpec.ofChange fnExactIsValidZOmegaWrong)

/-- 'laws.FnExactOneDOmega': WHATEVER THE INPUT: true; the input reads as it did. -/
def fnExactOneDOmegaSpec : ChangeSpec := { name := "fnExactOneDOmega", fn := fun _ => fun
  | [] => { results := [.lit (.bool true)], args := [] }
  | _ => none }
def fnExactOneDOmegaRow : OpenClaim := { program := "ytijgcbocidejmaa", sum := "ccd4d4de337b5697cf2898ceda9febfab4ddc299d72eb6be3c1f9612fae4fc5b", func := "loop.example/g00506/laws.FnExactOneDOmega", spec := "fnExactOneDOmega", apart := false }
def FnExactOneDOmegaSaid : Prop := fnExactOneDOmegaRow.holds Try.pinned (OpenSpec.ofChange fnExactOneDOmegaSpec)

/-- ITS FALSE NEIGHBOUR: 'it returns false'. Refute it at one input. -/
def fnExactOneDOmegaWrong : ChangeSpec := { name := "fnExactOneDOmega", fn := fun _ => fun
  | [] => { results := [.lit (.bool false)], args := [] }
  | _ => none }
def FnExactOneDOmegaWrongFalsely : Prop := fnExactOneDOmegaRow.holds Try.pinned (OpenSpec.ofChange fnExactOneDOmegaWrong)

/-- 'laws.FnExactInvSqrt2Power': WHATEVER THE INPUT: true; the input reads as it did. -/
def fnExactInvSqrt2PowerSpec : ChangeSpec := { name := "fnExactInvSqrt2Power", fn := fun _ => fun
  | [d] => { results := [.lit (.bool true)], args := [d] }
  | _ => none }
def fnExactInvSqrt2PowerRow : OpenClaim := { program := "ytijgcbocidejmaa", sum := "ccd4d4de337b5697cf2898ceda9febfab4ddc299d72eb6be3c1f9612fae4fc5b", func := "loop.example/g00506/laws.FnExactInvSqrt2Power", spec := "fnExactInvSqrt2Power", apart := false }
def FnExactInvSqrt2PowerSaid : Prop := fnExactInvSqrt2PowerRow.holds Try.pinned (OpenSpec.ofChange fnExactInvSqrt2PowerSpec)

/-- ITS FALSE NEIGHBOUR: 'it returns false'. Refute it at one input. -/
def fnExactInvSqrt2PowerWrong : ChangeSpec := { name := "fnExactInvSqrt2Power", fn := fun _ => fun
  | [d] => { results := [.lit (.bool false)], args := [d] }
  | _ => none }
def FnExactInvSqrt2PowerWrongFalsely : Prop := fnExactInvSqrt2PowerRow.holds Try.pinned (OpenSpec.ofChange fnExactInvSqrt2PowerWrong)

/-- 'laws.FnExactConjZOmega': WHATEVER THE INPUT: true; the input reads as it did. -/
def fnExactConjZOmegaSpec : ChangeSpec := { name := "fnExactConjZOmega", fn := fun _ => fun
  | [d] => { results := [.lit (.bool true)], args := [d] }
  | _ => none }
def fnExactConjZOmegaRow : OpenClaim := { program := "ytijgcbocidejmaa", sum := "ccd4d4de337b5697cf2898ceda9febfab4ddc299d72eb6be3c1f9612fae4fc5b", func := "loop.example/g00506/laws.FnExactConjZOmega", spec := "fnExactConjZOmega", apart := false }
def FnExactConjZOmegaSaid : Prop := fnExactConjZOmegaRow.holds Try.pinned (OpenSpec.ofChange fnExactConjZOmegaSpec)

/-- ITS FALSE NEIGHBOUR: 'it returns false'. Refute it at one input. -/
def fnExactConjZOmegaWrong : ChangeSpec := { name := "fnExactConjZOmega", fn := fun _ => fun
  | [d] => { results := [.lit (.bool false)], args := [d] }
  | _ => none }
def FnExactConjZOmegaWrongFalsely : Prop := fnExactConjZOmegaRow.holds Try.pinned (OpenSpec.ofChange fnExactConjZOmegaWrong)

/-- 'laws.FnExactNegZOmega': WHATEVER THE INPUT: true; the input reads as it did. -/
def fnExactNegZOmegaSpec : ChangeSpec := { name := "fnExactNegZOmega", fn := fun _ => fun
  | [d] => { results := [.lit (.bool true)], args := [d] }
  | _ => none }
def fnExactNegZOmegaRow : OpenClaim := { program := "ytijgcbocidejmaa", sum := "ccd4d4de337b5697cf2898ceda9febfab4ddc299d72eb6be3c1f9612fae4fc5b", func := "loop.example/g00506/laws.FnExactNegZOmega", spec := "fnExactNegZOmega", apart := false }
def FnExactNegZOmegaSaid : Prop := fnExactNegZOmegaRow.holds Try.pinned (OpenSpec.ofChange fnExactNegZOmegaSpec)

/-- ITS FALSE NEIGHBOUR: 'it returns false'. Refute it at one input. -/
def fnExactNegZOmegaWrong : ChangeSpec := { name := "fnExactNegZOmega", fn := fun _ => fun
  | [d] => { results := [.lit (.bool false)], args := [d] }
  | _ => none }
def FnExactNegZOmegaWrongFalsely : Prop := fnExactNegZOmegaRow.holds Try.pinned (OpenSpec.ofChange fnExactNegZOmegaWrong)

/-- 'laws.FnExactSqrt2ConjZOmega': WHATEVER THE INPUT: true; the input reads as it did. -/
def fnExactSqrt2ConjZOmegaSpec : ChangeSpec := { name := "fnExactSqrt2ConjZOmega", fn := fun _ => fun
  | [d] => { results := [.lit (.bool true)], args := [d] }
  | _ => none }
def fnExactSqrt2ConjZOmegaRow : OpenClaim := { program := "ytijgcbocidejmaa", sum := "ccd4d4de337b5697cf2898ceda9febfab4ddc299d72eb6be3c1f9612fae4fc5b", func := "loop.example/g00506/laws.FnExactSqrt2ConjZOmega", spec := "fnExactSqrt2ConjZOmega", apart := false }
def FnExactSqrt2ConjZOmegaSaid : Prop := fnExactSqrt2ConjZOmegaRow.holds Try.pinned (OpenSpec.ofChange fnExactSqrt2ConjZOmegaSpec)

/-- ITS FALSE NEIGHBOUR: 'it returns false'. Refute it at one input. -/
def fnExactSqrt2ConjZOmegaWrong : ChangeSpec := { name := "fnExactSqrt2ConjZOmega", fn := fun _ => fun
  | [d] => { results := [.lit (.bool false)], args := [d] }
  | _ => none }
def FnExactSqrt2ConjZOmegaWrongFalsely : Prop := fnExactSqrt2ConjZOmegaRow.holds Try.pinned (OpenSpec.ofChange fnExactSqrt2ConjZOmegaWrong)

/-- 'laws.FnExactIsValidDOmega': WHATEVER THE INPUT: true; the input reads as it did. -/
def fnExactIsValidDOmegaSpec : ChangeSpec := { name := "fnExactIsValidDOmega", fn := fun _ => fun
  | [d] => { results := [.lit (.bool true)], args := [d] }
  | _ => none }
def fnExactIsValidDOmegaRow : OpenClaim := { program := "ytijgcbocidejmaa", sum := "ccd4d4de337b5697cf2898ceda9febfab4ddc299d72eb6be3c1f9612fae4fc5b", func := "loop.example/g00506/laws.FnExactIsValidDOmega", spec := "fnExactIsValidDOmega", apart := false }
def FnExactIsValidDOmegaSaid : Prop := fnExactIsValidDOmegaRow.holds Try.pinned (OpenSpec.ofChange fnExactIsValidDOmegaSpec)

/-- ITS FALSE NEIGHBOUR: 'it returns false'. Refute it at one input. -/
def fnExactIsValidDOmegaWrong : ChangeSpec := { name := "fnExactIsValidDOmega", fn := fun _ => fun
  | [d] => { results := [.lit (.bool false)], args := [d] }
  | _ => none }
def FnExactIsValidDOmegaWrongFalsely : Prop := fnExactIsValidDOmegaRow.holds Try.pinned (OpenSpec.ofChange fnExactIsValidDOmegaWrong)

/-- 'laws.FnExactDivSqrt2': WHATEVER THE INPUT: true; the input reads as it did. -/
def fnExactDivSqrt2Spec : ChangeSpec := { name := "fnExactDivSqrt2", fn := fun _ => fun
  | [d] => { results := [.lit (.bool true)], args := [d] }
  | _ => none }
def fnExactDivSqrt2Row : OpenClaim := { program := "ytijgcbocidejmaa", sum := "ccd4d4de337b5697cf2898ceda9febfab4ddc299d72eb6be3c1f9612fae4fc5b", func := "loop.example/g00506/laws.FnExactDivSqrt2", spec := "fnExactDivSqrt2", apart := false }
def FnExactDivSqrt2Said : Prop := fnExactDivSqrt2Row.holds Try.pinned (OpenSpec.ofChange fnExactDivSqrt2Spec)

/-- ITS FALSE NEIGHBOUR: 'it returns false'. Refute it at one input. -/
def fnExactDivSqrt2Wrong : ChangeSpec := { name := "fnExactDivSqrt2", fn := fun _ => fun
  | [d] => { results := [.lit (.bool false)], args := [d] }
  | _ => none }
def FnExactDivSqrt2WrongFalsely : Prop := fnExactDivSqrt2Row.holds Try.pinned (OpenSpec.ofChange fnExactDivSqrt2Wrong)

/-- 'laws.FnExactIsReal': WHATEVER THE INPUT: true; the input reads as it did. -/
def fnExactIsRealSpec : ChangeSpec := { name := "fnExactIsReal", fn := fun _ => fun
  | [d] => { results := [.lit (.bool true)], args := [d] }
  | _ => none }
def fnExactIsRealRow : OpenClaim := { program := "ytijgcbocidejmaa", sum := "ccd4d4de337b5697cf2898ceda9febfab4ddc299d72eb6be3c1f9612fae4fc5b", func := "loop.example/g00506/laws.FnExactIsReal", spec := "fnExactIsReal", apart := false }
def FnExactIsRealSaid : Prop := fnExactIsRealRow.holds Try.pinned (OpenSpec.ofChange fnExactIsRealSpec)

/-- ITS FALSE NEIGHBOUR: 'it returns false'. Refute it at one input. -/
def fnExactIsRealWrong : ChangeSpec := { name := "fnExactIsReal", fn := fun _ => fun
  | [d] => { results := [.lit (.bool false)], args := [d] }
  | _ => none }
def FnExactIsRealWrongFalsely : Prop := fnExactIsRealRow.holds Try.pinned (OpenSpec.ofChange fnExactIsRealWrong)

/-- 'laws.FnExactPhaseFactor': WHATEVER THE INPUT: true; the input reads as it did. -/
def fnExactPhaseFactorSpec : ChangeSpec := { name := "fnExactPhaseFactor", fn := fun _ => fun
  | [d] => { results := [.lit (.bool true)], args := [d] }
  | _ => none }
def fnExactPhaseFactorRow : OpenClaim := { program := "ytijgcbocidejmaa", sum := "ccd4d4de337b5697cf2898ceda9febfab4ddc299d72eb6be3c1f9612fae4fc5b", func := "loop.example/g00506/laws.FnExactPhaseFactor", spec := "fnExactPhaseFactor", apart := false }
def FnExactPhaseFactorSaid : Prop := fnExactPhaseFactorRow.holds Try.pinned (OpenSpec.ofChange fnExactPhaseFactorSpec)

/-- ITS FALSE NEIGHBOUR: 'it returns false'. Refute it at one input. -/
def fnExactPhaseFactorWrong : ChangeSpec := { name := "fnExactPhaseFactor", fn := fun _ => fun
  | [d] => { results := [.lit (.bool false)], args := [d] }
  | _ => none }
def FnExactPhaseFactorWrongFalsely : Prop := fnExactPhaseFactorRow.holds Try.pinned (OpenSpec.ofChange fnExactPhaseFactorWrong)

/-- 'laws.FnExactPhaseExponent': WHATEVER THE INPUT: true; the input reads as it did. -/
def fnExactPhaseExponentSpec : ChangeSpec := { name := "fnExactPhaseExponent", fn := fun _ => fun
  | [d] => { results := [.lit (.bool true)], args := [d] }
  | _ => none }
def fnExactPhaseExponentRow : OpenClaim := { program := "ytijgcbocidejmaa", sum := "ccd4d4de337b5697cf2898ceda9febfab4ddc299d72eb6be3c1f9612fae4fc5b", func := "loop.example/g00506/laws.FnExactPhaseExponent", spec := "fnExactPhaseExponent", apart := false }
def FnExactPhaseExponentSaid : Prop := fnExactPhaseExponentRow.holds Try.pinned (OpenSpec.ofChange fnExactPhaseExponentSpec)

/-- ITS FALSE NEIGHBOUR: 'it returns false'. Refute it at one input. -/
def fnExactPhaseExponentWrong : ChangeSpec := { name := "fnExactPhaseExponent", fn := fun _ => fun
  | [d] => { results := [.lit (.bool false)], args := [d] }
  | _ => none }
def FnExactPhaseExponentWrongFalsely : Prop := fnExactPhaseExponentRow.holds Try.pinned (OpenSpec.ofChange fnExactPhaseExponentWrong)

/- THE SECOND FORM. 'bulk': how many values and letters a reading holds, each counted each time it is reached (what is shared counts as often as it is met; a slice's spare places count too). A statement '..UptoSaid' is the law's where the arguments, and the package variables that the reading takes, are together of bulk at most 1048576: NARROWER than '..Said'. Prove '..Said' where nothing that the law and all that it calls make is longer than what came in: it says more and counts as full. Else prove '..UptoSaid'. A law counts once. -/
mutual
def uptoBulk {H : Type} : DataW H → Nat
  | .lit (.string bytes) => bytes.length + 1
  | .lit _ => 1
  | .nil => 1
  | .ptr d => uptoBulk d + 1
  | .slice elems spare => uptoBulkAll elems + uptoBulkAll spare + 1
  | .agg parts => uptoBulkAll parts + 1
  | .iface _ d => uptoBulk d + 1
  | .map entries => uptoBulkEntries entries + 1
  | .held _ => 1
def uptoBulkAll {H : Type} : List (DataW H) → Nat
  | [] => 0
  | d :: r => uptoBulk d + uptoBulkAll r
def uptoBulkEntries {H : Type} : List (Lit × DataW H) → Nat
  | [] => 0
  | x :: r => uptoBulkEntry x + uptoBulkEntries r
def uptoBulkEntry {H : Type} : Lit × DataW H → Nat
  | (.string bytes, d) => bytes.length + uptoBulk d + 1
  | (_, d) => uptoBulk d + 1
 end
def uptoSmall : (H : Type) → List (DataW H) → Bool := fun _ ds => decide (uptoBulkAll ds ≤ 1048576)
def OpenSpec.upto (s : _root_.Go.ChangeSpec) : _root_.Go.OpenSpec := { _root_.Go.OpenSpec.ofChange s with cond := some uptoSmall }

/-- 'laws.FnExactConstants', WHERE WHAT IT READS IS OF BULK AT MOST 1048576: true; the input reads as it did. -/
def fnExactConstantsUptoRow : OpenClaim := { program := "ytijgcbocidejmaa", sum := "ccd4d4de337b5697cf2898ceda9febfab4ddc299d72eb6be3c1f9612fae4fc5b", func := "loop.example/g00506/laws.FnExactConstants", spec := "fnExactConstants", apart := false, narrowed := true }
def FnExactConstantsUptoSaid : Prop := fnExactConstantsUptoRow.holds Try.pinned (OpenSpec.upto fnExactConstantsSpec)

/-- 'laws.FnExactIsValidZOmega', WHERE WHAT IT READS IS OF BULK AT MOST 1048576: true; the input reads as it did. -/
def fnExactIsValidZOmegaUptoRow : OpenClaim := { program := "ytijgcbocidejmaa", sum := "ccd4d4de337b5697cf2898ceda9febfab4ddc299d72eb6be3c1f9612fae4fc5b", func := "loop.example/g00506/laws.FnExactIsValidZOmega", spec := "fnExactIsValidZOmega", apart := false, narrowed := true }
def FnExactIsValidZOmegaUptoSaid : Prop := fnExactIsValidZOmegaUptoRow.holds Try.pinned (OpenSpec.upto fnExactIsValidZOmegaSpec)

/-- 'laws.FnExactOneDOmega', WHERE WHAT IT READS IS OF BULK AT MOST 1048576: true; the input reads as it did. -/
def fnExactOneDOmegaUptoRow : OpenClaim := { program := "ytijgcbocidejmaa", sum := "ccd4d4de337b5697cf2898ceda9febfab4ddc299d72eb6be3c1f9612fae4fc5b", func := "loop.example/g00506/laws.FnExactOneDOmega", spec := "fnExactOneDOmega", apart := false, narrowed := true }
def FnExactOneDOmegaUptoSaid : Prop := fnExactOneDOmegaUptoRow.holds Try.pinned (OpenSpec.upto fnExactOneDOmegaSpec)

/-- 'laws.FnExactInvSqrt2Power', WHERE WHAT IT READS IS OF BULK AT MOST 1048576: true; the input reads as it did. -/
def fnExactInvSqrt2PowerUptoRow : OpenClaim := { program := "ytijgcbocidejmaa", sum := "ccd4d4de337b5697cf2898ceda9febfab4ddc299d72eb6be3c1f9612fae4fc5b", func := "loop.example/g00506/laws.FnExactInvSqrt2Power", spec := "fnExactInvSqrt2Power", apart := false, narrowed := true }
def FnExactInvSqrt2PowerUptoSaid : Prop := fnExactInvSqrt2PowerUptoRow.holds Try.pinned (OpenSpec.upto fnExactInvSqrt2PowerSpec)

/-- 'laws.FnExactConjZOmega', WHERE WHAT IT READS IS OF BULK AT MOST 1048576: true; the input reads as it did. -/
def fnExactConjZOmegaUptoRow : OpenClaim := { program := "ytijgcbocidejmaa", sum := "ccd4d4de337b5697cf2898ceda9febfab4ddc299d72eb6be3c1f9612fae4fc5b", func := "loop.example/g00506/laws.FnExactConjZOmega", spec := "fnExactConjZOmega", apart := false, narrowed := true }
def FnExactConjZOmegaUptoSaid : Prop := fnExactConjZOmegaUptoRow.holds Try.pinned (OpenSpec.upto fnExactConjZOmegaSpec)

/-- 'laws.FnExactNegZOmega', WHERE WHAT IT READS IS OF BULK AT MOST 1048576: true; the input reads as it did. -/
def fnExactNegZOmegaUptoRow : OpenClaim := { program := "ytijgcbocidejmaa", sum := "ccd4d4de337b5697cf2898ceda9febfab4ddc299d72eb6be3c1f9612fae4fc5b", func := "loop.example/g00506/laws.FnExactNegZOmega", spec := "fnExactNegZOmega", apart := false, narrowed := true }
def FnExactNegZOmegaUptoSaid : Prop := fnExactNegZOmegaUptoRow.holds Try.pinned (OpenSpec.upto fnExactNegZOmegaSpec)

/-- 'laws.FnExactSqrt2ConjZOmega', WHERE WHAT IT READS IS OF BULK AT MOST 1048576: true; the input reads as it did. -/
def fnExactSqrt2ConjZOmegaUptoRow : OpenClaim := { program := "ytijgcbocidejmaa", sum := "ccd4d4de337b5697cf2898ceda9febfab4ddc299d72eb6be3c1f9612fae4fc5b", func := "loop.example/g00506/laws.FnExactSqrt2ConjZOmega", spec := "fnExactSqrt2ConjZOmega", apart := false, narrowed := true }
def FnExactSqrt2ConjZOmegaUptoSaid : Prop := fnExactSqrt2ConjZOmegaUptoRow.holds Try.pinned (OpenSpec.upto fnExactSqrt2ConjZOmegaSpec)

/-- 'laws.FnExactIsValidDOmega', WHERE WHAT IT READS IS OF BULK AT MOST 1048576: true; the input reads as it did. -/
def fnExactIsValidDOmegaUptoRow : OpenClaim := { program := "ytijgcbocidejmaa", sum := "ccd4d4de337b5697cf2898ceda9febfab4ddc299d72eb6be3c1f9612fae4fc5b", func := "loop.example/g00506/laws.FnExactIsValidDOmega", spec := "fnExactIsValidDOmega", apart := false, narrowed := true }
def FnExactIsValidDOmegaUptoSaid : Prop := fnExactIsValidDOmegaUptoRow.holds Try.pinned (OpenSpec.upto fnExactIsValidDOmegaSpec)

/-- 'laws.FnExactDivSqrt2', WHERE WHAT IT READS IS OF BULK AT MOST 1048576: true; the input reads as it did. -/
def fnExactDivSqrt2UptoRow : OpenClaim := { program := "ytijgcbocidejmaa", sum := "ccd4d4de337b5697cf2898ceda9febfab4ddc299d72eb6be3c1f9612fae4fc5b", func := "loop.example/g00506/laws.FnExactDivSqrt2", spec := "fnExactDivSqrt2", apart := false, narrowed := true }
def FnExactDivSqrt2UptoSaid : Prop := fnExactDivSqrt2UptoRow.holds Try.pinned (OpenSpec.upto fnExactDivSqrt2Spec)

/-- 'laws.FnExactIsReal', WHERE WHAT IT READS IS OF BULK AT MOST 1048576: true; the input reads as it did. -/
def fnExactIsRealUptoRow : OpenClaim := { program := "ytijgcbocidejmaa", sum := "ccd4d4de337b5697cf2898ceda9febfab4ddc299d72eb6be3c1f9612fae4fc5b", func := "loop.example/g00506/laws.FnExactIsReal", spec := "fnExactIsReal", apart := false, narrowed := true }
def FnExactIsRealUptoSaid : Prop := fnExactIsRealUptoRow.holds Try.pinned (OpenSpec.upto fnExactIsRealSpec)

/-- 'laws.FnExactPhaseFactor', WHERE WHAT IT READS IS OF BULK AT MOST 1048576: true; the input reads as it did. -/
def fnExactPhaseFactorUptoRow : OpenClaim := { program := "ytijgcbocidejmaa", sum := "ccd4d4de337b5697cf2898ceda9febfab4ddc299d72eb6be3c1f9612fae4fc5b", func := "loop.example/g00506/laws.FnExactPhaseFactor", spec := "fnExactPhaseFactor", apart := false, narrowed := true }
def FnExactPhaseFactorUptoSaid : Prop := fnExactPhaseFactorUptoRow.holds Try.pinned (OpenSpec.upto fnExactPhaseFactorSpec)

/-- 'laws.FnExactPhaseExponent', WHERE WHAT IT READS IS OF BULK AT MOST 1048576: true; the input reads as it did. -/
def fnExactPhaseExponentUptoRow : OpenClaim := { program := "ytijgcbocidejmaa", sum := "ccd4d4de337b5697cf2898ceda9febfab4ddc299d72eb6be3c1f9612fae4fc5b", func := "loop.example/g00506/laws.FnExactPhaseExponent", spec := "fnExactPhaseExponent", apart := false, narrowed := true }
def FnExactPhaseExponentUptoSaid : Prop := fnExactPhaseExponentUptoRow.holds Try.pinned (OpenSpec.upto fnExactPhaseExponentSpec)

end Rows
end Go.Proofs.Ytijgcbocidejmaa
