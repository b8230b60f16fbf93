/-
  DERIVED. GIVEN WITH THE SEED: THE CARDS: each row of YtbjmfapoioebjaaDoorRows.lean that lists a variable, with what it lists TIED to the program's text (the seventh form; the later family's looks); each row that meets fmt, with fmt's text TOLD by the authors' own Lean function (tested against real Go, not proved from fmt's source: count such statements apart). THE CARD IS WHAT COUNTS. Prove the row's statement (the work); the ties are given (YtbjmfapoioebjaaDoorTie.lean); close each card by the builder's one call (the guide's Derived/Test/ToyasCard.lean, 'card_holds'). Laid BY PROGRAM, IN A SANDBOX (cutbox-door.mjs). By AI agents, Wed Nov 11 2026. No macro, syntax, notation, axiom, sorry.
-/
import Derived.Test.YtbjmfapoioebjaaDoorRows
import GoSem.ClaimSeven
namespace Go.Proofs.YtbjmfapoioebjaaDoor
namespace Rows

/-- THE TIED CARD OF 'laws.FnExactFormatInt'. -/
def fnExactFormatIntCard : Claim7 := { stood := { row := fnExactFormatIntRow, standIns := [], harness := (true, "3e4fc8feb9fe7a9f519a2eda27cfb4d4050e7195d8e7387fdd1f5b2ba5c715b9"), looks := true }, kinds := [], alts := [], laidByText := true, laidKinds := [.data, .data, .data], laidTests := true, laidLooks := .later }
def FnExactFormatIntCardSaid : Prop := Claim7.holds Tryd.pinned (.plain (OpenSpec.ofChange fnExactFormatIntSpec)) fnExactFormatIntCard

/-- THE TIED CARD OF 'laws.FnExactSplitByte'. -/
def fnExactSplitByteCard : Claim7 := { stood := { row := fnExactSplitByteRow, standIns := [], harness := (true, "3e4fc8feb9fe7a9f519a2eda27cfb4d4050e7195d8e7387fdd1f5b2ba5c715b9"), looks := true }, kinds := [], alts := [], laidByText := true, laidKinds := [.data, .pinned], laidTests := true, laidLooks := .later }
def FnExactSplitByteCardSaid : Prop := Claim7.holds Tryd.pinned (.plain (OpenSpec.ofChange fnExactSplitByteSpec)) fnExactSplitByteCard

/-- THE TIED CARD OF 'laws.FnExactFormatDOmega'. -/
def fnExactFormatDOmegaCard : Claim7 := { stood := { row := fnExactFormatDOmegaRow, standIns := [], harness := (true, "3e4fc8feb9fe7a9f519a2eda27cfb4d4050e7195d8e7387fdd1f5b2ba5c715b9"), looks := true }, kinds := [], alts := [], laidByText := true, laidKinds := [.data, .data, .data], laidTests := true, laidLooks := .later }
def FnExactFormatDOmegaCardSaid : Prop := Claim7.holds Tryd.pinned (.plain (OpenSpec.ofChange fnExactFormatDOmegaSpec)) fnExactFormatDOmegaCard

/-- THE TIED CARD OF 'laws.FnParts'. -/
def fnPartsCard : Claim7 := { stood := { row := fnPartsRow, standIns := [], harness := (true, "3e4fc8feb9fe7a9f519a2eda27cfb4d4050e7195d8e7387fdd1f5b2ba5c715b9"), looks := true }, kinds := [], alts := [], laidByText := true, laidKinds := [.data, .pinned], laidTests := true, laidLooks := .later }
def FnPartsCardSaid : Prop := Claim7.holds Tryd.pinned (.plain (OpenSpec.ofChange fnPartsSpec)) fnPartsCard

/-- THE TIED CARD OF 'laws.FnExactParseInt'. -/
def fnExactParseIntCard : Claim7 := { stood := { row := fnExactParseIntRow, standIns := [], harness := (true, "3e4fc8feb9fe7a9f519a2eda27cfb4d4050e7195d8e7387fdd1f5b2ba5c715b9"), looks := true }, kinds := [], alts := [], laidByText := true, laidKinds := [.data, .data, .data, .sentinel, .sentinel], laidTests := true, laidLooks := .later }
def FnExactParseIntCardSaid : Prop := Claim7.holds Tryd.pinned (.plain (OpenSpec.ofChange fnExactParseIntSpec)) fnExactParseIntCard

/-- THE TIED CARD OF 'laws.FnExactParseNumber'. -/
def fnExactParseNumberCard : Claim7 := { stood := { row := fnExactParseNumberRow, standIns := [], harness := (true, "3e4fc8feb9fe7a9f519a2eda27cfb4d4050e7195d8e7387fdd1f5b2ba5c715b9"), looks := true }, kinds := [], alts := [], laidByText := true, laidKinds := [.data, .data, .data, .sentinel, .sentinel], laidTests := true, laidLooks := .later }
def FnExactParseNumberCardSaid : Prop := Claim7.holds Tryd.pinned (.plain (OpenSpec.ofChange fnExactParseNumberSpec)) fnExactParseNumberCard

/-- THE TIED CARD OF 'laws.FnNum'. -/
def fnNumCard : Claim7 := { stood := { row := fnNumRow, standIns := [], harness := (true, "3e4fc8feb9fe7a9f519a2eda27cfb4d4050e7195d8e7387fdd1f5b2ba5c715b9"), looks := true }, kinds := [], alts := [], laidByText := true, laidKinds := [.data, .data, .data, .sentinel, .sentinel], laidTests := true, laidLooks := .later }
def FnNumCardSaid : Prop := Claim7.holds Tryd.pinned (.plain (OpenSpec.ofChange fnNumSpec)) fnNumCard

/-- THE TIED CARD OF 'laws.FnExactParseDOmega'. -/
def fnExactParseDOmegaCard : Claim7 := { stood := { row := fnExactParseDOmegaRow, standIns := [], harness := (true, "3e4fc8feb9fe7a9f519a2eda27cfb4d4050e7195d8e7387fdd1f5b2ba5c715b9"), looks := true }, kinds := [], alts := [], laidByText := true, laidKinds := [.data, .data, .data, .data, .sentinel, .sentinel, .pinned], laidTests := true, laidLooks := .later }
def FnExactParseDOmegaCardSaid : Prop := Claim7.holds Tryd.pinned (.plain (OpenSpec.ofChange fnExactParseDOmegaSpec)) fnExactParseDOmegaCard

/-- THE TIED CARD OF 'laws.FnDwText'. -/
def fnDwTextCard : Claim7 := { stood := { row := fnDwTextRow, standIns := [], harness := (true, "3e4fc8feb9fe7a9f519a2eda27cfb4d4050e7195d8e7387fdd1f5b2ba5c715b9"), looks := true }, kinds := [], alts := [], laidByText := true, laidKinds := [.data, .data, .data, .data, .sentinel, .sentinel, .pinned], laidTests := true, laidLooks := .later }
def FnDwTextCardSaid : Prop := Claim7.holds Tryd.pinned (.plain (OpenSpec.ofChange fnDwTextSpec)) fnDwTextCard

/-- THE SECOND FORM's CARD OF 'laws.FnExactFormatInt'. -/
def fnExactFormatIntUptoCard : Claim7 := { stood := { row := fnExactFormatIntUptoRow, standIns := [], harness := (true, "3e4fc8feb9fe7a9f519a2eda27cfb4d4050e7195d8e7387fdd1f5b2ba5c715b9"), looks := true }, kinds := [], alts := [], laidByText := true, laidKinds := [.data, .data, .data], laidTests := true, laidLooks := .later }
def FnExactFormatIntUptoCardSaid : Prop := Claim7.holds Tryd.pinned (.plain (OpenSpec.upto fnExactFormatIntSpec)) fnExactFormatIntUptoCard

/-- THE SECOND FORM's CARD OF 'laws.FnExactSplitByte'. -/
def fnExactSplitByteUptoCard : Claim7 := { stood := { row := fnExactSplitByteUptoRow, standIns := [], harness := (true, "3e4fc8feb9fe7a9f519a2eda27cfb4d4050e7195d8e7387fdd1f5b2ba5c715b9"), looks := true }, kinds := [], alts := [], laidByText := true, laidKinds := [.data, .pinned], laidTests := true, laidLooks := .later }
def FnExactSplitByteUptoCardSaid : Prop := Claim7.holds Tryd.pinned (.plain (OpenSpec.upto fnExactSplitByteSpec)) fnExactSplitByteUptoCard

/-- THE SECOND FORM's CARD OF 'laws.FnExactFormatDOmega'. -/
def fnExactFormatDOmegaUptoCard : Claim7 := { stood := { row := fnExactFormatDOmegaUptoRow, standIns := [], harness := (true, "3e4fc8feb9fe7a9f519a2eda27cfb4d4050e7195d8e7387fdd1f5b2ba5c715b9"), looks := true }, kinds := [], alts := [], laidByText := true, laidKinds := [.data, .data, .data], laidTests := true, laidLooks := .later }
def FnExactFormatDOmegaUptoCardSaid : Prop := Claim7.holds Tryd.pinned (.plain (OpenSpec.upto fnExactFormatDOmegaSpec)) fnExactFormatDOmegaUptoCard

/-- THE SECOND FORM's CARD OF 'laws.FnParts'. -/
def fnPartsUptoCard : Claim7 := { stood := { row := fnPartsUptoRow, standIns := [], harness := (true, "3e4fc8feb9fe7a9f519a2eda27cfb4d4050e7195d8e7387fdd1f5b2ba5c715b9"), looks := true }, kinds := [], alts := [], laidByText := true, laidKinds := [.data, .pinned], laidTests := true, laidLooks := .later }
def FnPartsUptoCardSaid : Prop := Claim7.holds Tryd.pinned (.plain (OpenSpec.upto fnPartsSpec)) fnPartsUptoCard

/-- THE SECOND FORM's CARD OF 'laws.FnExactParseInt'. -/
def fnExactParseIntUptoCard : Claim7 := { stood := { row := fnExactParseIntUptoRow, standIns := [], harness := (true, "3e4fc8feb9fe7a9f519a2eda27cfb4d4050e7195d8e7387fdd1f5b2ba5c715b9"), looks := true }, kinds := [], alts := [], laidByText := true, laidKinds := [.data, .data, .data, .sentinel, .sentinel], laidTests := true, laidLooks := .later }
def FnExactParseIntUptoCardSaid : Prop := Claim7.holds Tryd.pinned (.plain (OpenSpec.upto fnExactParseIntSpec)) fnExactParseIntUptoCard

/-- THE SECOND FORM's CARD OF 'laws.FnExactParseNumber'. -/
def fnExactParseNumberUptoCard : Claim7 := { stood := { row := fnExactParseNumberUptoRow, standIns := [], harness := (true, "3e4fc8feb9fe7a9f519a2eda27cfb4d4050e7195d8e7387fdd1f5b2ba5c715b9"), looks := true }, kinds := [], alts := [], laidByText := true, laidKinds := [.data, .data, .data, .sentinel, .sentinel], laidTests := true, laidLooks := .later }
def FnExactParseNumberUptoCardSaid : Prop := Claim7.holds Tryd.pinned (.plain (OpenSpec.upto fnExactParseNumberSpec)) fnExactParseNumberUptoCard

/-- THE SECOND FORM's CARD OF 'laws.FnNum'. -/
def fnNumUptoCard : Claim7 := { stood := { row := fnNumUptoRow, standIns := [], harness := (true, "3e4fc8feb9fe7a9f519a2eda27cfb4d4050e7195d8e7387fdd1f5b2ba5c715b9"), looks := true }, kinds := [], alts := [], laidByText := true, laidKinds := [.data, .data, .data, .sentinel, .sentinel], laidTests := true, laidLooks := .later }
def FnNumUptoCardSaid : Prop := Claim7.holds Tryd.pinned (.plain (OpenSpec.upto fnNumSpec)) fnNumUptoCard

/-- THE SECOND FORM's CARD OF 'laws.FnExactParseDOmega'. -/
def fnExactParseDOmegaUptoCard : Claim7 := { stood := { row := fnExactParseDOmegaUptoRow, standIns := [], harness := (true, "3e4fc8feb9fe7a9f519a2eda27cfb4d4050e7195d8e7387fdd1f5b2ba5c715b9"), looks := true }, kinds := [], alts := [], laidByText := true, laidKinds := [.data, .data, .data, .data, .sentinel, .sentinel, .pinned], laidTests := true, laidLooks := .later }
def FnExactParseDOmegaUptoCardSaid : Prop := Claim7.holds Tryd.pinned (.plain (OpenSpec.upto fnExactParseDOmegaSpec)) fnExactParseDOmegaUptoCard

/-- THE SECOND FORM's CARD OF 'laws.FnDwText'. -/
def fnDwTextUptoCard : Claim7 := { stood := { row := fnDwTextUptoRow, standIns := [], harness := (true, "3e4fc8feb9fe7a9f519a2eda27cfb4d4050e7195d8e7387fdd1f5b2ba5c715b9"), looks := true }, kinds := [], alts := [], laidByText := true, laidKinds := [.data, .data, .data, .data, .sentinel, .sentinel, .pinned], laidTests := true, laidLooks := .later }
def FnDwTextUptoCardSaid : Prop := Claim7.holds Tryd.pinned (.plain (OpenSpec.upto fnDwTextSpec)) fnDwTextUptoCard
end Rows
end Go.Proofs.YtbjmfapoioebjaaDoor
