/-
  DERIVED. GIVEN WITH THE SEED: THE CARDS: each row of YtdnlpklmihoapaaDoorRows.lean that lists a variable, with what it lists TIED to the program's text (the seventh form; the later family's looks); each row that meets fmt, with fmt's text TOLD by the authors' own Lean function (tested against real Go, not proved from fmt's source: count such statements apart). THE CARD IS WHAT COUNTS. Prove the row's statement (the work); the ties are given (YtdnlpklmihoapaaDoorTie.lean); close each card by the builder's one call (the guide's Derived/Test/ToyasCard.lean, 'card_holds'). Laid BY PROGRAM, IN A SANDBOX (cutbox-door.mjs). By AI agents, Wed Nov 11 2026. No macro, syntax, notation, axiom, sorry.
-/
import Derived.Test.YtdnlpklmihoapaaDoorRows
import GoSem.ClaimSeven
namespace Go.Proofs.YtdnlpklmihoapaaDoor
namespace Rows

/-- THE TIED CARD OF 'laws.FnExactFormatGraph'. -/
def fnExactFormatGraphCard : Claim7 := { stood := { row := fnExactFormatGraphRow, standIns := [], harness := (true, "07cf1c7ab0dd8d555c7dd6b7ff3649695b7436dbff433a3e914f001e0cf74113"), looks := true }, kinds := [], alts := [], laidByText := true, laidKinds := [.data, .data, .data, .widerDeep], laidTests := true, laidLooks := .later }
def FnExactFormatGraphCardSaid : Prop := Claim7.holds Tryd.pinned (.plain (OpenSpec.ofChange fnExactFormatGraphSpec)) fnExactFormatGraphCard

/-- THE TIED CARD OF 'laws.FnFormatFormula'. -/
def fnFormatFormulaCard : Claim7 := { stood := { row := fnFormatFormulaRow, standIns := [], harness := (true, "07cf1c7ab0dd8d555c7dd6b7ff3649695b7436dbff433a3e914f001e0cf74113"), looks := true }, kinds := [], alts := [], laidByText := true, laidKinds := [.data, .data, .data, .data, .sentinel, .sentinel, .widerDeep, .pinned], laidTests := true, laidLooks := .later }
def FnFormatFormulaCardSaid : Prop := Claim7.holds Tryd.pinned (.plain (OpenSpec.ofChange fnFormatFormulaSpec)) fnFormatFormulaCard

/-- THE TIED CARD OF 'laws.FnExactParseFormula'. -/
def fnExactParseFormulaCard : Claim7 := { stood := { row := fnExactParseFormulaRow, standIns := [], harness := (true, "07cf1c7ab0dd8d555c7dd6b7ff3649695b7436dbff433a3e914f001e0cf74113"), looks := true }, kinds := [], alts := [], laidByText := true, laidKinds := [.data, .data, .data, .data, .sentinel, .sentinel, .widerDeep, .pinned], laidTests := true, laidLooks := .later }
def FnExactParseFormulaCardSaid : Prop := Claim7.holds Tryd.pinned (.plain (OpenSpec.ofChange fnExactParseFormulaSpec)) fnExactParseFormulaCard

/-- THE TIED CARD OF 'laws.FnParseFormula'. -/
def fnParseFormulaCard : Claim7 := { stood := { row := fnParseFormulaRow, standIns := [], harness := (true, "07cf1c7ab0dd8d555c7dd6b7ff3649695b7436dbff433a3e914f001e0cf74113"), looks := true }, kinds := [], alts := [], laidByText := true, laidKinds := [.data, .data, .data, .data, .sentinel, .sentinel, .widerDeep, .pinned], laidTests := true, laidLooks := .later }
def FnParseFormulaCardSaid : Prop := Claim7.holds Tryd.pinned (.plain (OpenSpec.ofChange fnParseFormulaSpec)) fnParseFormulaCard

/-- THE SECOND FORM's CARD OF 'laws.FnExactFormatGraph'. -/
def fnExactFormatGraphUptoCard : Claim7 := { stood := { row := fnExactFormatGraphUptoRow, standIns := [], harness := (true, "07cf1c7ab0dd8d555c7dd6b7ff3649695b7436dbff433a3e914f001e0cf74113"), looks := true }, kinds := [], alts := [], laidByText := true, laidKinds := [.data, .data, .data, .widerDeep], laidTests := true, laidLooks := .later }
def FnExactFormatGraphUptoCardSaid : Prop := Claim7.holds Tryd.pinned (.plain (OpenSpec.upto fnExactFormatGraphSpec)) fnExactFormatGraphUptoCard

/-- THE SECOND FORM's CARD OF 'laws.FnFormatFormula'. -/
def fnFormatFormulaUptoCard : Claim7 := { stood := { row := fnFormatFormulaUptoRow, standIns := [], harness := (true, "07cf1c7ab0dd8d555c7dd6b7ff3649695b7436dbff433a3e914f001e0cf74113"), looks := true }, kinds := [], alts := [], laidByText := true, laidKinds := [.data, .data, .data, .data, .sentinel, .sentinel, .widerDeep, .pinned], laidTests := true, laidLooks := .later }
def FnFormatFormulaUptoCardSaid : Prop := Claim7.holds Tryd.pinned (.plain (OpenSpec.upto fnFormatFormulaSpec)) fnFormatFormulaUptoCard

/-- THE SECOND FORM's CARD OF 'laws.FnExactParseFormula'. -/
def fnExactParseFormulaUptoCard : Claim7 := { stood := { row := fnExactParseFormulaUptoRow, standIns := [], harness := (true, "07cf1c7ab0dd8d555c7dd6b7ff3649695b7436dbff433a3e914f001e0cf74113"), looks := true }, kinds := [], alts := [], laidByText := true, laidKinds := [.data, .data, .data, .data, .sentinel, .sentinel, .widerDeep, .pinned], laidTests := true, laidLooks := .later }
def FnExactParseFormulaUptoCardSaid : Prop := Claim7.holds Tryd.pinned (.plain (OpenSpec.upto fnExactParseFormulaSpec)) fnExactParseFormulaUptoCard

/-- THE SECOND FORM's CARD OF 'laws.FnParseFormula'. -/
def fnParseFormulaUptoCard : Claim7 := { stood := { row := fnParseFormulaUptoRow, standIns := [], harness := (true, "07cf1c7ab0dd8d555c7dd6b7ff3649695b7436dbff433a3e914f001e0cf74113"), looks := true }, kinds := [], alts := [], laidByText := true, laidKinds := [.data, .data, .data, .data, .sentinel, .sentinel, .widerDeep, .pinned], laidTests := true, laidLooks := .later }
def FnParseFormulaUptoCardSaid : Prop := Claim7.holds Tryd.pinned (.plain (OpenSpec.upto fnParseFormulaSpec)) fnParseFormulaUptoCard
end Rows
end Go.Proofs.YtdnlpklmihoapaaDoor
