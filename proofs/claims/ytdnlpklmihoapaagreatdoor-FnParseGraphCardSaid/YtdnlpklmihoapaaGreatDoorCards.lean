/-
  DERIVED. GIVEN WITH THE SEED: THE CARDS: each row of YtdnlpklmihoapaaGreatDoorRows.lean that lists a variable, with what it lists TIED to the program's text (the seventh form; the later family's looks); each row that meets fmt, with fmt's text TOLD by the authors' own Lean function (tested against real Go, not proved from fmt's source: count such statements apart). THE CARD IS WHAT COUNTS. Prove the row's statement (the work); the ties are given (YtdnlpklmihoapaaGreatDoorTie.lean); close each card by the builder's one call (the guide's Derived/Test/ToyasCard.lean, 'card_holds'). Laid BY PROGRAM, IN A SANDBOX (cutbox-door.mjs). By AI agents, Wed Nov 11 2026. No macro, syntax, notation, axiom, sorry.
-/
import Derived.Test.YtdnlpklmihoapaaGreatDoorRows
import GoSem.ClaimSeven
namespace Go.Proofs.YtdnlpklmihoapaaGreatDoor
namespace Rows

/-- THE TIED CARD OF 'laws.FnExactParseGraph'. -/
def fnExactParseGraphCard : Claim7 := { stood := { row := fnExactParseGraphRow, standIns := [], harness := (true, "20db880cfefb2b8f46cd7be1fd6904bbac53c203e1cdb6299f66ee8ba53179ed"), looks := true }, kinds := [], alts := [], laidByText := true, laidKinds := [.data, .data, .data, .data, .sentinel, .sentinel, .widerDeep, .pinned], laidTests := true, laidLooks := .later }
def FnExactParseGraphCardSaid : Prop := Claim7.holds Tryz.pinned (.plain (OpenSpec.ofChange fnExactParseGraphSpec)) fnExactParseGraphCard

/-- THE TIED CARD OF 'laws.FnParseGraph'. -/
def fnParseGraphCard : Claim7 := { stood := { row := fnParseGraphRow, standIns := [], harness := (true, "20db880cfefb2b8f46cd7be1fd6904bbac53c203e1cdb6299f66ee8ba53179ed"), looks := true }, kinds := [], alts := [], laidByText := true, laidKinds := [.data, .data, .data, .data, .sentinel, .sentinel, .widerDeep, .pinned], laidTests := true, laidLooks := .later }
def FnParseGraphCardSaid : Prop := Claim7.holds Tryz.pinned (.plain (OpenSpec.ofChange fnParseGraphSpec)) fnParseGraphCard

/-- THE TIED CARD OF 'laws.FnFormatGraph'. -/
def fnFormatGraphCard : Claim7 := { stood := { row := fnFormatGraphRow, standIns := [], harness := (true, "20db880cfefb2b8f46cd7be1fd6904bbac53c203e1cdb6299f66ee8ba53179ed"), looks := true }, kinds := [], alts := [], laidByText := true, laidKinds := [.data, .data, .data, .data, .sentinel, .sentinel, .widerDeep, .pinned], laidTests := true, laidLooks := .later }
def FnFormatGraphCardSaid : Prop := Claim7.holds Tryz.pinned (.plain (OpenSpec.ofChange fnFormatGraphSpec)) fnFormatGraphCard

/-- THE SECOND FORM's CARD OF 'laws.FnExactParseGraph'. -/
def fnExactParseGraphUptoCard : Claim7 := { stood := { row := fnExactParseGraphUptoRow, standIns := [], harness := (true, "20db880cfefb2b8f46cd7be1fd6904bbac53c203e1cdb6299f66ee8ba53179ed"), looks := true }, kinds := [], alts := [], laidByText := true, laidKinds := [.data, .data, .data, .data, .sentinel, .sentinel, .widerDeep, .pinned], laidTests := true, laidLooks := .later }
def FnExactParseGraphUptoCardSaid : Prop := Claim7.holds Tryz.pinned (.plain (OpenSpec.upto fnExactParseGraphSpec)) fnExactParseGraphUptoCard

/-- THE SECOND FORM's CARD OF 'laws.FnParseGraph'. -/
def fnParseGraphUptoCard : Claim7 := { stood := { row := fnParseGraphUptoRow, standIns := [], harness := (true, "20db880cfefb2b8f46cd7be1fd6904bbac53c203e1cdb6299f66ee8ba53179ed"), looks := true }, kinds := [], alts := [], laidByText := true, laidKinds := [.data, .data, .data, .data, .sentinel, .sentinel, .widerDeep, .pinned], laidTests := true, laidLooks := .later }
def FnParseGraphUptoCardSaid : Prop := Claim7.holds Tryz.pinned (.plain (OpenSpec.upto fnParseGraphSpec)) fnParseGraphUptoCard

/-- THE SECOND FORM's CARD OF 'laws.FnFormatGraph'. -/
def fnFormatGraphUptoCard : Claim7 := { stood := { row := fnFormatGraphUptoRow, standIns := [], harness := (true, "20db880cfefb2b8f46cd7be1fd6904bbac53c203e1cdb6299f66ee8ba53179ed"), looks := true }, kinds := [], alts := [], laidByText := true, laidKinds := [.data, .data, .data, .data, .sentinel, .sentinel, .widerDeep, .pinned], laidTests := true, laidLooks := .later }
def FnFormatGraphUptoCardSaid : Prop := Claim7.holds Tryz.pinned (.plain (OpenSpec.upto fnFormatGraphSpec)) fnFormatGraphUptoCard
end Rows
end Go.Proofs.YtdnlpklmihoapaaGreatDoor
