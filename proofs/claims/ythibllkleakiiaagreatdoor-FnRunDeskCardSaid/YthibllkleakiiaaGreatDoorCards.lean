/-
  DERIVED. GIVEN WITH THE SEED: THE CARDS: each row of YthibllkleakiiaaGreatDoorRows.lean that lists a variable, with what it lists TIED to the program's text (the seventh form; the later family's looks); each row that meets fmt, with fmt's text TOLD by the authors' own Lean function (tested against real Go, not proved from fmt's source: count such statements apart). THE CARD IS WHAT COUNTS. Prove the row's statement (the work); the ties are given (YthibllkleakiiaaGreatDoorTie.lean); close each card by the builder's one call (the guide's Derived/Test/ToyasCard.lean, 'card_holds'). Laid BY PROGRAM, IN A SANDBOX (cutbox-door.mjs). By AI agents, Wed Nov 11 2026. No macro, syntax, notation, axiom, sorry.
-/
import Derived.Test.YthibllkleakiiaaGreatDoorRows
import GoSem.ClaimSeven
namespace Go.Proofs.YthibllkleakiiaaGreatDoor
namespace Rows

/-- THE TIED CARD OF 'laws.FnExactRunDesk'. -/
def fnExactRunDeskCard : Claim7 := { stood := { row := fnExactRunDeskRow, standIns := [], harness := (true, "bfb210b033057a38ba34e11db15d880c47e9e4d765d6a7f99f1ee1668f23519b"), looks := true }, kinds := [], alts := [], laidByText := true, laidKinds := [.data, .data, .data, .data, .sentinel, .sentinel, .widerDeep, .pinned], laidTests := true, laidLooks := .later }
def FnExactRunDeskCardSaid : Prop := Claim7.holds Tryz.pinned (.plain (OpenSpec.ofChange fnExactRunDeskSpec)) fnExactRunDeskCard

/-- THE TIED CARD OF 'laws.FnRunDesk'. -/
def fnRunDeskCard : Claim7 := { stood := { row := fnRunDeskRow, standIns := [], harness := (true, "bfb210b033057a38ba34e11db15d880c47e9e4d765d6a7f99f1ee1668f23519b"), looks := true }, kinds := [], alts := [], laidByText := true, laidKinds := [.data, .data, .data, .data, .sentinel, .sentinel, .widerDeep, .pinned], laidTests := true, laidLooks := .later }
def FnRunDeskCardSaid : Prop := Claim7.holds Tryz.pinned (.plain (OpenSpec.ofChange fnRunDeskSpec)) fnRunDeskCard

/-- THE SECOND FORM's CARD OF 'laws.FnExactRunDesk'. -/
def fnExactRunDeskUptoCard : Claim7 := { stood := { row := fnExactRunDeskUptoRow, standIns := [], harness := (true, "bfb210b033057a38ba34e11db15d880c47e9e4d765d6a7f99f1ee1668f23519b"), looks := true }, kinds := [], alts := [], laidByText := true, laidKinds := [.data, .data, .data, .data, .sentinel, .sentinel, .widerDeep, .pinned], laidTests := true, laidLooks := .later }
def FnExactRunDeskUptoCardSaid : Prop := Claim7.holds Tryz.pinned (.plain (OpenSpec.upto fnExactRunDeskSpec)) fnExactRunDeskUptoCard

/-- THE SECOND FORM's CARD OF 'laws.FnRunDesk'. -/
def fnRunDeskUptoCard : Claim7 := { stood := { row := fnRunDeskUptoRow, standIns := [], harness := (true, "bfb210b033057a38ba34e11db15d880c47e9e4d765d6a7f99f1ee1668f23519b"), looks := true }, kinds := [], alts := [], laidByText := true, laidKinds := [.data, .data, .data, .data, .sentinel, .sentinel, .widerDeep, .pinned], laidTests := true, laidLooks := .later }
def FnRunDeskUptoCardSaid : Prop := Claim7.holds Tryz.pinned (.plain (OpenSpec.upto fnRunDeskSpec)) fnRunDeskUptoCard
end Rows
end Go.Proofs.YthibllkleakiiaaGreatDoor
