/-
  DERIVED. GIVEN WITH THE SEED: THE CARDS: each row of YtkdbkjjacgigiaaGreatDoorRows.lean that lists a variable, with what it lists TIED to the program's text (the seventh form; the later family's looks); each row that meets fmt, with fmt's text TOLD by the authors' own Lean function (tested against real Go, not proved from fmt's source: count such statements apart). THE CARD IS WHAT COUNTS. Prove the row's statement (the work); the ties are given (YtkdbkjjacgigiaaGreatDoorTie.lean); close each card by the builder's one call (the guide's Derived/Test/ToyasCard.lean, 'card_holds'). Laid BY PROGRAM, IN A SANDBOX (cutbox-door.mjs). By AI agents, Wed Nov 11 2026. No macro, syntax, notation, axiom, sorry.
-/
import Derived.Test.YtkdbkjjacgigiaaGreatDoorRows
import GoSem.ClaimSeven
namespace Go.Proofs.YtkdbkjjacgigiaaGreatDoor
namespace Rows

/-- THE TIED CARD OF 'laws.FnConsoleResults'. -/
def fnConsoleResultsCard : Claim7 := { stood := { row := fnConsoleResultsRow, standIns := [], harness := (true, "772c64f52fc622101a3631be3b68e8d7b2f83a775488c626a4a51d08d7f3f4fb"), looks := false }, kinds := [], alts := [], laidByText := true, laidKinds := [.data, .data, .data, .data, .pinned], laidTests := true, laidLooks := .later }
def FnConsoleResultsCardSaid : Prop := Claim7.holds Tryz.pinned (.plain (OpenSpec.ofChange fnConsoleResultsSpec)) fnConsoleResultsCard

/-- THE TIED CARD OF 'laws.FnExactRunConsole'. -/
def fnExactRunConsoleCard : Claim7 := { stood := { row := fnExactRunConsoleRow, standIns := [], harness := (true, "772c64f52fc622101a3631be3b68e8d7b2f83a775488c626a4a51d08d7f3f4fb"), looks := false }, kinds := [], alts := [], laidByText := true, laidKinds := [.data, .data, .data, .data, .pinned], laidTests := true, laidLooks := .later }
def FnExactRunConsoleCardSaid : Prop := Claim7.holds Tryz.pinned (.plain (OpenSpec.ofChange fnExactRunConsoleSpec)) fnExactRunConsoleCard

/-- THE SECOND FORM's CARD OF 'laws.FnConsoleResults'. -/
def fnConsoleResultsUptoCard : Claim7 := { stood := { row := fnConsoleResultsUptoRow, standIns := [], harness := (true, "772c64f52fc622101a3631be3b68e8d7b2f83a775488c626a4a51d08d7f3f4fb"), looks := false }, kinds := [], alts := [], laidByText := true, laidKinds := [.data, .data, .data, .data, .pinned], laidTests := true, laidLooks := .later }
def FnConsoleResultsUptoCardSaid : Prop := Claim7.holds Tryz.pinned (.plain (OpenSpec.upto fnConsoleResultsSpec)) fnConsoleResultsUptoCard

/-- THE SECOND FORM's CARD OF 'laws.FnExactRunConsole'. -/
def fnExactRunConsoleUptoCard : Claim7 := { stood := { row := fnExactRunConsoleUptoRow, standIns := [], harness := (true, "772c64f52fc622101a3631be3b68e8d7b2f83a775488c626a4a51d08d7f3f4fb"), looks := false }, kinds := [], alts := [], laidByText := true, laidKinds := [.data, .data, .data, .data, .pinned], laidTests := true, laidLooks := .later }
def FnExactRunConsoleUptoCardSaid : Prop := Claim7.holds Tryz.pinned (.plain (OpenSpec.upto fnExactRunConsoleSpec)) fnExactRunConsoleUptoCard
end Rows
end Go.Proofs.YtkdbkjjacgigiaaGreatDoor
