/-
  DERIVED. GIVEN WITH THE SEED: THE CARDS: each row of YtelmokapdkepbaaGreatDoorRows.lean that lists a variable, with what it lists TIED to the program's text (the seventh form; the later family's looks); each row that meets fmt, with fmt's text TOLD by the authors' own Lean function (tested against real Go, not proved from fmt's source: count such statements apart). THE CARD IS WHAT COUNTS. Prove the row's statement (the work); the ties are given (YtelmokapdkepbaaGreatDoorTie.lean); close each card by the builder's one call (the guide's Derived/Test/ToyasCard.lean, 'card_holds'). Laid BY PROGRAM, IN A SANDBOX (cutbox-door.mjs). By AI agents, Wed Nov 11 2026. No macro, syntax, notation, axiom, sorry.
-/
import Derived.Test.YtelmokapdkepbaaGreatDoorRows
import GoSem.ClaimSeven
namespace Go.Proofs.YtelmokapdkepbaaGreatDoor
namespace Rows

/-- THE TIED CARD OF 'laws.FnExactExtremeLine'. -/
def fnExactExtremeLineCard : Claim7 := { stood := { row := fnExactExtremeLineRow, standIns := [], harness := (true, "b97cb7ba22eb3a79cf928f41612bf1b0ef4b2e9b4205e7a2ed51dffaff071154"), looks := false }, kinds := [], alts := [], laidByText := true, laidKinds := [.data, .data, .data], laidTests := true, laidLooks := .later }
def FnExactExtremeLineCardSaid : Prop := Claim7.holds Tryz.pinned (.plain (OpenSpec.ofChange fnExactExtremeLineSpec)) fnExactExtremeLineCard

/-- THE TIED CARD OF 'laws.FnExactFamilyLine'. -/
def fnExactFamilyLineCard : Claim7 := { stood := { row := fnExactFamilyLineRow, standIns := [], harness := (true, "b97cb7ba22eb3a79cf928f41612bf1b0ef4b2e9b4205e7a2ed51dffaff071154"), looks := false }, kinds := [], alts := [], laidByText := true, laidKinds := [.data, .data, .data], laidTests := true, laidLooks := .later }
def FnExactFamilyLineCardSaid : Prop := Claim7.holds Tryz.pinned (.plain (OpenSpec.ofChange fnExactFamilyLineSpec)) fnExactFamilyLineCard

/-- THE SECOND FORM's CARD OF 'laws.FnExactExtremeLine'. -/
def fnExactExtremeLineUptoCard : Claim7 := { stood := { row := fnExactExtremeLineUptoRow, standIns := [], harness := (true, "b97cb7ba22eb3a79cf928f41612bf1b0ef4b2e9b4205e7a2ed51dffaff071154"), looks := false }, kinds := [], alts := [], laidByText := true, laidKinds := [.data, .data, .data], laidTests := true, laidLooks := .later }
def FnExactExtremeLineUptoCardSaid : Prop := Claim7.holds Tryz.pinned (.plain (OpenSpec.upto fnExactExtremeLineSpec)) fnExactExtremeLineUptoCard

/-- THE SECOND FORM's CARD OF 'laws.FnExactFamilyLine'. -/
def fnExactFamilyLineUptoCard : Claim7 := { stood := { row := fnExactFamilyLineUptoRow, standIns := [], harness := (true, "b97cb7ba22eb3a79cf928f41612bf1b0ef4b2e9b4205e7a2ed51dffaff071154"), looks := false }, kinds := [], alts := [], laidByText := true, laidKinds := [.data, .data, .data], laidTests := true, laidLooks := .later }
def FnExactFamilyLineUptoCardSaid : Prop := Claim7.holds Tryz.pinned (.plain (OpenSpec.upto fnExactFamilyLineSpec)) fnExactFamilyLineUptoCard
end Rows
end Go.Proofs.YtelmokapdkepbaaGreatDoor
