/-
  DERIVED. GIVEN WITH THE SEED: THE CARDS: each row of YtipejodijbjpcaaGreatDoorRows.lean that lists a variable, with what it lists TIED to the program's text (the seventh form; the later family's looks); each row that meets fmt, with fmt's text TOLD by the authors' own Lean function (tested against real Go, not proved from fmt's source: count such statements apart). THE CARD IS WHAT COUNTS. Prove the row's statement (the work); the ties are given (YtipejodijbjpcaaGreatDoorTie.lean); close each card by the builder's one call (the guide's Derived/Test/ToyasCard.lean, 'card_holds'). Laid BY PROGRAM, IN A SANDBOX (cutbox-door.mjs). By AI agents, Wed Nov 11 2026. No macro, syntax, notation, axiom, sorry.
-/
import Derived.Test.YtipejodijbjpcaaGreatDoorRows
import GoSem.ClaimSeven
namespace Go.Proofs.YtipejodijbjpcaaGreatDoor
namespace Rows

/-- THE TIED CARD OF 'laws.FnExactFamilyLine'. -/
def fnExactFamilyLineCard : Claim7 := { stood := { row := fnExactFamilyLineRow, standIns := [], harness := (true, "4a207ab64861a6b66a728c87ebbf14260005d97d05d07370aaff6531c00f7a65"), looks := false }, kinds := [], alts := [], laidByText := true, laidKinds := [.data, .data, .data], laidTests := true, laidLooks := .later }
def FnExactFamilyLineCardSaid : Prop := Claim7.holds Tryz.pinned (.plain (OpenSpec.ofChange fnExactFamilyLineSpec)) fnExactFamilyLineCard

/-- THE TIED CARD OF 'laws.FnTexts'. -/
def fnTextsCard : Claim7 := { stood := { row := fnTextsRow, standIns := [], harness := (true, "4a207ab64861a6b66a728c87ebbf14260005d97d05d07370aaff6531c00f7a65"), looks := false }, kinds := [], alts := [], laidByText := true, laidKinds := [.data, .data, .data, .data, .pinned], laidTests := true, laidLooks := .later }
def FnTextsCardSaid : Prop := Claim7.holds Tryz.pinned (.plain (OpenSpec.ofChange fnTextsSpec)) fnTextsCard

/-- THE TIED CARD OF 'laws.FnClaims'. -/
def fnClaimsCard : Claim7 := { stood := { row := fnClaimsRow, standIns := [], harness := (true, "4a207ab64861a6b66a728c87ebbf14260005d97d05d07370aaff6531c00f7a65"), looks := false }, kinds := [], alts := [], laidByText := true, laidKinds := [.data, .data, .data], laidTests := true, laidLooks := .later }
def FnClaimsCardSaid : Prop := Claim7.holds Tryz.pinned (.plain (OpenSpec.ofChange fnClaimsSpec)) fnClaimsCard

/-- THE SECOND FORM's CARD OF 'laws.FnExactFamilyLine'. -/
def fnExactFamilyLineUptoCard : Claim7 := { stood := { row := fnExactFamilyLineUptoRow, standIns := [], harness := (true, "4a207ab64861a6b66a728c87ebbf14260005d97d05d07370aaff6531c00f7a65"), looks := false }, kinds := [], alts := [], laidByText := true, laidKinds := [.data, .data, .data], laidTests := true, laidLooks := .later }
def FnExactFamilyLineUptoCardSaid : Prop := Claim7.holds Tryz.pinned (.plain (OpenSpec.upto fnExactFamilyLineSpec)) fnExactFamilyLineUptoCard

/-- THE SECOND FORM's CARD OF 'laws.FnTexts'. -/
def fnTextsUptoCard : Claim7 := { stood := { row := fnTextsUptoRow, standIns := [], harness := (true, "4a207ab64861a6b66a728c87ebbf14260005d97d05d07370aaff6531c00f7a65"), looks := false }, kinds := [], alts := [], laidByText := true, laidKinds := [.data, .data, .data, .data, .pinned], laidTests := true, laidLooks := .later }
def FnTextsUptoCardSaid : Prop := Claim7.holds Tryz.pinned (.plain (OpenSpec.upto fnTextsSpec)) fnTextsUptoCard

/-- THE SECOND FORM's CARD OF 'laws.FnClaims'. -/
def fnClaimsUptoCard : Claim7 := { stood := { row := fnClaimsUptoRow, standIns := [], harness := (true, "4a207ab64861a6b66a728c87ebbf14260005d97d05d07370aaff6531c00f7a65"), looks := false }, kinds := [], alts := [], laidByText := true, laidKinds := [.data, .data, .data], laidTests := true, laidLooks := .later }
def FnClaimsUptoCardSaid : Prop := Claim7.holds Tryz.pinned (.plain (OpenSpec.upto fnClaimsSpec)) fnClaimsUptoCard
end Rows
end Go.Proofs.YtipejodijbjpcaaGreatDoor
