/-
  DERIVED. GIVEN WITH THE SEED: THE CARDS: each row of YtpaoiiiceekkkaaGreatDoorRows.lean that lists a variable, with what it lists TIED to the program's text (the seventh form; the later family's looks); each row that meets fmt, with fmt's text TOLD by the authors' own Lean function (tested against real Go, not proved from fmt's source: count such statements apart). THE CARD IS WHAT COUNTS. Prove the row's statement (the work); the ties are given (YtpaoiiiceekkkaaGreatDoorTie.lean); close each card by the builder's one call (the guide's Derived/Test/ToyasCard.lean, 'card_holds'). Laid BY PROGRAM, IN A SANDBOX (cutbox-door.mjs). By AI agents, Wed Nov 11 2026. No macro, syntax, notation, axiom, sorry.
-/
import Derived.Test.YtpaoiiiceekkkaaGreatDoorRows
import GoSem.ClaimSeven
namespace Go.Proofs.YtpaoiiiceekkkaaGreatDoor
namespace Rows

/-- THE TIED CARD OF 'laws.FnExactPairLine'. -/
def fnExactPairLineCard : Claim7 := { stood := { row := fnExactPairLineRow, standIns := [], harness := (true, "255efc36bac6c28a62ebafa026570261d36e2c1bd5a2bbf9b337b427d5b0a378"), looks := false }, kinds := [], alts := [], laidByText := true, laidKinds := [.data, .data, .data], laidTests := true, laidLooks := .later }
def FnExactPairLineCardSaid : Prop := Claim7.holds Tryz.pinned (.plain (OpenSpec.ofChange fnExactPairLineSpec)) fnExactPairLineCard

/-- THE TIED CARD OF 'laws.FnExactExtremeLine'. -/
def fnExactExtremeLineCard : Claim7 := { stood := { row := fnExactExtremeLineRow, standIns := [], harness := (true, "255efc36bac6c28a62ebafa026570261d36e2c1bd5a2bbf9b337b427d5b0a378"), looks := false }, kinds := [], alts := [], laidByText := true, laidKinds := [.data, .data, .data], laidTests := true, laidLooks := .later }
def FnExactExtremeLineCardSaid : Prop := Claim7.holds Tryz.pinned (.plain (OpenSpec.ofChange fnExactExtremeLineSpec)) fnExactExtremeLineCard

/-- THE TIED CARD OF 'laws.FnExactFamilyLine'. -/
def fnExactFamilyLineCard : Claim7 := { stood := { row := fnExactFamilyLineRow, standIns := [], harness := (true, "255efc36bac6c28a62ebafa026570261d36e2c1bd5a2bbf9b337b427d5b0a378"), looks := false }, kinds := [], alts := [], laidByText := true, laidKinds := [.data, .data, .data], laidTests := true, laidLooks := .later }
def FnExactFamilyLineCardSaid : Prop := Claim7.holds Tryz.pinned (.plain (OpenSpec.ofChange fnExactFamilyLineSpec)) fnExactFamilyLineCard

/-- THE TIED CARD OF 'laws.FnTexts'. -/
def fnTextsCard : Claim7 := { stood := { row := fnTextsRow, standIns := [], harness := (true, "255efc36bac6c28a62ebafa026570261d36e2c1bd5a2bbf9b337b427d5b0a378"), looks := false }, kinds := [], alts := [], laidByText := true, laidKinds := [.data, .data, .data, .data, .pinned], laidTests := true, laidLooks := .later }
def FnTextsCardSaid : Prop := Claim7.holds Tryz.pinned (.plain (OpenSpec.ofChange fnTextsSpec)) fnTextsCard

/-- THE SECOND FORM's CARD OF 'laws.FnExactPairLine'. -/
def fnExactPairLineUptoCard : Claim7 := { stood := { row := fnExactPairLineUptoRow, standIns := [], harness := (true, "255efc36bac6c28a62ebafa026570261d36e2c1bd5a2bbf9b337b427d5b0a378"), looks := false }, kinds := [], alts := [], laidByText := true, laidKinds := [.data, .data, .data], laidTests := true, laidLooks := .later }
def FnExactPairLineUptoCardSaid : Prop := Claim7.holds Tryz.pinned (.plain (OpenSpec.upto fnExactPairLineSpec)) fnExactPairLineUptoCard

/-- THE SECOND FORM's CARD OF 'laws.FnExactExtremeLine'. -/
def fnExactExtremeLineUptoCard : Claim7 := { stood := { row := fnExactExtremeLineUptoRow, standIns := [], harness := (true, "255efc36bac6c28a62ebafa026570261d36e2c1bd5a2bbf9b337b427d5b0a378"), looks := false }, kinds := [], alts := [], laidByText := true, laidKinds := [.data, .data, .data], laidTests := true, laidLooks := .later }
def FnExactExtremeLineUptoCardSaid : Prop := Claim7.holds Tryz.pinned (.plain (OpenSpec.upto fnExactExtremeLineSpec)) fnExactExtremeLineUptoCard

/-- THE SECOND FORM's CARD OF 'laws.FnExactFamilyLine'. -/
def fnExactFamilyLineUptoCard : Claim7 := { stood := { row := fnExactFamilyLineUptoRow, standIns := [], harness := (true, "255efc36bac6c28a62ebafa026570261d36e2c1bd5a2bbf9b337b427d5b0a378"), looks := false }, kinds := [], alts := [], laidByText := true, laidKinds := [.data, .data, .data], laidTests := true, laidLooks := .later }
def FnExactFamilyLineUptoCardSaid : Prop := Claim7.holds Tryz.pinned (.plain (OpenSpec.upto fnExactFamilyLineSpec)) fnExactFamilyLineUptoCard

/-- THE SECOND FORM's CARD OF 'laws.FnTexts'. -/
def fnTextsUptoCard : Claim7 := { stood := { row := fnTextsUptoRow, standIns := [], harness := (true, "255efc36bac6c28a62ebafa026570261d36e2c1bd5a2bbf9b337b427d5b0a378"), looks := false }, kinds := [], alts := [], laidByText := true, laidKinds := [.data, .data, .data, .data, .pinned], laidTests := true, laidLooks := .later }
def FnTextsUptoCardSaid : Prop := Claim7.holds Tryz.pinned (.plain (OpenSpec.upto fnTextsSpec)) fnTextsUptoCard
end Rows
end Go.Proofs.YtpaoiiiceekkkaaGreatDoor
