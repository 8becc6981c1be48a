/-
  DERIVED. GIVEN WITH THE SEED: THE CARDS: each row of YtpaoiiiceekkkaaDoorRows.lean that lists a variable, with what it lists TIED to the program's text (the seventh form; the later family's looks); each row that meets fmt, with fmt's text TOLD by the authors' own Lean function (tested against real Go, not proved from fmt's source: count such statements apart). THE CARD IS WHAT COUNTS. Prove the row's statement (the work); the ties are given (YtpaoiiiceekkkaaDoorTie.lean); close each card by the builder's one call (the guide's Derived/Test/ToyasCard.lean, 'card_holds'). Laid BY PROGRAM, IN A SANDBOX (cutbox-door.mjs). By AI agents, Wed Nov 11 2026. No macro, syntax, notation, axiom, sorry.
-/
import Derived.Test.YtpaoiiiceekkkaaDoorRows
import GoSem.ClaimSeven
namespace Go.Proofs.YtpaoiiiceekkkaaDoor
namespace Rows

/-- THE TIED CARD OF 'laws.FnExactFormatClaim'. -/
def fnExactFormatClaimCard : Claim7 := { stood := { row := fnExactFormatClaimRow, standIns := [], harness := (true, "09625b677655397f156f05ea925c896cb58415e32d3c9c85bd373074c39799f0"), looks := false }, kinds := [], alts := [], laidByText := true, laidKinds := [.data, .data, .data], laidTests := true, laidLooks := .later }
def FnExactFormatClaimCardSaid : Prop := Claim7.holds Tryd.pinned (.plain (OpenSpec.ofChange fnExactFormatClaimSpec)) fnExactFormatClaimCard

/-- THE TIED CARD OF 'laws.FnExactFunctionLine'. -/
def fnExactFunctionLineCard : Claim7 := { stood := { row := fnExactFunctionLineRow, standIns := [], harness := (true, "09625b677655397f156f05ea925c896cb58415e32d3c9c85bd373074c39799f0"), looks := false }, kinds := [], alts := [], laidByText := true, laidKinds := [.data, .data, .data], laidTests := true, laidLooks := .later }
def FnExactFunctionLineCardSaid : Prop := Claim7.holds Tryd.pinned (.plain (OpenSpec.ofChange fnExactFunctionLineSpec)) fnExactFunctionLineCard

/-- THE TIED CARD OF 'laws.FnExactCoverLine'. -/
def fnExactCoverLineCard : Claim7 := { stood := { row := fnExactCoverLineRow, standIns := [], harness := (true, "09625b677655397f156f05ea925c896cb58415e32d3c9c85bd373074c39799f0"), looks := false }, kinds := [], alts := [], laidByText := true, laidKinds := [.data, .data, .data], laidTests := true, laidLooks := .later }
def FnExactCoverLineCardSaid : Prop := Claim7.holds Tryd.pinned (.plain (OpenSpec.ofChange fnExactCoverLineSpec)) fnExactCoverLineCard

/-- THE TIED CARD OF 'laws.FnExactMatroidLine'. -/
def fnExactMatroidLineCard : Claim7 := { stood := { row := fnExactMatroidLineRow, standIns := [], harness := (true, "09625b677655397f156f05ea925c896cb58415e32d3c9c85bd373074c39799f0"), looks := false }, kinds := [], alts := [], laidByText := true, laidKinds := [.data, .data, .data], laidTests := true, laidLooks := .later }
def FnExactMatroidLineCardSaid : Prop := Claim7.holds Tryd.pinned (.plain (OpenSpec.ofChange fnExactMatroidLineSpec)) fnExactMatroidLineCard

/-- THE TIED CARD OF 'laws.FnExactOrderLine'. -/
def fnExactOrderLineCard : Claim7 := { stood := { row := fnExactOrderLineRow, standIns := [], harness := (true, "09625b677655397f156f05ea925c896cb58415e32d3c9c85bd373074c39799f0"), looks := false }, kinds := [], alts := [], laidByText := true, laidKinds := [.data, .data, .data], laidTests := true, laidLooks := .later }
def FnExactOrderLineCardSaid : Prop := Claim7.holds Tryd.pinned (.plain (OpenSpec.ofChange fnExactOrderLineSpec)) fnExactOrderLineCard

/-- THE SECOND FORM's CARD OF 'laws.FnExactFormatClaim'. -/
def fnExactFormatClaimUptoCard : Claim7 := { stood := { row := fnExactFormatClaimUptoRow, standIns := [], harness := (true, "09625b677655397f156f05ea925c896cb58415e32d3c9c85bd373074c39799f0"), looks := false }, kinds := [], alts := [], laidByText := true, laidKinds := [.data, .data, .data], laidTests := true, laidLooks := .later }
def FnExactFormatClaimUptoCardSaid : Prop := Claim7.holds Tryd.pinned (.plain (OpenSpec.upto fnExactFormatClaimSpec)) fnExactFormatClaimUptoCard

/-- THE SECOND FORM's CARD OF 'laws.FnExactFunctionLine'. -/
def fnExactFunctionLineUptoCard : Claim7 := { stood := { row := fnExactFunctionLineUptoRow, standIns := [], harness := (true, "09625b677655397f156f05ea925c896cb58415e32d3c9c85bd373074c39799f0"), looks := false }, kinds := [], alts := [], laidByText := true, laidKinds := [.data, .data, .data], laidTests := true, laidLooks := .later }
def FnExactFunctionLineUptoCardSaid : Prop := Claim7.holds Tryd.pinned (.plain (OpenSpec.upto fnExactFunctionLineSpec)) fnExactFunctionLineUptoCard

/-- THE SECOND FORM's CARD OF 'laws.FnExactCoverLine'. -/
def fnExactCoverLineUptoCard : Claim7 := { stood := { row := fnExactCoverLineUptoRow, standIns := [], harness := (true, "09625b677655397f156f05ea925c896cb58415e32d3c9c85bd373074c39799f0"), looks := false }, kinds := [], alts := [], laidByText := true, laidKinds := [.data, .data, .data], laidTests := true, laidLooks := .later }
def FnExactCoverLineUptoCardSaid : Prop := Claim7.holds Tryd.pinned (.plain (OpenSpec.upto fnExactCoverLineSpec)) fnExactCoverLineUptoCard

/-- THE SECOND FORM's CARD OF 'laws.FnExactMatroidLine'. -/
def fnExactMatroidLineUptoCard : Claim7 := { stood := { row := fnExactMatroidLineUptoRow, standIns := [], harness := (true, "09625b677655397f156f05ea925c896cb58415e32d3c9c85bd373074c39799f0"), looks := false }, kinds := [], alts := [], laidByText := true, laidKinds := [.data, .data, .data], laidTests := true, laidLooks := .later }
def FnExactMatroidLineUptoCardSaid : Prop := Claim7.holds Tryd.pinned (.plain (OpenSpec.upto fnExactMatroidLineSpec)) fnExactMatroidLineUptoCard

/-- THE SECOND FORM's CARD OF 'laws.FnExactOrderLine'. -/
def fnExactOrderLineUptoCard : Claim7 := { stood := { row := fnExactOrderLineUptoRow, standIns := [], harness := (true, "09625b677655397f156f05ea925c896cb58415e32d3c9c85bd373074c39799f0"), looks := false }, kinds := [], alts := [], laidByText := true, laidKinds := [.data, .data, .data], laidTests := true, laidLooks := .later }
def FnExactOrderLineUptoCardSaid : Prop := Claim7.holds Tryd.pinned (.plain (OpenSpec.upto fnExactOrderLineSpec)) fnExactOrderLineUptoCard
end Rows
end Go.Proofs.YtpaoiiiceekkkaaDoor
