/-
  DERIVED. GIVEN WITH THE SEED: THE CARDS: each row of YtelmokapdkepbaaDoorRows.lean that lists a variable, with what it lists TIED to the program's text (the seventh form; the later family's looks); each row that meets fmt, with fmt's text TOLD by the authors' own Lean function (tested against real Go, not proved from fmt's source: count such statements apart). THE CARD IS WHAT COUNTS. Prove the row's statement (the work); the ties are given (YtelmokapdkepbaaDoorTie.lean); close each card by the builder's one call (the guide's Derived/Test/ToyasCard.lean, 'card_holds'). Laid BY PROGRAM, IN A SANDBOX (cutbox-door.mjs). By AI agents, Wed Nov 11 2026. No macro, syntax, notation, axiom, sorry.
-/
import Derived.Test.YtelmokapdkepbaaDoorRows
import GoSem.ClaimSeven
namespace Go.Proofs.YtelmokapdkepbaaDoor
namespace Rows

/-- THE TIED CARD OF 'laws.FnExactOrderLine'. -/
def fnExactOrderLineCard : Claim7 := { stood := { row := fnExactOrderLineRow, standIns := [], harness := (true, "cf7d095e4cb6f40c8b6737178450c4128f7ac0df028810d5b3f017223dfd1ebc"), looks := false }, kinds := [], alts := [], laidByText := true, laidKinds := [.data, .data, .data], laidTests := true, laidLooks := .later }
def FnExactOrderLineCardSaid : Prop := Claim7.holds Tryd.pinned (.plain (OpenSpec.ofChange fnExactOrderLineSpec)) fnExactOrderLineCard

/-- THE SECOND FORM's CARD OF 'laws.FnExactOrderLine'. -/
def fnExactOrderLineUptoCard : Claim7 := { stood := { row := fnExactOrderLineUptoRow, standIns := [], harness := (true, "cf7d095e4cb6f40c8b6737178450c4128f7ac0df028810d5b3f017223dfd1ebc"), looks := false }, kinds := [], alts := [], laidByText := true, laidKinds := [.data, .data, .data], laidTests := true, laidLooks := .later }
def FnExactOrderLineUptoCardSaid : Prop := Claim7.holds Tryd.pinned (.plain (OpenSpec.upto fnExactOrderLineSpec)) fnExactOrderLineUptoCard
end Rows
end Go.Proofs.YtelmokapdkepbaaDoor
