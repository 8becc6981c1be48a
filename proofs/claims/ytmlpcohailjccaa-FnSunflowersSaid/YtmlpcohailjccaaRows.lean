/-
  No cell of these rows narrows 'for every input' (looked for: loops, veiled, ifaces, maps, wideKeys, modest, calm, conditions, laid).
  DERIVED. THE GIVEN ROWS OF THIS SEAT. 5 by the template 'for every input the law returns true; each argument reads behind the call as it read before'; 0 by the template 'total and deterministic' (their statements: YtmlpcohailjccaaTotals.lean).
  GIVEN WITH THE SEED: the statements are not yours to turn. If you find one false, say at which input.
  Laid BY PROGRAM, IN A SANDBOX (cutbox-rows.mjs): the forced cells as the released guide's own fill.sh prints them over the translation 1b047ff36c03bf8a… (all of the seat's roots in one cut). By AI agents, Wed Nov 11 2026. No macro, syntax, notation, axiom, sorry.
-/
import Derived.Test.YtmlpcohailjccaaChecked
import GoSem.Claim
import GoSem.ClaimJoined
import GoSem.ClaimMapViews
import Derived.JoinedTies
import Derived.KernelRfl
namespace Go.Proofs.Ytmlpcohailjccaa
/- THE CELL 'sum', in the pinned program and in every row, IS THE sha256 OF THE DUMP (.gsa) THAT YtmlpcohailjccaaProg.lean LOADS. Nothing in Lean hashes anything: it is a label: what it is worth is what the hold of that sum in a sandbox is worth. -/
noncomputable def Try.pinned : Pinned := { name := "ytmlpcohailjccaa", sum := "1b047ff36c03bf8ac6c814898900241cd1eb3c3fa49b6a62e3018e77aa764512", checked := Try.checked }
namespace Rows
def none {H : Type} : Left H := { results := [], args := [] }

/-- 'laws.FnExactClaimOfCommon': WHATEVER THE INPUT: true; the input reads as it did. -/
def fnExactClaimOfCommonSpec : ChangeSpec := { name := "fnExactClaimOfCommon", fn := fun _ => fun
  | [d1, d2] => { results := [.lit (.bool true)], args := [d1, d2] }
  | _ => none }
def fnExactClaimOfCommonRow : OpenClaim := { program := "ytmlpcohailjccaa", sum := "1b047ff36c03bf8ac6c814898900241cd1eb3c3fa49b6a62e3018e77aa764512", func := "loop.example/g03405/laws.FnExactClaimOfCommon", spec := "fnExactClaimOfCommon", unfollowed := true, recurses := true, apart := false }
def FnExactClaimOfCommonSaid : Prop := fnExactClaimOfCommonRow.holds Try.pinned (OpenSpec.ofChange fnExactClaimOfCommonSpec)

/-- ITS FALSE NEIGHBOUR: 'it returns false'. Refute it at one input. -/
def fnExactClaimOfCommonWrong : ChangeSpec := { name := "fnExactClaimOfCommon", fn := fun _ => fun
  | [d1, d2] => { results := [.lit (.bool false)], args := [d1, d2] }
  | _ => none }
def FnExactClaimOfCommonWrongFalsely : Prop := fnExactClaimOfCommonRow.holds Try.pinned (OpenSpec.ofChange fnExactClaimOfCommonWrong)

/-- 'laws.FnExactClaimOfFunction': WHATEVER THE INPUT: true; the input reads as it did. -/
def fnExactClaimOfFunctionSpec : ChangeSpec := { name := "fnExactClaimOfFunction", fn := fun _ => fun
  | [d] => { results := [.lit (.bool true)], args := [d] }
  | _ => none }
def fnExactClaimOfFunctionRow : OpenClaim := { program := "ytmlpcohailjccaa", sum := "1b047ff36c03bf8ac6c814898900241cd1eb3c3fa49b6a62e3018e77aa764512", func := "loop.example/g03405/laws.FnExactClaimOfFunction", spec := "fnExactClaimOfFunction", unfollowed := true, recurses := true, apart := false }
def FnExactClaimOfFunctionSaid : Prop := fnExactClaimOfFunctionRow.holds Try.pinned (OpenSpec.ofChange fnExactClaimOfFunctionSpec)

/-- ITS FALSE NEIGHBOUR: 'it returns false'. Refute it at one input. -/
def fnExactClaimOfFunctionWrong : ChangeSpec := { name := "fnExactClaimOfFunction", fn := fun _ => fun
  | [d] => { results := [.lit (.bool false)], args := [d] }
  | _ => none }
def FnExactClaimOfFunctionWrongFalsely : Prop := fnExactClaimOfFunctionRow.holds Try.pinned (OpenSpec.ofChange fnExactClaimOfFunctionWrong)

/-- 'laws.FnExactClaimOfBase': WHATEVER THE INPUT: true; the input reads as it did. -/
def fnExactClaimOfBaseSpec : ChangeSpec := { name := "fnExactClaimOfBase", fn := fun _ => fun
  | [d1, d2] => { results := [.lit (.bool true)], args := [d1, d2] }
  | _ => none }
def fnExactClaimOfBaseRow : OpenClaim := { program := "ytmlpcohailjccaa", sum := "1b047ff36c03bf8ac6c814898900241cd1eb3c3fa49b6a62e3018e77aa764512", func := "loop.example/g03405/laws.FnExactClaimOfBase", spec := "fnExactClaimOfBase", unfollowed := true, recurses := true, apart := false }
def FnExactClaimOfBaseSaid : Prop := fnExactClaimOfBaseRow.holds Try.pinned (OpenSpec.ofChange fnExactClaimOfBaseSpec)

/-- ITS FALSE NEIGHBOUR: 'it returns false'. Refute it at one input. -/
def fnExactClaimOfBaseWrong : ChangeSpec := { name := "fnExactClaimOfBase", fn := fun _ => fun
  | [d1, d2] => { results := [.lit (.bool false)], args := [d1, d2] }
  | _ => none }
def FnExactClaimOfBaseWrongFalsely : Prop := fnExactClaimOfBaseRow.holds Try.pinned (OpenSpec.ofChange fnExactClaimOfBaseWrong)

/-- 'laws.FnSunflowers': WHATEVER THE INPUT: true; the input reads as it did. -/
def fnSunflowersSpec : ChangeSpec := { name := "fnSunflowers", fn := fun _ => fun
  | [d] => { results := [.lit (.bool true)], args := [d] }
  | _ => none }
def fnSunflowersRow : OpenClaim := { program := "ytmlpcohailjccaa", sum := "1b047ff36c03bf8ac6c814898900241cd1eb3c3fa49b6a62e3018e77aa764512", func := "loop.example/g03405/laws.FnSunflowers", spec := "fnSunflowers", recurses := true, apart := false }
def FnSunflowersSaid : Prop := fnSunflowersRow.holds Try.pinned (OpenSpec.ofChange fnSunflowersSpec)

/-- ITS FALSE NEIGHBOUR: 'it returns false'. Refute it at one input. -/
def fnSunflowersWrong : ChangeSpec := { name := "fnSunflowers", fn := fun _ => fun
  | [d] => { results := [.lit (.bool false)], args := [d] }
  | _ => none }
def FnSunflowersWrongFalsely : Prop := fnSunflowersRow.holds Try.pinned (OpenSpec.ofChange fnSunflowersWrong)

/-- 'laws.FnHall': WHATEVER THE INPUT: true; the input reads as it did. -/
def fnHallSpec : ChangeSpec := { name := "fnHall", fn := fun _ => fun
  | [d] => { results := [.lit (.bool true)], args := [d] }
  | _ => none }
def fnHallRow : OpenClaim := { program := "ytmlpcohailjccaa", sum := "1b047ff36c03bf8ac6c814898900241cd1eb3c3fa49b6a62e3018e77aa764512", func := "loop.example/g03405/laws.FnHall", spec := "fnHall", unfollowed := true, recurses := true, apart := false }
def FnHallSaid : Prop := fnHallRow.holds Try.pinned (OpenSpec.ofChange fnHallSpec)

/-- ITS FALSE NEIGHBOUR: 'it returns false'. Refute it at one input. -/
def fnHallWrong : ChangeSpec := { name := "fnHall", fn := fun _ => fun
  | [d] => { results := [.lit (.bool false)], args := [d] }
  | _ => none }
def FnHallWrongFalsely : Prop := fnHallRow.holds Try.pinned (OpenSpec.ofChange fnHallWrong)

/- THE SECOND FORM. 'bulk': how many values and letters a reading holds, each counted each time it is reached (what is shared counts as often as it is met; a slice's spare places count too). A statement '..UptoSaid' is the law's where the arguments, and the package variables that the reading takes, are together of bulk at most 1048576: NARROWER than '..Said'. Prove '..Said' where nothing that the law and all that it calls make is longer than what came in: it says more and counts as full. Else prove '..UptoSaid'. A law counts once. -/
mutual
def uptoBulk {H : Type} : DataW H → Nat
  | .lit (.string bytes) => bytes.length + 1
  | .lit _ => 1
  | .nil => 1
  | .ptr d => uptoBulk d + 1
  | .slice elems spare => uptoBulkAll elems + uptoBulkAll spare + 1
  | .agg parts => uptoBulkAll parts + 1
  | .iface _ d => uptoBulk d + 1
  | .map entries => uptoBulkEntries entries + 1
  | .held _ => 1
def uptoBulkAll {H : Type} : List (DataW H) → Nat
  | [] => 0
  | d :: r => uptoBulk d + uptoBulkAll r
def uptoBulkEntries {H : Type} : List (Lit × DataW H) → Nat
  | [] => 0
  | x :: r => uptoBulkEntry x + uptoBulkEntries r
def uptoBulkEntry {H : Type} : Lit × DataW H → Nat
  | (.string bytes, d) => bytes.length + uptoBulk d + 1
  | (_, d) => uptoBulk d + 1
 end
def uptoSmall : (H : Type) → List (DataW H) → Bool := fun _ ds => decide (uptoBulkAll ds ≤ 1048576)
def OpenSpec.upto (s : _root_.Go.ChangeSpec) : _root_.Go.OpenSpec := { _root_.Go.OpenSpec.ofChange s with cond := some uptoSmall }

/-- 'laws.FnExactClaimOfCommon', WHERE WHAT IT READS IS OF BULK AT MOST 1048576: true; the input reads as it did. -/
def fnExactClaimOfCommonUptoRow : OpenClaim := { program := "ytmlpcohailjccaa", sum := "1b047ff36c03bf8ac6c814898900241cd1eb3c3fa49b6a62e3018e77aa764512", func := "loop.example/g03405/laws.FnExactClaimOfCommon", spec := "fnExactClaimOfCommon", unfollowed := true, recurses := true, apart := false, narrowed := true }
def FnExactClaimOfCommonUptoSaid : Prop := fnExactClaimOfCommonUptoRow.holds Try.pinned (OpenSpec.upto fnExactClaimOfCommonSpec)

/-- 'laws.FnExactClaimOfFunction', WHERE WHAT IT READS IS OF BULK AT MOST 1048576: true; the input reads as it did. -/
def fnExactClaimOfFunctionUptoRow : OpenClaim := { program := "ytmlpcohailjccaa", sum := "1b047ff36c03bf8ac6c814898900241cd1eb3c3fa49b6a62e3018e77aa764512", func := "loop.example/g03405/laws.FnExactClaimOfFunction", spec := "fnExactClaimOfFunction", unfollowed := true, recurses := true, apart := false, narrowed := true }
def FnExactClaimOfFunctionUptoSaid : Prop := fnExactClaimOfFunctionUptoRow.holds Try.pinned (OpenSpec.upto fnExactClaimOfFunctionSpec)

/-- 'laws.FnExactClaimOfBase', WHERE WHAT IT READS IS OF BULK AT MOST 1048576: true; the input reads as it did. -/
def fnExactClaimOfBaseUptoRow : OpenClaim := { program := "ytmlpcohailjccaa", sum := "1b047ff36c03bf8ac6c814898900241cd1eb3c3fa49b6a62e3018e77aa764512", func := "loop.example/g03405/laws.FnExactClaimOfBase", spec := "fnExactClaimOfBase", unfollowed := true, recurses := true, apart := false, narrowed := true }
def FnExactClaimOfBaseUptoSaid : Prop := fnExactClaimOfBaseUptoRow.holds Try.pinned (OpenSpec.upto fnExactClaimOfBaseSpec)

/-- 'laws.FnSunflowers', WHERE WHAT IT READS IS OF BULK AT MOST 1048576: true; the input reads as it did. -/
def fnSunflowersUptoRow : OpenClaim := { program := "ytmlpcohailjccaa", sum := "1b047ff36c03bf8ac6c814898900241cd1eb3c3fa49b6a62e3018e77aa764512", func := "loop.example/g03405/laws.FnSunflowers", spec := "fnSunflowers", recurses := true, apart := false, narrowed := true }
def FnSunflowersUptoSaid : Prop := fnSunflowersUptoRow.holds Try.pinned (OpenSpec.upto fnSunflowersSpec)

/-- 'laws.FnHall', WHERE WHAT IT READS IS OF BULK AT MOST 1048576: true; the input reads as it did. -/
def fnHallUptoRow : OpenClaim := { program := "ytmlpcohailjccaa", sum := "1b047ff36c03bf8ac6c814898900241cd1eb3c3fa49b6a62e3018e77aa764512", func := "loop.example/g03405/laws.FnHall", spec := "fnHall", unfollowed := true, recurses := true, apart := false, narrowed := true }
def FnHallUptoSaid : Prop := fnHallUptoRow.holds Try.pinned (OpenSpec.upto fnHallSpec)

end Rows
end Go.Proofs.Ytmlpcohailjccaa
