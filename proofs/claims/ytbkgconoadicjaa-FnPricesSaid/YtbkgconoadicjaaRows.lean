/-
  No cell of these rows narrows 'for every input' (looked for: loops, veiled, ifaces, maps, wideKeys, modest, calm, conditions, laid).
  DERIVED. THE GIVEN ROWS OF THIS SEAT. 12 by the template 'for every input the law returns true; each argument reads behind the call as it read before'; 0 by the template 'total and deterministic' (their statements: YtbkgconoadicjaaTotals.lean).
  GIVEN WITH THE SEED: the statements are not yours to turn. If you find one false, say at which input.
  Laid BY PROGRAM, IN A SANDBOX (cutbox-rows.mjs): the forced cells as the released guide's own fill.sh prints them over the translation 31c3f917139c4569… (all of the seat's roots in one cut). By AI agents, Wed Nov 11 2026. No macro, syntax, notation, axiom, sorry.
-/
import Derived.Test.YtbkgconoadicjaaChecked
import GoSem.Claim
import GoSem.ClaimJoined
import GoSem.ClaimMapViews
import Derived.JoinedTies
import Derived.KernelRfl
namespace Go.Proofs.Ytbkgconoadicjaa
/- THE CELL 'sum', in the pinned program and in every row, IS THE sha256 OF THE DUMP (.gsa) THAT YtbkgconoadicjaaProg.lean LOADS. Nothing in Lean hashes anything: it is a label: what it is worth is what the hold of that sum in a sandbox is worth. -/
noncomputable def Try.pinned : Pinned := { name := "ytbkgconoadicjaa", sum := "31c3f917139c4569bdfc1e8f3281ff09cea8ed1dd19de51830ac02dfebd52a03", checked := Try.checked }
namespace Rows
def none {H : Type} : Left H := { results := [], args := [] }

/-- 'laws.FnExactIsKept': WHATEVER THE INPUT: true; the input reads as it did. -/
def fnExactIsKeptSpec : ChangeSpec := { name := "fnExactIsKept", fn := fun _ => fun
  | [d] => { results := [.lit (.bool true)], args := [d] }
  | _ => none }
def fnExactIsKeptRow : OpenClaim := { program := "ytbkgconoadicjaa", sum := "31c3f917139c4569bdfc1e8f3281ff09cea8ed1dd19de51830ac02dfebd52a03", func := "loop.example/g03405/laws.FnExactIsKept", spec := "fnExactIsKept", unfollowed := true, recurses := true, apart := false }
def FnExactIsKeptSaid : Prop := fnExactIsKeptRow.holds Try.pinned (OpenSpec.ofChange fnExactIsKeptSpec)

/-- ITS FALSE NEIGHBOUR: 'it returns false'. Refute it at one input. -/
def fnExactIsKeptWrong : ChangeSpec := { name := "fnExactIsKept", fn := fun _ => fun
  | [d] => { results := [.lit (.bool false)], args := [d] }
  | _ => none }
def FnExactIsKeptWrongFalsely : Prop := fnExactIsKeptRow.holds Try.pinned (OpenSpec.ofChange fnExactIsKeptWrong)

/-- 'laws.FnExactCountMatroids': WHATEVER THE INPUT: true; the input reads as it did. -/
def fnExactCountMatroidsSpec : ChangeSpec := { name := "fnExactCountMatroids", fn := fun _ => fun
  | [d] => { results := [.lit (.bool true)], args := [d] }
  | _ => none }
def fnExactCountMatroidsRow : OpenClaim := { program := "ytbkgconoadicjaa", sum := "31c3f917139c4569bdfc1e8f3281ff09cea8ed1dd19de51830ac02dfebd52a03", func := "loop.example/g03405/laws.FnExactCountMatroids", spec := "fnExactCountMatroids", unfollowed := true, recurses := true, apart := false }
def FnExactCountMatroidsSaid : Prop := fnExactCountMatroidsRow.holds Try.pinned (OpenSpec.ofChange fnExactCountMatroidsSpec)

/-- ITS FALSE NEIGHBOUR: 'it returns false'. Refute it at one input. -/
def fnExactCountMatroidsWrong : ChangeSpec := { name := "fnExactCountMatroids", fn := fun _ => fun
  | [d] => { results := [.lit (.bool false)], args := [d] }
  | _ => none }
def FnExactCountMatroidsWrongFalsely : Prop := fnExactCountMatroidsRow.holds Try.pinned (OpenSpec.ofChange fnExactCountMatroidsWrong)

/-- 'laws.FnExactPricesOf': WHATEVER THE INPUT: true; the input reads as it did. -/
def fnExactPricesOfSpec : ChangeSpec := { name := "fnExactPricesOf", fn := fun _ => fun
  | [d] => { results := [.lit (.bool true)], args := [d] }
  | _ => none }
def fnExactPricesOfRow : OpenClaim := { program := "ytbkgconoadicjaa", sum := "31c3f917139c4569bdfc1e8f3281ff09cea8ed1dd19de51830ac02dfebd52a03", func := "loop.example/g03405/laws.FnExactPricesOf", spec := "fnExactPricesOf", apart := false }
def FnExactPricesOfSaid : Prop := fnExactPricesOfRow.holds Try.pinned (OpenSpec.ofChange fnExactPricesOfSpec)

/-- ITS FALSE NEIGHBOUR: 'it returns false'. Refute it at one input. -/
def fnExactPricesOfWrong : ChangeSpec := { name := "fnExactPricesOf", fn := fun _ => fun
  | [d] => { results := [.lit (.bool false)], args := [d] }
  | _ => none }
def FnExactPricesOfWrongFalsely : Prop := fnExactPricesOfRow.holds Try.pinned (OpenSpec.ofChange fnExactPricesOfWrong)

/-- 'laws.FnExactMatroidsOf': WHATEVER THE INPUT: true; the input reads as it did. -/
def fnExactMatroidsOfSpec : ChangeSpec := { name := "fnExactMatroidsOf", fn := fun _ => fun
  | [d] => { results := [.lit (.bool true)], args := [d] }
  | _ => none }
def fnExactMatroidsOfRow : OpenClaim := { program := "ytbkgconoadicjaa", sum := "31c3f917139c4569bdfc1e8f3281ff09cea8ed1dd19de51830ac02dfebd52a03", func := "loop.example/g03405/laws.FnExactMatroidsOf", spec := "fnExactMatroidsOf", unfollowed := true, recurses := true, apart := false }
def FnExactMatroidsOfSaid : Prop := fnExactMatroidsOfRow.holds Try.pinned (OpenSpec.ofChange fnExactMatroidsOfSpec)

/-- ITS FALSE NEIGHBOUR: 'it returns false'. Refute it at one input. -/
def fnExactMatroidsOfWrong : ChangeSpec := { name := "fnExactMatroidsOf", fn := fun _ => fun
  | [d] => { results := [.lit (.bool false)], args := [d] }
  | _ => none }
def FnExactMatroidsOfWrongFalsely : Prop := fnExactMatroidsOfRow.holds Try.pinned (OpenSpec.ofChange fnExactMatroidsOfWrong)

/-- 'laws.FnExactClaimOfCut': WHATEVER THE INPUT: true; the input reads as it did. -/
def fnExactClaimOfCutSpec : ChangeSpec := { name := "fnExactClaimOfCut", fn := fun _ => fun
  | [d] => { results := [.lit (.bool true)], args := [d] }
  | _ => none }
def fnExactClaimOfCutRow : OpenClaim := { program := "ytbkgconoadicjaa", sum := "31c3f917139c4569bdfc1e8f3281ff09cea8ed1dd19de51830ac02dfebd52a03", func := "loop.example/g03405/laws.FnExactClaimOfCut", spec := "fnExactClaimOfCut", unfollowed := true, recurses := true, apart := false }
def FnExactClaimOfCutSaid : Prop := fnExactClaimOfCutRow.holds Try.pinned (OpenSpec.ofChange fnExactClaimOfCutSpec)

/-- ITS FALSE NEIGHBOUR: 'it returns false'. Refute it at one input. -/
def fnExactClaimOfCutWrong : ChangeSpec := { name := "fnExactClaimOfCut", fn := fun _ => fun
  | [d] => { results := [.lit (.bool false)], args := [d] }
  | _ => none }
def FnExactClaimOfCutWrongFalsely : Prop := fnExactClaimOfCutRow.holds Try.pinned (OpenSpec.ofChange fnExactClaimOfCutWrong)

/-- 'laws.FnExactCountDownClosed': WHATEVER THE INPUT: true; the input reads as it did. -/
def fnExactCountDownClosedSpec : ChangeSpec := { name := "fnExactCountDownClosed", fn := fun _ => fun
  | [d] => { results := [.lit (.bool true)], args := [d] }
  | _ => none }
def fnExactCountDownClosedRow : OpenClaim := { program := "ytbkgconoadicjaa", sum := "31c3f917139c4569bdfc1e8f3281ff09cea8ed1dd19de51830ac02dfebd52a03", func := "loop.example/g03405/laws.FnExactCountDownClosed", spec := "fnExactCountDownClosed", unfollowed := true, recurses := true, apart := false }
def FnExactCountDownClosedSaid : Prop := fnExactCountDownClosedRow.holds Try.pinned (OpenSpec.ofChange fnExactCountDownClosedSpec)

/-- ITS FALSE NEIGHBOUR: 'it returns false'. Refute it at one input. -/
def fnExactCountDownClosedWrong : ChangeSpec := { name := "fnExactCountDownClosed", fn := fun _ => fun
  | [d] => { results := [.lit (.bool false)], args := [d] }
  | _ => none }
def FnExactCountDownClosedWrongFalsely : Prop := fnExactCountDownClosedRow.holds Try.pinned (OpenSpec.ofChange fnExactCountDownClosedWrong)

/-- 'laws.FnExactNewKept': WHATEVER THE INPUT: true; the input reads as it did. -/
def fnExactNewKeptSpec : ChangeSpec := { name := "fnExactNewKept", fn := fun _ => fun
  | [d] => { results := [.lit (.bool true)], args := [d] }
  | _ => none }
def fnExactNewKeptRow : OpenClaim := { program := "ytbkgconoadicjaa", sum := "31c3f917139c4569bdfc1e8f3281ff09cea8ed1dd19de51830ac02dfebd52a03", func := "loop.example/g03405/laws.FnExactNewKept", spec := "fnExactNewKept", unfollowed := true, recurses := true, apart := false }
def FnExactNewKeptSaid : Prop := fnExactNewKeptRow.holds Try.pinned (OpenSpec.ofChange fnExactNewKeptSpec)

/-- ITS FALSE NEIGHBOUR: 'it returns false'. Refute it at one input. -/
def fnExactNewKeptWrong : ChangeSpec := { name := "fnExactNewKept", fn := fun _ => fun
  | [d] => { results := [.lit (.bool false)], args := [d] }
  | _ => none }
def FnExactNewKeptWrongFalsely : Prop := fnExactNewKeptRow.holds Try.pinned (OpenSpec.ofChange fnExactNewKeptWrong)

/-- 'laws.FnExactAddSet': WHATEVER THE INPUT: true; the input reads as it did. -/
def fnExactAddSetSpec : ChangeSpec := { name := "fnExactAddSet", fn := fun _ => fun
  | [d1, d2] => { results := [.lit (.bool true)], args := [d1, d2] }
  | _ => none }
def fnExactAddSetRow : OpenClaim := { program := "ytbkgconoadicjaa", sum := "31c3f917139c4569bdfc1e8f3281ff09cea8ed1dd19de51830ac02dfebd52a03", func := "loop.example/g03405/laws.FnExactAddSet", spec := "fnExactAddSet", unfollowed := true, recurses := true, apart := false }
def FnExactAddSetSaid : Prop := fnExactAddSetRow.holds Try.pinned (OpenSpec.ofChange fnExactAddSetSpec)

/-- ITS FALSE NEIGHBOUR: 'it returns false'. Refute it at one input. -/
def fnExactAddSetWrong : ChangeSpec := { name := "fnExactAddSet", fn := fun _ => fun
  | [d1, d2] => { results := [.lit (.bool false)], args := [d1, d2] }
  | _ => none }
def FnExactAddSetWrongFalsely : Prop := fnExactAddSetRow.holds Try.pinned (OpenSpec.ofChange fnExactAddSetWrong)

/-- 'laws.FnExactRemoveSet': WHATEVER THE INPUT: true; the input reads as it did. -/
def fnExactRemoveSetSpec : ChangeSpec := { name := "fnExactRemoveSet", fn := fun _ => fun
  | [d1, d2] => { results := [.lit (.bool true)], args := [d1, d2] }
  | _ => none }
def fnExactRemoveSetRow : OpenClaim := { program := "ytbkgconoadicjaa", sum := "31c3f917139c4569bdfc1e8f3281ff09cea8ed1dd19de51830ac02dfebd52a03", func := "loop.example/g03405/laws.FnExactRemoveSet", spec := "fnExactRemoveSet", unfollowed := true, recurses := true, apart := false }
def FnExactRemoveSetSaid : Prop := fnExactRemoveSetRow.holds Try.pinned (OpenSpec.ofChange fnExactRemoveSetSpec)

/-- ITS FALSE NEIGHBOUR: 'it returns false'. Refute it at one input. -/
def fnExactRemoveSetWrong : ChangeSpec := { name := "fnExactRemoveSet", fn := fun _ => fun
  | [d1, d2] => { results := [.lit (.bool false)], args := [d1, d2] }
  | _ => none }
def FnExactRemoveSetWrongFalsely : Prop := fnExactRemoveSetRow.holds Try.pinned (OpenSpec.ofChange fnExactRemoveSetWrong)

/-- 'laws.FnPrices': WHATEVER THE INPUT: true; the input reads as it did. -/
def fnPricesSpec : ChangeSpec := { name := "fnPrices", fn := fun _ => fun
  | [d] => { results := [.lit (.bool true)], args := [d] }
  | _ => none }
def fnPricesRow : OpenClaim := { program := "ytbkgconoadicjaa", sum := "31c3f917139c4569bdfc1e8f3281ff09cea8ed1dd19de51830ac02dfebd52a03", func := "loop.example/g03405/laws.FnPrices", spec := "fnPrices", recurses := true, apart := false }
def FnPricesSaid : Prop := fnPricesRow.holds Try.pinned (OpenSpec.ofChange fnPricesSpec)

/-- ITS FALSE NEIGHBOUR: 'it returns false'. Refute it at one input. -/
def fnPricesWrong : ChangeSpec := { name := "fnPrices", fn := fun _ => fun
  | [d] => { results := [.lit (.bool false)], args := [d] }
  | _ => none }
def FnPricesWrongFalsely : Prop := fnPricesRow.holds Try.pinned (OpenSpec.ofChange fnPricesWrong)

/-- 'laws.FnExactClaimOfSunflower': WHATEVER THE INPUT: true; the input reads as it did. -/
def fnExactClaimOfSunflowerSpec : ChangeSpec := { name := "fnExactClaimOfSunflower", fn := fun _ => fun
  | [d1, d2] => { results := [.lit (.bool true)], args := [d1, d2] }
  | _ => none }
def fnExactClaimOfSunflowerRow : OpenClaim := { program := "ytbkgconoadicjaa", sum := "31c3f917139c4569bdfc1e8f3281ff09cea8ed1dd19de51830ac02dfebd52a03", func := "loop.example/g03405/laws.FnExactClaimOfSunflower", spec := "fnExactClaimOfSunflower", recurses := true, apart := false }
def FnExactClaimOfSunflowerSaid : Prop := fnExactClaimOfSunflowerRow.holds Try.pinned (OpenSpec.ofChange fnExactClaimOfSunflowerSpec)

/-- ITS FALSE NEIGHBOUR: 'it returns false'. Refute it at one input. -/
def fnExactClaimOfSunflowerWrong : ChangeSpec := { name := "fnExactClaimOfSunflower", fn := fun _ => fun
  | [d1, d2] => { results := [.lit (.bool false)], args := [d1, d2] }
  | _ => none }
def FnExactClaimOfSunflowerWrongFalsely : Prop := fnExactClaimOfSunflowerRow.holds Try.pinned (OpenSpec.ofChange fnExactClaimOfSunflowerWrong)

/-- 'laws.FnExactClaimOfHall': WHATEVER THE INPUT: true; the input reads as it did. -/
def fnExactClaimOfHallSpec : ChangeSpec := { name := "fnExactClaimOfHall", fn := fun _ => fun
  | [d] => { results := [.lit (.bool true)], args := [d] }
  | _ => none }
def fnExactClaimOfHallRow : OpenClaim := { program := "ytbkgconoadicjaa", sum := "31c3f917139c4569bdfc1e8f3281ff09cea8ed1dd19de51830ac02dfebd52a03", func := "loop.example/g03405/laws.FnExactClaimOfHall", spec := "fnExactClaimOfHall", unfollowed := true, recurses := true, apart := false }
def FnExactClaimOfHallSaid : Prop := fnExactClaimOfHallRow.holds Try.pinned (OpenSpec.ofChange fnExactClaimOfHallSpec)

/-- ITS FALSE NEIGHBOUR: 'it returns false'. Refute it at one input. -/
def fnExactClaimOfHallWrong : ChangeSpec := { name := "fnExactClaimOfHall", fn := fun _ => fun
  | [d] => { results := [.lit (.bool false)], args := [d] }
  | _ => none }
def FnExactClaimOfHallWrongFalsely : Prop := fnExactClaimOfHallRow.holds Try.pinned (OpenSpec.ofChange fnExactClaimOfHallWrong)

/- THE SECOND FORM. 'bulk': how many values and letters a reading holds, each counted each time it is reached (what is shared counts as often as it is met; a slice's spare places count too). A statement '..UptoSaid' is the law's where the arguments, and the package variables that the reading takes, are together of bulk at most 1048576: NARROWER than '..Said'. Prove '..Said' where nothing that the law and all that it calls make is longer than what came in: it says more and counts as full. Else prove '..UptoSaid'. A law counts once. -/
mutual
def uptoBulk {H : Type} : DataW H → Nat
  | .lit (.string bytes) => bytes.length + 1
  | .lit _ => 1
  | .nil => 1
  | .ptr d => uptoBulk d + 1
  | .slice elems spare => uptoBulkAll elems + uptoBulkAll spare + 1
  | .agg parts => uptoBulkAll parts + 1
  | .iface _ d => uptoBulk d + 1
  | .map entries => uptoBulkEntries entries + 1
  | .held _ => 1
def uptoBulkAll {H : Type} : List (DataW H) → Nat
  | [] => 0
  | d :: r => uptoBulk d + uptoBulkAll r
def uptoBulkEntries {H : Type} : List (Lit × DataW H) → Nat
  | [] => 0
  | x :: r => uptoBulkEntry x + uptoBulkEntries r
def uptoBulkEntry {H : Type} : Lit × DataW H → Nat
  | (.string bytes, d) => bytes.length + uptoBulk d + 1
  | (_, d) => uptoBulk d + 1
 end
def uptoSmall : (H : Type) → List (DataW H) → Bool := fun _ ds => decide (uptoBulkAll ds ≤ 1048576)
def OpenSpec.upto (s : _root_.Go.ChangeSpec) : _root_.Go.OpenSpec := { _root_.Go.OpenSpec.ofChange s with cond := some uptoSmall }

/-- 'laws.FnExactIsKept', WHERE WHAT IT READS IS OF BULK AT MOST 1048576: true; the input reads as it did. -/
def fnExactIsKeptUptoRow : OpenClaim := { program := "ytbkgconoadicjaa", sum := "31c3f917139c4569bdfc1e8f3281ff09cea8ed1dd19de51830ac02dfebd52a03", func := "loop.example/g03405/laws.FnExactIsKept", spec := "fnExactIsKept", unfollowed := true, recurses := true, apart := false, narrowed := true }
def FnExactIsKeptUptoSaid : Prop := fnExactIsKeptUptoRow.holds Try.pinned (OpenSpec.upto fnExactIsKeptSpec)

/-- 'laws.FnExactCountMatroids', WHERE WHAT IT READS IS OF BULK AT MOST 1048576: true; the input reads as it did. -/
def fnExactCountMatroidsUptoRow : OpenClaim := { program := "ytbkgconoadicjaa", sum := "31c3f917139c4569bdfc1e8f3281ff09cea8ed1dd19de51830ac02dfebd52a03", func := "loop.example/g03405/laws.FnExactCountMatroids", spec := "fnExactCountMatroids", unfollowed := true, recurses := true, apart := false, narrowed := true }
def FnExactCountMatroidsUptoSaid : Prop := fnExactCountMatroidsUptoRow.holds Try.pinned (OpenSpec.upto fnExactCountMatroidsSpec)

/-- 'laws.FnExactPricesOf', WHERE WHAT IT READS IS OF BULK AT MOST 1048576: true; the input reads as it did. -/
def fnExactPricesOfUptoRow : OpenClaim := { program := "ytbkgconoadicjaa", sum := "31c3f917139c4569bdfc1e8f3281ff09cea8ed1dd19de51830ac02dfebd52a03", func := "loop.example/g03405/laws.FnExactPricesOf", spec := "fnExactPricesOf", apart := false, narrowed := true }
def FnExactPricesOfUptoSaid : Prop := fnExactPricesOfUptoRow.holds Try.pinned (OpenSpec.upto fnExactPricesOfSpec)

/-- 'laws.FnExactMatroidsOf', WHERE WHAT IT READS IS OF BULK AT MOST 1048576: true; the input reads as it did. -/
def fnExactMatroidsOfUptoRow : OpenClaim := { program := "ytbkgconoadicjaa", sum := "31c3f917139c4569bdfc1e8f3281ff09cea8ed1dd19de51830ac02dfebd52a03", func := "loop.example/g03405/laws.FnExactMatroidsOf", spec := "fnExactMatroidsOf", unfollowed := true, recurses := true, apart := false, narrowed := true }
def FnExactMatroidsOfUptoSaid : Prop := fnExactMatroidsOfUptoRow.holds Try.pinned (OpenSpec.upto fnExactMatroidsOfSpec)

/-- 'laws.FnExactClaimOfCut', WHERE WHAT IT READS IS OF BULK AT MOST 1048576: true; the input reads as it did. -/
def fnExactClaimOfCutUptoRow : OpenClaim := { program := "ytbkgconoadicjaa", sum := "31c3f917139c4569bdfc1e8f3281ff09cea8ed1dd19de51830ac02dfebd52a03", func := "loop.example/g03405/laws.FnExactClaimOfCut", spec := "fnExactClaimOfCut", unfollowed := true, recurses := true, apart := false, narrowed := true }
def FnExactClaimOfCutUptoSaid : Prop := fnExactClaimOfCutUptoRow.holds Try.pinned (OpenSpec.upto fnExactClaimOfCutSpec)

/-- 'laws.FnExactCountDownClosed', WHERE WHAT IT READS IS OF BULK AT MOST 1048576: true; the input reads as it did. -/
def fnExactCountDownClosedUptoRow : OpenClaim := { program := "ytbkgconoadicjaa", sum := "31c3f917139c4569bdfc1e8f3281ff09cea8ed1dd19de51830ac02dfebd52a03", func := "loop.example/g03405/laws.FnExactCountDownClosed", spec := "fnExactCountDownClosed", unfollowed := true, recurses := true, apart := false, narrowed := true }
def FnExactCountDownClosedUptoSaid : Prop := fnExactCountDownClosedUptoRow.holds Try.pinned (OpenSpec.upto fnExactCountDownClosedSpec)

/-- 'laws.FnExactNewKept', WHERE WHAT IT READS IS OF BULK AT MOST 1048576: true; the input reads as it did. -/
def fnExactNewKeptUptoRow : OpenClaim := { program := "ytbkgconoadicjaa", sum := "31c3f917139c4569bdfc1e8f3281ff09cea8ed1dd19de51830ac02dfebd52a03", func := "loop.example/g03405/laws.FnExactNewKept", spec := "fnExactNewKept", unfollowed := true, recurses := true, apart := false, narrowed := true }
def FnExactNewKeptUptoSaid : Prop := fnExactNewKeptUptoRow.holds Try.pinned (OpenSpec.upto fnExactNewKeptSpec)

/-- 'laws.FnExactAddSet', WHERE WHAT IT READS IS OF BULK AT MOST 1048576: true; the input reads as it did. -/
def fnExactAddSetUptoRow : OpenClaim := { program := "ytbkgconoadicjaa", sum := "31c3f917139c4569bdfc1e8f3281ff09cea8ed1dd19de51830ac02dfebd52a03", func := "loop.example/g03405/laws.FnExactAddSet", spec := "fnExactAddSet", unfollowed := true, recurses := true, apart := false, narrowed := true }
def FnExactAddSetUptoSaid : Prop := fnExactAddSetUptoRow.holds Try.pinned (OpenSpec.upto fnExactAddSetSpec)

/-- 'laws.FnExactRemoveSet', WHERE WHAT IT READS IS OF BULK AT MOST 1048576: true; the input reads as it did. -/
def fnExactRemoveSetUptoRow : OpenClaim := { program := "ytbkgconoadicjaa", sum := "31c3f917139c4569bdfc1e8f3281ff09cea8ed1dd19de51830ac02dfebd52a03", func := "loop.example/g03405/laws.FnExactRemoveSet", spec := "fnExactRemoveSet", unfollowed := true, recurses := true, apart := false, narrowed := true }
def FnExactRemoveSetUptoSaid : Prop := fnExactRemoveSetUptoRow.holds Try.pinned (OpenSpec.upto fnExactRemoveSetSpec)

/-- 'laws.FnPrices', WHERE WHAT IT READS IS OF BULK AT MOST 1048576: true; the input reads as it did. -/
def fnPricesUptoRow : OpenClaim := { program := "ytbkgconoadicjaa", sum := "31c3f917139c4569bdfc1e8f3281ff09cea8ed1dd19de51830ac02dfebd52a03", func := "loop.example/g03405/laws.FnPrices", spec := "fnPrices", recurses := true, apart := false, narrowed := true }
def FnPricesUptoSaid : Prop := fnPricesUptoRow.holds Try.pinned (OpenSpec.upto fnPricesSpec)

/-- 'laws.FnExactClaimOfSunflower', WHERE WHAT IT READS IS OF BULK AT MOST 1048576: true; the input reads as it did. -/
def fnExactClaimOfSunflowerUptoRow : OpenClaim := { program := "ytbkgconoadicjaa", sum := "31c3f917139c4569bdfc1e8f3281ff09cea8ed1dd19de51830ac02dfebd52a03", func := "loop.example/g03405/laws.FnExactClaimOfSunflower", spec := "fnExactClaimOfSunflower", recurses := true, apart := false, narrowed := true }
def FnExactClaimOfSunflowerUptoSaid : Prop := fnExactClaimOfSunflowerUptoRow.holds Try.pinned (OpenSpec.upto fnExactClaimOfSunflowerSpec)

/-- 'laws.FnExactClaimOfHall', WHERE WHAT IT READS IS OF BULK AT MOST 1048576: true; the input reads as it did. -/
def fnExactClaimOfHallUptoRow : OpenClaim := { program := "ytbkgconoadicjaa", sum := "31c3f917139c4569bdfc1e8f3281ff09cea8ed1dd19de51830ac02dfebd52a03", func := "loop.example/g03405/laws.FnExactClaimOfHall", spec := "fnExactClaimOfHall", unfollowed := true, recurses := true, apart := false, narrowed := true }
def FnExactClaimOfHallUptoSaid : Prop := fnExactClaimOfHallUptoRow.holds Try.pinned (OpenSpec.upto fnExactClaimOfHallSpec)

end Rows
end Go.Proofs.Ytbkgconoadicjaa
