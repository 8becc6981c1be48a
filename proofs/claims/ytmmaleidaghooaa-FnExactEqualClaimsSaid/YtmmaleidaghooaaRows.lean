/-
  No cell of these rows narrows 'for every input' (looked for: loops, veiled, ifaces, maps, wideKeys, modest, calm, conditions, laid).
  DERIVED. THE GIVEN ROWS OF THIS SEAT. 12 by the template 'for every input the law returns true; each argument reads behind the call as it read before'; 0 by the template 'total and deterministic' (their statements: YtmmaleidaghooaaTotals.lean).
  GIVEN WITH THE SEED: the statements are not yours to turn. If you find one false, say at which input.
  Laid BY PROGRAM, IN A SANDBOX (cutbox-rows.mjs): the forced cells as the released guide's own fill.sh prints them over the translation 28feff3b1f94d0b0… (all of the seat's roots in one cut). By AI agents, Wed Nov 11 2026. No macro, syntax, notation, axiom, sorry.
-/
import Derived.Test.YtmmaleidaghooaaChecked
import GoSem.Claim
import GoSem.ClaimJoined
import GoSem.ClaimMapViews
import Derived.JoinedTies
import Derived.KernelRfl
namespace Go.Proofs.Ytmmaleidaghooaa
/- THE CELL 'sum', in the pinned program and in every row, IS THE sha256 OF THE DUMP (.gsa) THAT YtmmaleidaghooaaProg.lean LOADS. Nothing in Lean hashes anything: it is a label: what it is worth is what the hold of that sum in a sandbox is worth. -/
noncomputable def Try.pinned : Pinned := { name := "ytmmaleidaghooaa", sum := "28feff3b1f94d0b08c472581ec99ef1df65449733abc3cb8defb598c0e85dccf", checked := Try.checked }
namespace Rows
def none {H : Type} : Left H := { results := [], args := [] }

/-- 'laws.FnExactCountAntichains': WHATEVER THE INPUT: true; the input reads as it did. -/
def fnExactCountAntichainsSpec : ChangeSpec := { name := "fnExactCountAntichains", fn := fun _ => fun
  | [d] => { results := [.lit (.bool true)], args := [d] }
  | _ => none }
def fnExactCountAntichainsRow : OpenClaim := { program := "ytmmaleidaghooaa", sum := "28feff3b1f94d0b08c472581ec99ef1df65449733abc3cb8defb598c0e85dccf", func := "loop.example/g03405/laws.FnExactCountAntichains", spec := "fnExactCountAntichains", unfollowed := true, recurses := true, apart := false }
def FnExactCountAntichainsSaid : Prop := fnExactCountAntichainsRow.holds Try.pinned (OpenSpec.ofChange fnExactCountAntichainsSpec)

/-- ITS FALSE NEIGHBOUR: 'it returns false'. Refute it at one input. -/
def fnExactCountAntichainsWrong : ChangeSpec := { name := "fnExactCountAntichains", fn := fun _ => fun
  | [d] => { results := [.lit (.bool false)], args := [d] }
  | _ => none }
def FnExactCountAntichainsWrongFalsely : Prop := fnExactCountAntichainsRow.holds Try.pinned (OpenSpec.ofChange fnExactCountAntichainsWrong)

/-- 'laws.FnExactCountLaminar': WHATEVER THE INPUT: true; the input reads as it did. -/
def fnExactCountLaminarSpec : ChangeSpec := { name := "fnExactCountLaminar", fn := fun _ => fun
  | [d] => { results := [.lit (.bool true)], args := [d] }
  | _ => none }
def fnExactCountLaminarRow : OpenClaim := { program := "ytmmaleidaghooaa", sum := "28feff3b1f94d0b08c472581ec99ef1df65449733abc3cb8defb598c0e85dccf", func := "loop.example/g03405/laws.FnExactCountLaminar", spec := "fnExactCountLaminar", unfollowed := true, recurses := true, apart := false }
def FnExactCountLaminarSaid : Prop := fnExactCountLaminarRow.holds Try.pinned (OpenSpec.ofChange fnExactCountLaminarSpec)

/-- ITS FALSE NEIGHBOUR: 'it returns false'. Refute it at one input. -/
def fnExactCountLaminarWrong : ChangeSpec := { name := "fnExactCountLaminar", fn := fun _ => fun
  | [d] => { results := [.lit (.bool false)], args := [d] }
  | _ => none }
def FnExactCountLaminarWrongFalsely : Prop := fnExactCountLaminarRow.holds Try.pinned (OpenSpec.ofChange fnExactCountLaminarWrong)

/-- 'laws.FnExactFunctionOfMasses': WHATEVER THE INPUT: true; the input reads as it did. -/
def fnExactFunctionOfMassesSpec : ChangeSpec := { name := "fnExactFunctionOfMasses", fn := fun _ => fun
  | [d1, d2] => { results := [.lit (.bool true)], args := [d1, d2] }
  | _ => none }
def fnExactFunctionOfMassesRow : OpenClaim := { program := "ytmmaleidaghooaa", sum := "28feff3b1f94d0b08c472581ec99ef1df65449733abc3cb8defb598c0e85dccf", func := "loop.example/g03405/laws.FnExactFunctionOfMasses", spec := "fnExactFunctionOfMasses", unfollowed := true, recurses := true, apart := false }
def FnExactFunctionOfMassesSaid : Prop := fnExactFunctionOfMassesRow.holds Try.pinned (OpenSpec.ofChange fnExactFunctionOfMassesSpec)

/-- ITS FALSE NEIGHBOUR: 'it returns false'. Refute it at one input. -/
def fnExactFunctionOfMassesWrong : ChangeSpec := { name := "fnExactFunctionOfMasses", fn := fun _ => fun
  | [d1, d2] => { results := [.lit (.bool false)], args := [d1, d2] }
  | _ => none }
def FnExactFunctionOfMassesWrongFalsely : Prop := fnExactFunctionOfMassesRow.holds Try.pinned (OpenSpec.ofChange fnExactFunctionOfMassesWrong)

/-- 'laws.FnExactIsInCore': WHATEVER THE INPUT: true; the input reads as it did. -/
def fnExactIsInCoreSpec : ChangeSpec := { name := "fnExactIsInCore", fn := fun _ => fun
  | [d1, d2] => { results := [.lit (.bool true)], args := [d1, d2] }
  | _ => none }
def fnExactIsInCoreRow : OpenClaim := { program := "ytmmaleidaghooaa", sum := "28feff3b1f94d0b08c472581ec99ef1df65449733abc3cb8defb598c0e85dccf", func := "loop.example/g03405/laws.FnExactIsInCore", spec := "fnExactIsInCore", apart := false }
def FnExactIsInCoreSaid : Prop := fnExactIsInCoreRow.holds Try.pinned (OpenSpec.ofChange fnExactIsInCoreSpec)

/-- ITS FALSE NEIGHBOUR: 'it returns false'. Refute it at one input. -/
def fnExactIsInCoreWrong : ChangeSpec := { name := "fnExactIsInCore", fn := fun _ => fun
  | [d1, d2] => { results := [.lit (.bool false)], args := [d1, d2] }
  | _ => none }
def FnExactIsInCoreWrongFalsely : Prop := fnExactIsInCoreRow.holds Try.pinned (OpenSpec.ofChange fnExactIsInCoreWrong)

/-- 'laws.FnExactLargestSize': WHATEVER THE INPUT: true; the input reads as it did. -/
def fnExactLargestSizeSpec : ChangeSpec := { name := "fnExactLargestSize", fn := fun _ => fun
  | [d] => { results := [.lit (.bool true)], args := [d] }
  | _ => none }
def fnExactLargestSizeRow : OpenClaim := { program := "ytmmaleidaghooaa", sum := "28feff3b1f94d0b08c472581ec99ef1df65449733abc3cb8defb598c0e85dccf", func := "loop.example/g03405/laws.FnExactLargestSize", spec := "fnExactLargestSize", apart := false }
def FnExactLargestSizeSaid : Prop := fnExactLargestSizeRow.holds Try.pinned (OpenSpec.ofChange fnExactLargestSizeSpec)

/-- ITS FALSE NEIGHBOUR: 'it returns false'. Refute it at one input. -/
def fnExactLargestSizeWrong : ChangeSpec := { name := "fnExactLargestSize", fn := fun _ => fun
  | [d] => { results := [.lit (.bool false)], args := [d] }
  | _ => none }
def FnExactLargestSizeWrongFalsely : Prop := fnExactLargestSizeRow.holds Try.pinned (OpenSpec.ofChange fnExactLargestSizeWrong)

/-- 'laws.FnExactIsSetCover': WHATEVER THE INPUT: true; the input reads as it did. -/
def fnExactIsSetCoverSpec : ChangeSpec := { name := "fnExactIsSetCover", fn := fun _ => fun
  | [d1, d2] => { results := [.lit (.bool true)], args := [d1, d2] }
  | _ => none }
def fnExactIsSetCoverRow : OpenClaim := { program := "ytmmaleidaghooaa", sum := "28feff3b1f94d0b08c472581ec99ef1df65449733abc3cb8defb598c0e85dccf", func := "loop.example/g03405/laws.FnExactIsSetCover", spec := "fnExactIsSetCover", apart := false }
def FnExactIsSetCoverSaid : Prop := fnExactIsSetCoverRow.holds Try.pinned (OpenSpec.ofChange fnExactIsSetCoverSpec)

/-- ITS FALSE NEIGHBOUR: 'it returns false'. Refute it at one input. -/
def fnExactIsSetCoverWrong : ChangeSpec := { name := "fnExactIsSetCover", fn := fun _ => fun
  | [d1, d2] => { results := [.lit (.bool false)], args := [d1, d2] }
  | _ => none }
def FnExactIsSetCoverWrongFalsely : Prop := fnExactIsSetCoverRow.holds Try.pinned (OpenSpec.ofChange fnExactIsSetCoverWrong)

/-- 'laws.FnExactEqualClaims': WHATEVER THE INPUT: true; the input reads as it did. -/
def fnExactEqualClaimsSpec : ChangeSpec := { name := "fnExactEqualClaims", fn := fun _ => fun
  | [d1, d2] => { results := [.lit (.bool true)], args := [d1, d2] }
  | _ => none }
def fnExactEqualClaimsRow : OpenClaim := { program := "ytmmaleidaghooaa", sum := "28feff3b1f94d0b08c472581ec99ef1df65449733abc3cb8defb598c0e85dccf", func := "loop.example/g03405/laws.FnExactEqualClaims", spec := "fnExactEqualClaims", apart := false }
def FnExactEqualClaimsSaid : Prop := fnExactEqualClaimsRow.holds Try.pinned (OpenSpec.ofChange fnExactEqualClaimsSpec)

/-- ITS FALSE NEIGHBOUR: 'it returns false'. Refute it at one input. -/
def fnExactEqualClaimsWrong : ChangeSpec := { name := "fnExactEqualClaims", fn := fun _ => fun
  | [d1, d2] => { results := [.lit (.bool false)], args := [d1, d2] }
  | _ => none }
def FnExactEqualClaimsWrongFalsely : Prop := fnExactEqualClaimsRow.holds Try.pinned (OpenSpec.ofChange fnExactEqualClaimsWrong)

/-- 'laws.FnExactHasOnlyPositiveMasses': WHATEVER THE INPUT: true; the input reads as it did. -/
def fnExactHasOnlyPositiveMassesSpec : ChangeSpec := { name := "fnExactHasOnlyPositiveMasses", fn := fun _ => fun
  | [d] => { results := [.lit (.bool true)], args := [d] }
  | _ => none }
def fnExactHasOnlyPositiveMassesRow : OpenClaim := { program := "ytmmaleidaghooaa", sum := "28feff3b1f94d0b08c472581ec99ef1df65449733abc3cb8defb598c0e85dccf", func := "loop.example/g03405/laws.FnExactHasOnlyPositiveMasses", spec := "fnExactHasOnlyPositiveMasses", apart := false }
def FnExactHasOnlyPositiveMassesSaid : Prop := fnExactHasOnlyPositiveMassesRow.holds Try.pinned (OpenSpec.ofChange fnExactHasOnlyPositiveMassesSpec)

/-- ITS FALSE NEIGHBOUR: 'it returns false'. Refute it at one input. -/
def fnExactHasOnlyPositiveMassesWrong : ChangeSpec := { name := "fnExactHasOnlyPositiveMasses", fn := fun _ => fun
  | [d] => { results := [.lit (.bool false)], args := [d] }
  | _ => none }
def FnExactHasOnlyPositiveMassesWrongFalsely : Prop := fnExactHasOnlyPositiveMassesRow.holds Try.pinned (OpenSpec.ofChange fnExactHasOnlyPositiveMassesWrong)

/-- 'laws.FnExactMassesOf': WHATEVER THE INPUT: true; the input reads as it did. -/
def fnExactMassesOfSpec : ChangeSpec := { name := "fnExactMassesOf", fn := fun _ => fun
  | [d] => { results := [.lit (.bool true)], args := [d] }
  | _ => none }
def fnExactMassesOfRow : OpenClaim := { program := "ytmmaleidaghooaa", sum := "28feff3b1f94d0b08c472581ec99ef1df65449733abc3cb8defb598c0e85dccf", func := "loop.example/g03405/laws.FnExactMassesOf", spec := "fnExactMassesOf", apart := false }
def FnExactMassesOfSaid : Prop := fnExactMassesOfRow.holds Try.pinned (OpenSpec.ofChange fnExactMassesOfSpec)

/-- ITS FALSE NEIGHBOUR: 'it returns false'. Refute it at one input. -/
def fnExactMassesOfWrong : ChangeSpec := { name := "fnExactMassesOf", fn := fun _ => fun
  | [d] => { results := [.lit (.bool false)], args := [d] }
  | _ => none }
def FnExactMassesOfWrongFalsely : Prop := fnExactMassesOfRow.holds Try.pinned (OpenSpec.ofChange fnExactMassesOfWrong)

/-- 'laws.FnExactSmallestCover': WHATEVER THE INPUT: true; the input reads as it did. -/
def fnExactSmallestCoverSpec : ChangeSpec := { name := "fnExactSmallestCover", fn := fun _ => fun
  | [d] => { results := [.lit (.bool true)], args := [d] }
  | _ => none }
def fnExactSmallestCoverRow : OpenClaim := { program := "ytmmaleidaghooaa", sum := "28feff3b1f94d0b08c472581ec99ef1df65449733abc3cb8defb598c0e85dccf", func := "loop.example/g03405/laws.FnExactSmallestCover", spec := "fnExactSmallestCover", recurses := true, apart := false }
def FnExactSmallestCoverSaid : Prop := fnExactSmallestCoverRow.holds Try.pinned (OpenSpec.ofChange fnExactSmallestCoverSpec)

/-- ITS FALSE NEIGHBOUR: 'it returns false'. Refute it at one input. -/
def fnExactSmallestCoverWrong : ChangeSpec := { name := "fnExactSmallestCover", fn := fun _ => fun
  | [d] => { results := [.lit (.bool false)], args := [d] }
  | _ => none }
def FnExactSmallestCoverWrongFalsely : Prop := fnExactSmallestCoverRow.holds Try.pinned (OpenSpec.ofChange fnExactSmallestCoverWrong)

/-- 'laws.FnExactShapleyOf': WHATEVER THE INPUT: true; the input reads as it did. -/
def fnExactShapleyOfSpec : ChangeSpec := { name := "fnExactShapleyOf", fn := fun _ => fun
  | [d] => { results := [.lit (.bool true)], args := [d] }
  | _ => none }
def fnExactShapleyOfRow : OpenClaim := { program := "ytmmaleidaghooaa", sum := "28feff3b1f94d0b08c472581ec99ef1df65449733abc3cb8defb598c0e85dccf", func := "loop.example/g03405/laws.FnExactShapleyOf", spec := "fnExactShapleyOf", apart := false }
def FnExactShapleyOfSaid : Prop := fnExactShapleyOfRow.holds Try.pinned (OpenSpec.ofChange fnExactShapleyOfSpec)

/-- ITS FALSE NEIGHBOUR: 'it returns false'. Refute it at one input. -/
def fnExactShapleyOfWrong : ChangeSpec := { name := "fnExactShapleyOf", fn := fun _ => fun
  | [d] => { results := [.lit (.bool false)], args := [d] }
  | _ => none }
def FnExactShapleyOfWrongFalsely : Prop := fnExactShapleyOfRow.holds Try.pinned (OpenSpec.ofChange fnExactShapleyOfWrong)

/-- 'laws.FnExactGreedyCover': WHATEVER THE INPUT: true; the input reads as it did. -/
def fnExactGreedyCoverSpec : ChangeSpec := { name := "fnExactGreedyCover", fn := fun _ => fun
  | [d] => { results := [.lit (.bool true)], args := [d] }
  | _ => none }
def fnExactGreedyCoverRow : OpenClaim := { program := "ytmmaleidaghooaa", sum := "28feff3b1f94d0b08c472581ec99ef1df65449733abc3cb8defb598c0e85dccf", func := "loop.example/g03405/laws.FnExactGreedyCover", spec := "fnExactGreedyCover", apart := false }
def FnExactGreedyCoverSaid : Prop := fnExactGreedyCoverRow.holds Try.pinned (OpenSpec.ofChange fnExactGreedyCoverSpec)

/-- ITS FALSE NEIGHBOUR: 'it returns false'. Refute it at one input. -/
def fnExactGreedyCoverWrong : ChangeSpec := { name := "fnExactGreedyCover", fn := fun _ => fun
  | [d] => { results := [.lit (.bool false)], args := [d] }
  | _ => none }
def FnExactGreedyCoverWrongFalsely : Prop := fnExactGreedyCoverRow.holds Try.pinned (OpenSpec.ofChange fnExactGreedyCoverWrong)

/- THE SECOND FORM. 'bulk': how many values and letters a reading holds, each counted each time it is reached (what is shared counts as often as it is met; a slice's spare places count too). A statement '..UptoSaid' is the law's where the arguments, and the package variables that the reading takes, are together of bulk at most 1048576: NARROWER than '..Said'. Prove '..Said' where nothing that the law and all that it calls make is longer than what came in: it says more and counts as full. Else prove '..UptoSaid'. A law counts once. -/
mutual
def uptoBulk {H : Type} : DataW H → Nat
  | .lit (.string bytes) => bytes.length + 1
  | .lit _ => 1
  | .nil => 1
  | .ptr d => uptoBulk d + 1
  | .slice elems spare => uptoBulkAll elems + uptoBulkAll spare + 1
  | .agg parts => uptoBulkAll parts + 1
  | .iface _ d => uptoBulk d + 1
  | .map entries => uptoBulkEntries entries + 1
  | .held _ => 1
def uptoBulkAll {H : Type} : List (DataW H) → Nat
  | [] => 0
  | d :: r => uptoBulk d + uptoBulkAll r
def uptoBulkEntries {H : Type} : List (Lit × DataW H) → Nat
  | [] => 0
  | x :: r => uptoBulkEntry x + uptoBulkEntries r
def uptoBulkEntry {H : Type} : Lit × DataW H → Nat
  | (.string bytes, d) => bytes.length + uptoBulk d + 1
  | (_, d) => uptoBulk d + 1
 end
def uptoSmall : (H : Type) → List (DataW H) → Bool := fun _ ds => decide (uptoBulkAll ds ≤ 1048576)
def OpenSpec.upto (s : _root_.Go.ChangeSpec) : _root_.Go.OpenSpec := { _root_.Go.OpenSpec.ofChange s with cond := some uptoSmall }

/-- 'laws.FnExactCountAntichains', WHERE WHAT IT READS IS OF BULK AT MOST 1048576: true; the input reads as it did. -/
def fnExactCountAntichainsUptoRow : OpenClaim := { program := "ytmmaleidaghooaa", sum := "28feff3b1f94d0b08c472581ec99ef1df65449733abc3cb8defb598c0e85dccf", func := "loop.example/g03405/laws.FnExactCountAntichains", spec := "fnExactCountAntichains", unfollowed := true, recurses := true, apart := false, narrowed := true }
def FnExactCountAntichainsUptoSaid : Prop := fnExactCountAntichainsUptoRow.holds Try.pinned (OpenSpec.upto fnExactCountAntichainsSpec)

/-- 'laws.FnExactCountLaminar', WHERE WHAT IT READS IS OF BULK AT MOST 1048576: true; the input reads as it did. -/
def fnExactCountLaminarUptoRow : OpenClaim := { program := "ytmmaleidaghooaa", sum := "28feff3b1f94d0b08c472581ec99ef1df65449733abc3cb8defb598c0e85dccf", func := "loop.example/g03405/laws.FnExactCountLaminar", spec := "fnExactCountLaminar", unfollowed := true, recurses := true, apart := false, narrowed := true }
def FnExactCountLaminarUptoSaid : Prop := fnExactCountLaminarUptoRow.holds Try.pinned (OpenSpec.upto fnExactCountLaminarSpec)

/-- 'laws.FnExactFunctionOfMasses', WHERE WHAT IT READS IS OF BULK AT MOST 1048576: true; the input reads as it did. -/
def fnExactFunctionOfMassesUptoRow : OpenClaim := { program := "ytmmaleidaghooaa", sum := "28feff3b1f94d0b08c472581ec99ef1df65449733abc3cb8defb598c0e85dccf", func := "loop.example/g03405/laws.FnExactFunctionOfMasses", spec := "fnExactFunctionOfMasses", unfollowed := true, recurses := true, apart := false, narrowed := true }
def FnExactFunctionOfMassesUptoSaid : Prop := fnExactFunctionOfMassesUptoRow.holds Try.pinned (OpenSpec.upto fnExactFunctionOfMassesSpec)

/-- 'laws.FnExactIsInCore', WHERE WHAT IT READS IS OF BULK AT MOST 1048576: true; the input reads as it did. -/
def fnExactIsInCoreUptoRow : OpenClaim := { program := "ytmmaleidaghooaa", sum := "28feff3b1f94d0b08c472581ec99ef1df65449733abc3cb8defb598c0e85dccf", func := "loop.example/g03405/laws.FnExactIsInCore", spec := "fnExactIsInCore", apart := false, narrowed := true }
def FnExactIsInCoreUptoSaid : Prop := fnExactIsInCoreUptoRow.holds Try.pinned (OpenSpec.upto fnExactIsInCoreSpec)

/-- 'laws.FnExactLargestSize', WHERE WHAT IT READS IS OF BULK AT MOST 1048576: true; the input reads as it did. -/
def fnExactLargestSizeUptoRow : OpenClaim := { program := "ytmmaleidaghooaa", sum := "28feff3b1f94d0b08c472581ec99ef1df65449733abc3cb8defb598c0e85dccf", func := "loop.example/g03405/laws.FnExactLargestSize", spec := "fnExactLargestSize", apart := false, narrowed := true }
def FnExactLargestSizeUptoSaid : Prop := fnExactLargestSizeUptoRow.holds Try.pinned (OpenSpec.upto fnExactLargestSizeSpec)

/-- 'laws.FnExactIsSetCover', WHERE WHAT IT READS IS OF BULK AT MOST 1048576: true; the input reads as it did. -/
def fnExactIsSetCoverUptoRow : OpenClaim := { program := "ytmmaleidaghooaa", sum := "28feff3b1f94d0b08c472581ec99ef1df65449733abc3cb8defb598c0e85dccf", func := "loop.example/g03405/laws.FnExactIsSetCover", spec := "fnExactIsSetCover", apart := false, narrowed := true }
def FnExactIsSetCoverUptoSaid : Prop := fnExactIsSetCoverUptoRow.holds Try.pinned (OpenSpec.upto fnExactIsSetCoverSpec)

/-- 'laws.FnExactEqualClaims', WHERE WHAT IT READS IS OF BULK AT MOST 1048576: true; the input reads as it did. -/
def fnExactEqualClaimsUptoRow : OpenClaim := { program := "ytmmaleidaghooaa", sum := "28feff3b1f94d0b08c472581ec99ef1df65449733abc3cb8defb598c0e85dccf", func := "loop.example/g03405/laws.FnExactEqualClaims", spec := "fnExactEqualClaims", apart := false, narrowed := true }
def FnExactEqualClaimsUptoSaid : Prop := fnExactEqualClaimsUptoRow.holds Try.pinned (OpenSpec.upto fnExactEqualClaimsSpec)

/-- 'laws.FnExactHasOnlyPositiveMasses', WHERE WHAT IT READS IS OF BULK AT MOST 1048576: true; the input reads as it did. -/
def fnExactHasOnlyPositiveMassesUptoRow : OpenClaim := { program := "ytmmaleidaghooaa", sum := "28feff3b1f94d0b08c472581ec99ef1df65449733abc3cb8defb598c0e85dccf", func := "loop.example/g03405/laws.FnExactHasOnlyPositiveMasses", spec := "fnExactHasOnlyPositiveMasses", apart := false, narrowed := true }
def FnExactHasOnlyPositiveMassesUptoSaid : Prop := fnExactHasOnlyPositiveMassesUptoRow.holds Try.pinned (OpenSpec.upto fnExactHasOnlyPositiveMassesSpec)

/-- 'laws.FnExactMassesOf', WHERE WHAT IT READS IS OF BULK AT MOST 1048576: true; the input reads as it did. -/
def fnExactMassesOfUptoRow : OpenClaim := { program := "ytmmaleidaghooaa", sum := "28feff3b1f94d0b08c472581ec99ef1df65449733abc3cb8defb598c0e85dccf", func := "loop.example/g03405/laws.FnExactMassesOf", spec := "fnExactMassesOf", apart := false, narrowed := true }
def FnExactMassesOfUptoSaid : Prop := fnExactMassesOfUptoRow.holds Try.pinned (OpenSpec.upto fnExactMassesOfSpec)

/-- 'laws.FnExactSmallestCover', WHERE WHAT IT READS IS OF BULK AT MOST 1048576: true; the input reads as it did. -/
def fnExactSmallestCoverUptoRow : OpenClaim := { program := "ytmmaleidaghooaa", sum := "28feff3b1f94d0b08c472581ec99ef1df65449733abc3cb8defb598c0e85dccf", func := "loop.example/g03405/laws.FnExactSmallestCover", spec := "fnExactSmallestCover", recurses := true, apart := false, narrowed := true }
def FnExactSmallestCoverUptoSaid : Prop := fnExactSmallestCoverUptoRow.holds Try.pinned (OpenSpec.upto fnExactSmallestCoverSpec)

/-- 'laws.FnExactShapleyOf', WHERE WHAT IT READS IS OF BULK AT MOST 1048576: true; the input reads as it did. -/
def fnExactShapleyOfUptoRow : OpenClaim := { program := "ytmmaleidaghooaa", sum := "28feff3b1f94d0b08c472581ec99ef1df65449733abc3cb8defb598c0e85dccf", func := "loop.example/g03405/laws.FnExactShapleyOf", spec := "fnExactShapleyOf", apart := false, narrowed := true }
def FnExactShapleyOfUptoSaid : Prop := fnExactShapleyOfUptoRow.holds Try.pinned (OpenSpec.upto fnExactShapleyOfSpec)

/-- 'laws.FnExactGreedyCover', WHERE WHAT IT READS IS OF BULK AT MOST 1048576: true; the input reads as it did. -/
def fnExactGreedyCoverUptoRow : OpenClaim := { program := "ytmmaleidaghooaa", sum := "28feff3b1f94d0b08c472581ec99ef1df65449733abc3cb8defb598c0e85dccf", func := "loop.example/g03405/laws.FnExactGreedyCover", spec := "fnExactGreedyCover", apart := false, narrowed := true }
def FnExactGreedyCoverUptoSaid : Prop := fnExactGreedyCoverUptoRow.holds Try.pinned (OpenSpec.upto fnExactGreedyCoverSpec)

end Rows
end Go.Proofs.Ytmmaleidaghooaa
