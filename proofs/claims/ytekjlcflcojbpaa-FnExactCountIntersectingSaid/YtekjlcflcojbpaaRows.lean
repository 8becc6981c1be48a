/-
  No cell of these rows narrows 'for every input' (looked for: loops, veiled, ifaces, maps, wideKeys, modest, calm, conditions, laid).
  DERIVED. THE GIVEN ROWS OF THIS SEAT. 6 by the template 'for every input the law returns true; each argument reads behind the call as it read before'; 0 by the template 'total and deterministic' (their statements: YtekjlcflcojbpaaTotals.lean).
  GIVEN WITH THE SEED: the statements are not yours to turn. If you find one false, say at which input.
  Laid BY PROGRAM, IN A SANDBOX (cutbox-rows.mjs): the forced cells as the released guide's own fill.sh prints them over the translation d99b086c4489ad36… (all of the seat's roots in one cut). By AI agents, Wed Nov 11 2026. No macro, syntax, notation, axiom, sorry.
-/
import Derived.Test.YtekjlcflcojbpaaChecked
import GoSem.Claim
import GoSem.ClaimJoined
import GoSem.ClaimMapViews
import Derived.JoinedTies
import Derived.KernelRfl
namespace Go.Proofs.Ytekjlcflcojbpaa
/- THE CELL 'sum', in the pinned program and in every row, IS THE sha256 OF THE DUMP (.gsa) THAT YtekjlcflcojbpaaProg.lean LOADS. Nothing in Lean hashes anything: it is a label: what it is worth is what the hold of that sum in a sandbox is worth. -/
noncomputable def Try.pinned : Pinned := { name := "ytekjlcflcojbpaa", sum := "d99b086c4489ad36ac8b372da8a7b119400249d01bd7c53f99a5870eb6e02d4f", checked := Try.checked }
namespace Rows
def none {H : Type} : Left H := { results := [], args := [] }

/-- 'laws.FnExactFactorialOf': WHATEVER THE INPUT: true; the input reads as it did. -/
def fnExactFactorialOfSpec : ChangeSpec := { name := "fnExactFactorialOf", fn := fun _ => fun
  | [d] => { results := [.lit (.bool true)], args := [d] }
  | _ => none }
def fnExactFactorialOfRow : OpenClaim := { program := "ytekjlcflcojbpaa", sum := "d99b086c4489ad36ac8b372da8a7b119400249d01bd7c53f99a5870eb6e02d4f", func := "loop.example/g03405/laws.FnExactFactorialOf", spec := "fnExactFactorialOf", apart := false }
def FnExactFactorialOfSaid : Prop := fnExactFactorialOfRow.holds Try.pinned (OpenSpec.ofChange fnExactFactorialOfSpec)

/-- ITS FALSE NEIGHBOUR: 'it returns false'. Refute it at one input. -/
def fnExactFactorialOfWrong : ChangeSpec := { name := "fnExactFactorialOf", fn := fun _ => fun
  | [d] => { results := [.lit (.bool false)], args := [d] }
  | _ => none }
def FnExactFactorialOfWrongFalsely : Prop := fnExactFactorialOfRow.holds Try.pinned (OpenSpec.ofChange fnExactFactorialOfWrong)

/-- 'laws.FnExactHarmonicNumber': WHATEVER THE INPUT: true; the input reads as it did. -/
def fnExactHarmonicNumberSpec : ChangeSpec := { name := "fnExactHarmonicNumber", fn := fun _ => fun
  | [d] => { results := [.lit (.bool true)], args := [d] }
  | _ => none }
def fnExactHarmonicNumberRow : OpenClaim := { program := "ytekjlcflcojbpaa", sum := "d99b086c4489ad36ac8b372da8a7b119400249d01bd7c53f99a5870eb6e02d4f", func := "loop.example/g03405/laws.FnExactHarmonicNumber", spec := "fnExactHarmonicNumber", apart := false }
def FnExactHarmonicNumberSaid : Prop := fnExactHarmonicNumberRow.holds Try.pinned (OpenSpec.ofChange fnExactHarmonicNumberSpec)

/-- ITS FALSE NEIGHBOUR: 'it returns false'. Refute it at one input. -/
def fnExactHarmonicNumberWrong : ChangeSpec := { name := "fnExactHarmonicNumber", fn := fun _ => fun
  | [d] => { results := [.lit (.bool false)], args := [d] }
  | _ => none }
def FnExactHarmonicNumberWrongFalsely : Prop := fnExactHarmonicNumberRow.holds Try.pinned (OpenSpec.ofChange fnExactHarmonicNumberWrong)

/-- 'laws.FnExactClaimWord': WHATEVER THE INPUT: true; the input reads as it did. -/
def fnExactClaimWordSpec : ChangeSpec := { name := "fnExactClaimWord", fn := fun _ => fun
  | [d] => { results := [.lit (.bool true)], args := [d] }
  | _ => none }
def fnExactClaimWordRow : OpenClaim := { program := "ytekjlcflcojbpaa", sum := "d99b086c4489ad36ac8b372da8a7b119400249d01bd7c53f99a5870eb6e02d4f", func := "loop.example/g03405/laws.FnExactClaimWord", spec := "fnExactClaimWord", apart := false }
def FnExactClaimWordSaid : Prop := fnExactClaimWordRow.holds Try.pinned (OpenSpec.ofChange fnExactClaimWordSpec)

/-- ITS FALSE NEIGHBOUR: 'it returns false'. Refute it at one input. -/
def fnExactClaimWordWrong : ChangeSpec := { name := "fnExactClaimWord", fn := fun _ => fun
  | [d] => { results := [.lit (.bool false)], args := [d] }
  | _ => none }
def FnExactClaimWordWrongFalsely : Prop := fnExactClaimWordRow.holds Try.pinned (OpenSpec.ofChange fnExactClaimWordWrong)

/-- 'laws.FnExactSunflowerBound': WHATEVER THE INPUT: true; the input reads as it did. -/
def fnExactSunflowerBoundSpec : ChangeSpec := { name := "fnExactSunflowerBound", fn := fun _ => fun
  | [d1, d2] => { results := [.lit (.bool true)], args := [d1, d2] }
  | _ => none }
def fnExactSunflowerBoundRow : OpenClaim := { program := "ytekjlcflcojbpaa", sum := "d99b086c4489ad36ac8b372da8a7b119400249d01bd7c53f99a5870eb6e02d4f", func := "loop.example/g03405/laws.FnExactSunflowerBound", spec := "fnExactSunflowerBound", apart := false }
def FnExactSunflowerBoundSaid : Prop := fnExactSunflowerBoundRow.holds Try.pinned (OpenSpec.ofChange fnExactSunflowerBoundSpec)

/-- ITS FALSE NEIGHBOUR: 'it returns false'. Refute it at one input. -/
def fnExactSunflowerBoundWrong : ChangeSpec := { name := "fnExactSunflowerBound", fn := fun _ => fun
  | [d1, d2] => { results := [.lit (.bool false)], args := [d1, d2] }
  | _ => none }
def FnExactSunflowerBoundWrongFalsely : Prop := fnExactSunflowerBoundRow.holds Try.pinned (OpenSpec.ofChange fnExactSunflowerBoundWrong)

/-- 'laws.FnExactEqualKept': WHATEVER THE INPUT: true; the input reads as it did. -/
def fnExactEqualKeptSpec : ChangeSpec := { name := "fnExactEqualKept", fn := fun _ => fun
  | [d1, d2] => { results := [.lit (.bool true)], args := [d1, d2] }
  | _ => none }
def fnExactEqualKeptRow : OpenClaim := { program := "ytekjlcflcojbpaa", sum := "d99b086c4489ad36ac8b372da8a7b119400249d01bd7c53f99a5870eb6e02d4f", func := "loop.example/g03405/laws.FnExactEqualKept", spec := "fnExactEqualKept", apart := false }
def FnExactEqualKeptSaid : Prop := fnExactEqualKeptRow.holds Try.pinned (OpenSpec.ofChange fnExactEqualKeptSpec)

/-- ITS FALSE NEIGHBOUR: 'it returns false'. Refute it at one input. -/
def fnExactEqualKeptWrong : ChangeSpec := { name := "fnExactEqualKept", fn := fun _ => fun
  | [d1, d2] => { results := [.lit (.bool false)], args := [d1, d2] }
  | _ => none }
def FnExactEqualKeptWrongFalsely : Prop := fnExactEqualKeptRow.holds Try.pinned (OpenSpec.ofChange fnExactEqualKeptWrong)

/-- 'laws.FnExactCountIntersecting': WHATEVER THE INPUT: true; the input reads as it did. -/
def fnExactCountIntersectingSpec : ChangeSpec := { name := "fnExactCountIntersecting", fn := fun _ => fun
  | [d] => { results := [.lit (.bool true)], args := [d] }
  | _ => none }
def fnExactCountIntersectingRow : OpenClaim := { program := "ytekjlcflcojbpaa", sum := "d99b086c4489ad36ac8b372da8a7b119400249d01bd7c53f99a5870eb6e02d4f", func := "loop.example/g03405/laws.FnExactCountIntersecting", spec := "fnExactCountIntersecting", unfollowed := true, recurses := true, apart := false }
def FnExactCountIntersectingSaid : Prop := fnExactCountIntersectingRow.holds Try.pinned (OpenSpec.ofChange fnExactCountIntersectingSpec)

/-- ITS FALSE NEIGHBOUR: 'it returns false'. Refute it at one input. -/
def fnExactCountIntersectingWrong : ChangeSpec := { name := "fnExactCountIntersecting", fn := fun _ => fun
  | [d] => { results := [.lit (.bool false)], args := [d] }
  | _ => none }
def FnExactCountIntersectingWrongFalsely : Prop := fnExactCountIntersectingRow.holds Try.pinned (OpenSpec.ofChange fnExactCountIntersectingWrong)

/- THE SECOND FORM. 'bulk': how many values and letters a reading holds, each counted each time it is reached (what is shared counts as often as it is met; a slice's spare places count too). A statement '..UptoSaid' is the law's where the arguments, and the package variables that the reading takes, are together of bulk at most 1048576: NARROWER than '..Said'. Prove '..Said' where nothing that the law and all that it calls make is longer than what came in: it says more and counts as full. Else prove '..UptoSaid'. A law counts once. -/
mutual
def uptoBulk {H : Type} : DataW H → Nat
  | .lit (.string bytes) => bytes.length + 1
  | .lit _ => 1
  | .nil => 1
  | .ptr d => uptoBulk d + 1
  | .slice elems spare => uptoBulkAll elems + uptoBulkAll spare + 1
  | .agg parts => uptoBulkAll parts + 1
  | .iface _ d => uptoBulk d + 1
  | .map entries => uptoBulkEntries entries + 1
  | .held _ => 1
def uptoBulkAll {H : Type} : List (DataW H) → Nat
  | [] => 0
  | d :: r => uptoBulk d + uptoBulkAll r
def uptoBulkEntries {H : Type} : List (Lit × DataW H) → Nat
  | [] => 0
  | x :: r => uptoBulkEntry x + uptoBulkEntries r
def uptoBulkEntry {H : Type} : Lit × DataW H → Nat
  | (.string bytes, d) => bytes.length + uptoBulk d + 1
  | (_, d) => uptoBulk d + 1
 end
def uptoSmall : (H : Type) → List (DataW H) → Bool := fun _ ds => decide (uptoBulkAll ds ≤ 1048576)
def OpenSpec.upto (s : _root_.Go.ChangeSpec) : _root_.Go.OpenSpec := { _root_.Go.OpenSpec.ofChange s with cond := some uptoSmall }

/-- 'laws.FnExactFactorialOf', WHERE WHAT IT READS IS OF BULK AT MOST 1048576: true; the input reads as it did. -/
def fnExactFactorialOfUptoRow : OpenClaim := { program := "ytekjlcflcojbpaa", sum := "d99b086c4489ad36ac8b372da8a7b119400249d01bd7c53f99a5870eb6e02d4f", func := "loop.example/g03405/laws.FnExactFactorialOf", spec := "fnExactFactorialOf", apart := false, narrowed := true }
def FnExactFactorialOfUptoSaid : Prop := fnExactFactorialOfUptoRow.holds Try.pinned (OpenSpec.upto fnExactFactorialOfSpec)

/-- 'laws.FnExactHarmonicNumber', WHERE WHAT IT READS IS OF BULK AT MOST 1048576: true; the input reads as it did. -/
def fnExactHarmonicNumberUptoRow : OpenClaim := { program := "ytekjlcflcojbpaa", sum := "d99b086c4489ad36ac8b372da8a7b119400249d01bd7c53f99a5870eb6e02d4f", func := "loop.example/g03405/laws.FnExactHarmonicNumber", spec := "fnExactHarmonicNumber", apart := false, narrowed := true }
def FnExactHarmonicNumberUptoSaid : Prop := fnExactHarmonicNumberUptoRow.holds Try.pinned (OpenSpec.upto fnExactHarmonicNumberSpec)

/-- 'laws.FnExactClaimWord', WHERE WHAT IT READS IS OF BULK AT MOST 1048576: true; the input reads as it did. -/
def fnExactClaimWordUptoRow : OpenClaim := { program := "ytekjlcflcojbpaa", sum := "d99b086c4489ad36ac8b372da8a7b119400249d01bd7c53f99a5870eb6e02d4f", func := "loop.example/g03405/laws.FnExactClaimWord", spec := "fnExactClaimWord", apart := false, narrowed := true }
def FnExactClaimWordUptoSaid : Prop := fnExactClaimWordUptoRow.holds Try.pinned (OpenSpec.upto fnExactClaimWordSpec)

/-- 'laws.FnExactSunflowerBound', WHERE WHAT IT READS IS OF BULK AT MOST 1048576: true; the input reads as it did. -/
def fnExactSunflowerBoundUptoRow : OpenClaim := { program := "ytekjlcflcojbpaa", sum := "d99b086c4489ad36ac8b372da8a7b119400249d01bd7c53f99a5870eb6e02d4f", func := "loop.example/g03405/laws.FnExactSunflowerBound", spec := "fnExactSunflowerBound", apart := false, narrowed := true }
def FnExactSunflowerBoundUptoSaid : Prop := fnExactSunflowerBoundUptoRow.holds Try.pinned (OpenSpec.upto fnExactSunflowerBoundSpec)

/-- 'laws.FnExactEqualKept', WHERE WHAT IT READS IS OF BULK AT MOST 1048576: true; the input reads as it did. -/
def fnExactEqualKeptUptoRow : OpenClaim := { program := "ytekjlcflcojbpaa", sum := "d99b086c4489ad36ac8b372da8a7b119400249d01bd7c53f99a5870eb6e02d4f", func := "loop.example/g03405/laws.FnExactEqualKept", spec := "fnExactEqualKept", apart := false, narrowed := true }
def FnExactEqualKeptUptoSaid : Prop := fnExactEqualKeptUptoRow.holds Try.pinned (OpenSpec.upto fnExactEqualKeptSpec)

/-- 'laws.FnExactCountIntersecting', WHERE WHAT IT READS IS OF BULK AT MOST 1048576: true; the input reads as it did. -/
def fnExactCountIntersectingUptoRow : OpenClaim := { program := "ytekjlcflcojbpaa", sum := "d99b086c4489ad36ac8b372da8a7b119400249d01bd7c53f99a5870eb6e02d4f", func := "loop.example/g03405/laws.FnExactCountIntersecting", spec := "fnExactCountIntersecting", unfollowed := true, recurses := true, apart := false, narrowed := true }
def FnExactCountIntersectingUptoSaid : Prop := fnExactCountIntersectingUptoRow.holds Try.pinned (OpenSpec.upto fnExactCountIntersectingSpec)

end Rows
end Go.Proofs.Ytekjlcflcojbpaa
