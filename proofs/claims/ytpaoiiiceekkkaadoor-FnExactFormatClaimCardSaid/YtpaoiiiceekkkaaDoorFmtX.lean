/- FormatClaim in both programs, in the words of the law's walk. -/
import Derived.Test.YtpaoiiiceekkkaaDoorFmtG
namespace Go.Proofs.YtpaoiiiceekkkaaDoor
open Go.RowKit Go.G5
theorem fmtClaimS_c (w : World) (k n1 : Int) (v1 : Value) (l1 : List Int) (h1 : Ints w v1 l1) (_ : l1.length ≤ 1048576) (n2 : Int) (v2 : Value) (l2 : List Int) (h2 : Ints w v2 l2) (_ : l2.length ≤ 1048576) (n3 : Int) (v3 : Value) (l3 : List Int) (h3 : Ints w v3 l3) (_ : l3.length ≤ 1048576) (q st : Int) (v4 : Value) (l4 : List Int) (h4 : Ints w v4 l4) (_ : l4.length ≤ 1048576) :
    Calls Tryd.prog 9 #[clV k n1 v1 n2 v2 n3 v3 q st v4] w fun e w' => e = .returned (.string (claimTx k n1 l1 n2 l2 n3 l3 q st l4)) ∧ Below w.heap.size w w' :=
  fmtClaimS_any k n1 v1 l1 n2 v2 l2 n3 v3 l3 q st v4 l4 w h1 h2 h3 h4
theorem fmtClaimI_c (w : World) (k n1 : Int) (v1 : Value) (l1 : List Int) (h1 : Ints w v1 l1) (_ : l1.length ≤ 1048576) (n2 : Int) (v2 : Value) (l2 : List Int) (h2 : Ints w v2 l2) (_ : l2.length ≤ 1048576) (n3 : Int) (v3 : Value) (l3 : List Int) (h3 : Ints w v3 l3) (_ : l3.length ≤ 1048576) (q st : Int) (v4 : Value) (l4 : List Int) (h4 : Ints w v4 l4) (_ : l4.length ≤ 1048576) (hp : Pow w) :
    Calls Tryd.prog 11 #[clV k n1 v1 n2 v2 n3 v3 q st v4] w fun e w' => e = .returned (.string (claimTx k n1 l1 n2 l2 n3 l3 q st l4)) ∧ Below w.heap.size w w' :=
  fmtClaimI_any k n1 v1 l1 n2 v2 l2 n3 v3 l3 q st v4 l4 w h1 h2 h3 h4 hp
end Go.Proofs.YtpaoiiiceekkkaaDoor
