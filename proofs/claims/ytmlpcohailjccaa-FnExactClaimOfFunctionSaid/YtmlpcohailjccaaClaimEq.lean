/- Claims: which are equal. -/
import Derived.Test.YtmlpcohailjccaaClaim
namespace Go.Proofs.Ytmlpcohailjccaa
open Go.RowKit Go.G5

def eqClB (k n1 : Int) (l1 : List Int) (n2 : Int) (l2 : List Int) (n3 : Int) (l3 : List Int) (q st : Int) (l4 : List Int) (k' n1' : Int) (l1' : List Int) (n2' : Int) (l2' : List Int) (n3' : Int) (l3' : List Int) (q' st' : Int) (l4' : List Int) : Bool :=
  decide (k = k') && ((decide (n1 = n1') && decide (l1 = l1')) && ((decide (n2 = n2') && decide (l2 = l2')) && ((decide (n3 = n3') && decide (l3 = l3')) && (decide (q = q') && (decide (st = st') && decide (l4 = l4'))))))

end Go.Proofs.Ytmlpcohailjccaa
