/- Minimum cuts: the second program. -/
import Derived.Test.YtmlpcohailjccaaCutM
import Derived.Test.YtmlpcohailjccaaViolS
namespace Go.Proofs.Ytmlpcohailjccaa
open Go.RowKit Go.G5

end Go.Proofs.Ytmlpcohailjccaa
