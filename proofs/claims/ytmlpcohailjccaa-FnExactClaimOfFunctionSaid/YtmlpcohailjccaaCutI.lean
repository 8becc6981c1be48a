/- Minimum cuts: the first program. -/
import Derived.Test.YtmlpcohailjccaaCutP
import Derived.Test.YtmlpcohailjccaaViolF
import Derived.Test.YtmlpcohailjccaaGame
import Derived.Test.YtmlpcohailjccaaEq
namespace Go.Proofs.Ytmlpcohailjccaa
open Go.RowKit Go.G5

end Go.Proofs.Ytmlpcohailjccaa
