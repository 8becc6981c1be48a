/- Minimum cuts: the second program. -/
import Derived.Test.YtmfenalnmpndmaaCutM
import Derived.Test.YtmfenalnmpndmaaViolS
namespace Go.Proofs.Ytmfenalnmpndmaa
open Go.RowKit Go.G5

end Go.Proofs.Ytmfenalnmpndmaa
