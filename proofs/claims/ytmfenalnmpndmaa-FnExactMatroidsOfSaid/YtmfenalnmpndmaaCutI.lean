/- Minimum cuts: the first program. -/
import Derived.Test.YtmfenalnmpndmaaCutP
import Derived.Test.YtmfenalnmpndmaaViolF
import Derived.Test.YtmfenalnmpndmaaGame
import Derived.Test.YtmfenalnmpndmaaEq
namespace Go.Proofs.Ytmfenalnmpndmaa
open Go.RowKit Go.G5

end Go.Proofs.Ytmfenalnmpndmaa
