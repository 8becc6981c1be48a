/- The program's table rows that the walks use. -/
import Derived.Test.YtmmaleidaghooaaChecked
import Derived.Test.YtmmaleidaghooaaBase
namespace Go.Proofs.Ytmmaleidaghooaa
open Go.RowKit Go.G5
theorem intElem : IntElem Try.prog 3 := ⟨by kernel_rfl⟩
end Go.Proofs.Ytmmaleidaghooaa
