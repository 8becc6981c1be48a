/- The program's table rows that the walks use. -/
import Derived.Test.YtmfenalnmpndmaaChecked
import Derived.Test.YtmfenalnmpndmaaBase
namespace Go.Proofs.Ytmfenalnmpndmaa
open Go.RowKit Go.G5
theorem intElem : IntElem Try.prog 3 := ⟨by kernel_rfl⟩
end Go.Proofs.Ytmfenalnmpndmaa
