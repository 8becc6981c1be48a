/- The program's table rows that the walks use. -/
import Derived.Test.YthbkghpgnnpmbaaChecked
import Derived.Test.YthbkghpgnnpmbaaBase
namespace Go.Proofs.Ythbkghpgnnpmbaa
open Go.RowKit Go.G5
theorem intElem : IntElem Try.prog 3 := ⟨by kernel_rfl⟩
end Go.Proofs.Ythbkghpgnnpmbaa
