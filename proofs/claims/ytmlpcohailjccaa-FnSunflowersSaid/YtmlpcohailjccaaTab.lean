/- The program's table rows that the walks use. -/
import Derived.Test.YtmlpcohailjccaaChecked
import Derived.Test.YtmlpcohailjccaaBase
namespace Go.Proofs.Ytmlpcohailjccaa
open Go.RowKit Go.G5
theorem intElem : IntElem Try.prog 3 := ⟨by kernel_rfl⟩
end Go.Proofs.Ytmlpcohailjccaa
