/- The program's table rows that the walks use. -/
import Derived.Test.YtbkgconoadicjaaChecked
import Derived.Test.YtbkgconoadicjaaBase
namespace Go.Proofs.Ytbkgconoadicjaa
open Go.RowKit Go.G5
theorem intElem : IntElem Try.prog 3 := ⟨by kernel_rfl⟩
end Go.Proofs.Ytbkgconoadicjaa
