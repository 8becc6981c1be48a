/- The program's table rows that the walks use. -/
import Derived.Test.YtpaoiiiceekkkaaDoorChecked
import Derived.Test.YtpaoiiiceekkkaaDoorBase
namespace Go.Proofs.YtpaoiiiceekkkaaDoor
open Go.RowKit Go.G5
theorem intElem : IntElem Tryd.prog 3 := ⟨by kernel_rfl⟩
end Go.Proofs.YtpaoiiiceekkkaaDoor
