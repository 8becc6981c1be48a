/- The program's table rows that the walks use. -/
import Derived.Test.YtekjlcflcojbpaaChecked
import Derived.Test.YtekjlcflcojbpaaBase
namespace Go.Proofs.Ytekjlcflcojbpaa
open Go.RowKit Go.G5
theorem intElem : IntElem Try.prog 3 := ⟨by kernel_rfl⟩
end Go.Proofs.Ytekjlcflcojbpaa
