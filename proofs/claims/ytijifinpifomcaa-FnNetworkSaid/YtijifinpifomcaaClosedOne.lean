/- A closed fact about the program as a whole, by the kernel. No condition. -/
import Derived.Test.YtijifinpifomcaaRows
import Derived.JoinedOf
import Derived.KernelRfl
set_option maxRecDepth 100000
namespace Go.Proofs
open Go
theorem Try.mayE : Try.prog.mayEnter = true := by kernel_rfl
end Go.Proofs
