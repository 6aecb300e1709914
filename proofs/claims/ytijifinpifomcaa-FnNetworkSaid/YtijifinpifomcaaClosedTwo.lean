/- A closed fact about the program as a whole, by the kernel. No condition. -/
import Derived.Test.YtijifinpifomcaaRows
import Derived.JoinedOf
import Derived.KernelRfl
set_option maxRecDepth 100000
namespace Go.Proofs
open Go
theorem Try.lifts : Try.prog.liftsFinal = false := by kernel_rfl
theorem Try.laidB : laidOutB Try.prog = true := by kernel_rfl
end Go.Proofs
