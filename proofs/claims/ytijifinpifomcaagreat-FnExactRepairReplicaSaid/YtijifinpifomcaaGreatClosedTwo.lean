/- A closed fact about the program as a whole, by the kernel. No condition. -/
import Derived.Test.YtijifinpifomcaaGreatRows
import Derived.JoinedOf
import Derived.KernelRfl
set_option maxRecDepth 100000
namespace Go.Proofs
open Go
theorem Tryz.lifts : Tryz.prog.liftsFinal = false := by kernel_rfl
theorem Tryz.laidB : laidOutB Tryz.prog = true := by kernel_rfl
end Go.Proofs
