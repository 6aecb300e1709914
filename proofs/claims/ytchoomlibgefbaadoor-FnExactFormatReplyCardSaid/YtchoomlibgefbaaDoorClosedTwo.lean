/- A closed fact about the program as a whole, by the kernel. No condition. -/
import Derived.Test.YtchoomlibgefbaaDoorRows
import Derived.JoinedOf
import Derived.KernelRfl
set_option maxRecDepth 100000
namespace Go.Proofs
open Go
theorem Tryd.lifts : Tryd.prog.liftsFinal = false := by kernel_rfl
theorem Tryd.laidB : laidOutB Tryd.prog = true := by kernel_rfl
end Go.Proofs
