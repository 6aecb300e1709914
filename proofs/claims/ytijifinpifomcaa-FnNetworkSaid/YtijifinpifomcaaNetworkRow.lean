/- The closed facts of one row of the given statements, by the kernel, one after the other. No condition. -/
import Derived.Test.YtijifinpifomcaaRows
import Derived.Test.YtijifinpifomcaaClosedOne
import Derived.Test.YtijifinpifomcaaClosedTwo
import Derived.JoinedOf
import Derived.KernelRfl
set_option maxRecDepth 100000
namespace Go.Proofs.Ytijifinpifomcaa
open Go
theorem inPlace_Network : (Rows.fnNetworkRow.inPlace == Try.prog.inPlace 3) = true := by kernel_rfl
theorem unfollowed_Network : (Rows.fnNetworkRow.unfollowed == Try.prog.unfollowed 3) = true := by kernel_rfl
theorem recurses_Network : (Rows.fnNetworkRow.recurses == Try.prog.recurses 3) = true := by kernel_rfl
theorem named_Network : (Rows.fnNetworkRow.named == Try.prog.varsNamed 3) = true := by kernel_rfl
theorem joined_Network : joinedFacts Try.prog 3 Try.f3 Rows.fnNetworkSpec Rows.fnNetworkRow = true := by
  unfold joinedFacts
  rw [Try.mayE, Try.lifts, Try.laidB, inPlace_Network, unfollowed_Network, recurses_Network, named_Network]
  kernel_rfl
end Go.Proofs.Ytijifinpifomcaa
