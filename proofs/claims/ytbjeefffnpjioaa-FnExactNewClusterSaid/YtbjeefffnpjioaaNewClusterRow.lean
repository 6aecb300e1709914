/- The closed facts of one row of the given statements, by the kernel, one after the other. No condition. -/
import Derived.Test.YtbjeefffnpjioaaRows
import Derived.Test.YtbjeefffnpjioaaClosedOne
import Derived.Test.YtbjeefffnpjioaaClosedTwo
import Derived.JoinedOf
import Derived.KernelRfl
set_option maxRecDepth 100000
namespace Go.Proofs.Ytbjeefffnpjioaa
open Go
theorem inPlace_NewCluster : (Rows.fnExactNewClusterRow.inPlace == Try.prog.inPlace 3) = true := by kernel_rfl
theorem unfollowed_NewCluster : (Rows.fnExactNewClusterRow.unfollowed == Try.prog.unfollowed 3) = true := by kernel_rfl
theorem recurses_NewCluster : (Rows.fnExactNewClusterRow.recurses == Try.prog.recurses 3) = true := by kernel_rfl
theorem named_NewCluster : (Rows.fnExactNewClusterRow.named == Try.prog.varsNamed 3) = true := by kernel_rfl
theorem joined_NewCluster : joinedFacts Try.prog 3 Try.f3 Rows.fnExactNewClusterSpec Rows.fnExactNewClusterRow = true := by
  unfold joinedFacts
  rw [Try.mayE, Try.lifts, Try.laidB, inPlace_NewCluster, unfollowed_NewCluster, recurses_NewCluster, named_NewCluster]
  kernel_rfl
end Go.Proofs.Ytbjeefffnpjioaa
