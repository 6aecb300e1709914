/- The closed facts of one row of the given statements, by the kernel, one after the other. No condition. -/
import Derived.Test.YtabbjdchnagobaaGreatRows
import Derived.Test.YtabbjdchnagobaaGreatClosedOne
import Derived.Test.YtabbjdchnagobaaGreatClosedTwo
import Derived.JoinedOf
import Derived.KernelRfl
set_option maxRecDepth 100000
namespace Go.Proofs.YtabbjdchnagobaaGreat
open Go
theorem inPlace_IsValidCluster : (Rows.fnExactIsValidClusterRow.inPlace == Tryz.prog.inPlace 3) = true := by kernel_rfl
theorem unfollowed_IsValidCluster : (Rows.fnExactIsValidClusterRow.unfollowed == Tryz.prog.unfollowed 3) = true := by kernel_rfl
theorem recurses_IsValidCluster : (Rows.fnExactIsValidClusterRow.recurses == Tryz.prog.recurses 3) = true := by kernel_rfl
theorem named_IsValidCluster : (Rows.fnExactIsValidClusterRow.named == Tryz.prog.varsNamed 3) = true := by kernel_rfl
theorem joined_IsValidCluster : joinedFacts Tryz.prog 3 Tryz.f3 Rows.fnExactIsValidClusterSpec Rows.fnExactIsValidClusterRow = true := by
  unfold joinedFacts
  rw [Tryz.mayE, Tryz.lifts, Tryz.laidB, inPlace_IsValidCluster, unfollowed_IsValidCluster, recurses_IsValidCluster, named_IsValidCluster]
  kernel_rfl
end Go.Proofs.YtabbjdchnagobaaGreat
