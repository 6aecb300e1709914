/- The closed facts of one row of the given statements, by the kernel, one after the other. No condition. -/
import Derived.Test.YtabbjdchnagobaaGreatRows
import Derived.Test.YtabbjdchnagobaaGreatClosedOne
import Derived.Test.YtabbjdchnagobaaGreatClosedTwo
import Derived.JoinedOf
import Derived.KernelRfl
set_option maxRecDepth 100000
namespace Go.Proofs.YtabbjdchnagobaaGreat
open Go
theorem inPlace_UpServers : (Rows.fnExactUpServersRow.inPlace == Tryz.prog.inPlace 11) = true := by kernel_rfl
theorem unfollowed_UpServers : (Rows.fnExactUpServersRow.unfollowed == Tryz.prog.unfollowed 11) = true := by kernel_rfl
theorem recurses_UpServers : (Rows.fnExactUpServersRow.recurses == Tryz.prog.recurses 11) = true := by kernel_rfl
theorem named_UpServers : (Rows.fnExactUpServersRow.named == Tryz.prog.varsNamed 11) = true := by kernel_rfl
theorem joined_UpServers : joinedFacts Tryz.prog 11 Tryz.f11 Rows.fnExactUpServersSpec Rows.fnExactUpServersRow = true := by
  unfold joinedFacts
  rw [Tryz.mayE, Tryz.lifts, Tryz.laidB, inPlace_UpServers, unfollowed_UpServers, recurses_UpServers, named_UpServers]
  kernel_rfl
end Go.Proofs.YtabbjdchnagobaaGreat
