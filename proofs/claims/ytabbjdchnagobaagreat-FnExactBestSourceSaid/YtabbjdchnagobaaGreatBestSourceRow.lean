/- The closed facts of one row of the given statements, by the kernel, one after the other. No condition. -/
import Derived.Test.YtabbjdchnagobaaGreatRows
import Derived.Test.YtabbjdchnagobaaGreatClosedOne
import Derived.Test.YtabbjdchnagobaaGreatClosedTwo
import Derived.JoinedOf
import Derived.KernelRfl
set_option maxRecDepth 100000
namespace Go.Proofs.YtabbjdchnagobaaGreat
open Go
theorem inPlace_BestSource : (Rows.fnExactBestSourceRow.inPlace == Tryz.prog.inPlace 7) = true := by kernel_rfl
theorem unfollowed_BestSource : (Rows.fnExactBestSourceRow.unfollowed == Tryz.prog.unfollowed 7) = true := by kernel_rfl
theorem recurses_BestSource : (Rows.fnExactBestSourceRow.recurses == Tryz.prog.recurses 7) = true := by kernel_rfl
theorem named_BestSource : (Rows.fnExactBestSourceRow.named == Tryz.prog.varsNamed 7) = true := by kernel_rfl
theorem joined_BestSource : joinedFacts Tryz.prog 7 Tryz.f7 Rows.fnExactBestSourceSpec Rows.fnExactBestSourceRow = true := by
  unfold joinedFacts
  rw [Tryz.mayE, Tryz.lifts, Tryz.laidB, inPlace_BestSource, unfollowed_BestSource, recurses_BestSource, named_BestSource]
  kernel_rfl
end Go.Proofs.YtabbjdchnagobaaGreat
