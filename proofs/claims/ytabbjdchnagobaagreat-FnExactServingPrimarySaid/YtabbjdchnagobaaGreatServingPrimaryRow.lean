/- The closed facts of one row of the given statements, by the kernel, one after the other. No condition. -/
import Derived.Test.YtabbjdchnagobaaGreatRows
import Derived.Test.YtabbjdchnagobaaGreatClosedOne
import Derived.Test.YtabbjdchnagobaaGreatClosedTwo
import Derived.JoinedOf
import Derived.KernelRfl
set_option maxRecDepth 100000
namespace Go.Proofs.YtabbjdchnagobaaGreat
open Go
theorem inPlace_ServingPrimary : (Rows.fnExactServingPrimaryRow.inPlace == Tryz.prog.inPlace 9) = true := by kernel_rfl
theorem unfollowed_ServingPrimary : (Rows.fnExactServingPrimaryRow.unfollowed == Tryz.prog.unfollowed 9) = true := by kernel_rfl
theorem recurses_ServingPrimary : (Rows.fnExactServingPrimaryRow.recurses == Tryz.prog.recurses 9) = true := by kernel_rfl
theorem named_ServingPrimary : (Rows.fnExactServingPrimaryRow.named == Tryz.prog.varsNamed 9) = true := by kernel_rfl
theorem joined_ServingPrimary : joinedFacts Tryz.prog 9 Tryz.f9 Rows.fnExactServingPrimarySpec Rows.fnExactServingPrimaryRow = true := by
  unfold joinedFacts
  rw [Tryz.mayE, Tryz.lifts, Tryz.laidB, inPlace_ServingPrimary, unfollowed_ServingPrimary, recurses_ServingPrimary, named_ServingPrimary]
  kernel_rfl
end Go.Proofs.YtabbjdchnagobaaGreat
