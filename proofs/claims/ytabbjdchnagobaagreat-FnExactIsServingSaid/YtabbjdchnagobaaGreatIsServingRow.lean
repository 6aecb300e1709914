/- The closed facts of one row of the given statements, by the kernel, one after the other. No condition. -/
import Derived.Test.YtabbjdchnagobaaGreatRows
import Derived.Test.YtabbjdchnagobaaGreatClosedOne
import Derived.Test.YtabbjdchnagobaaGreatClosedTwo
import Derived.JoinedOf
import Derived.KernelRfl
set_option maxRecDepth 100000
namespace Go.Proofs.YtabbjdchnagobaaGreat
open Go
theorem inPlace_IsServing : (Rows.fnExactIsServingRow.inPlace == Tryz.prog.inPlace 10) = true := by kernel_rfl
theorem unfollowed_IsServing : (Rows.fnExactIsServingRow.unfollowed == Tryz.prog.unfollowed 10) = true := by kernel_rfl
theorem recurses_IsServing : (Rows.fnExactIsServingRow.recurses == Tryz.prog.recurses 10) = true := by kernel_rfl
theorem named_IsServing : (Rows.fnExactIsServingRow.named == Tryz.prog.varsNamed 10) = true := by kernel_rfl
theorem joined_IsServing : joinedFacts Tryz.prog 10 Tryz.f10 Rows.fnExactIsServingSpec Rows.fnExactIsServingRow = true := by
  unfold joinedFacts
  rw [Tryz.mayE, Tryz.lifts, Tryz.laidB, inPlace_IsServing, unfollowed_IsServing, recurses_IsServing, named_IsServing]
  kernel_rfl
end Go.Proofs.YtabbjdchnagobaaGreat
