/- The closed facts of one row of the given statements, by the kernel, one after the other. No condition. -/
import Derived.Test.YtabbjdchnagobaaGreatRows
import Derived.Test.YtabbjdchnagobaaGreatClosedOne
import Derived.Test.YtabbjdchnagobaaGreatClosedTwo
import Derived.JoinedOf
import Derived.KernelRfl
set_option maxRecDepth 100000
namespace Go.Proofs.YtabbjdchnagobaaGreat
open Go
theorem inPlace_GroupFormat : (Rows.fnExactGroupFormatRow.inPlace == Tryz.prog.inPlace 8) = true := by kernel_rfl
theorem unfollowed_GroupFormat : (Rows.fnExactGroupFormatRow.unfollowed == Tryz.prog.unfollowed 8) = true := by kernel_rfl
theorem recurses_GroupFormat : (Rows.fnExactGroupFormatRow.recurses == Tryz.prog.recurses 8) = true := by kernel_rfl
theorem named_GroupFormat : (Rows.fnExactGroupFormatRow.named == Tryz.prog.varsNamed 8) = true := by kernel_rfl
theorem joined_GroupFormat : joinedFacts Tryz.prog 8 Tryz.f8 Rows.fnExactGroupFormatSpec Rows.fnExactGroupFormatRow = true := by
  unfold joinedFacts
  rw [Tryz.mayE, Tryz.lifts, Tryz.laidB, inPlace_GroupFormat, unfollowed_GroupFormat, recurses_GroupFormat, named_GroupFormat]
  kernel_rfl
end Go.Proofs.YtabbjdchnagobaaGreat
