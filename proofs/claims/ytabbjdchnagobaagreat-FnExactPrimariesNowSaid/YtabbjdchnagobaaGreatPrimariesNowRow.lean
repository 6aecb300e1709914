/- The closed facts of one row of the given statements, by the kernel, one after the other. No condition. -/
import Derived.Test.YtabbjdchnagobaaGreatRows
import Derived.Test.YtabbjdchnagobaaGreatClosedOne
import Derived.Test.YtabbjdchnagobaaGreatClosedTwo
import Derived.JoinedOf
import Derived.KernelRfl
set_option maxRecDepth 100000
namespace Go.Proofs.YtabbjdchnagobaaGreat
open Go
theorem inPlace_PrimariesNow : (Rows.fnExactPrimariesNowRow.inPlace == Tryz.prog.inPlace 12) = true := by kernel_rfl
theorem unfollowed_PrimariesNow : (Rows.fnExactPrimariesNowRow.unfollowed == Tryz.prog.unfollowed 12) = true := by kernel_rfl
theorem recurses_PrimariesNow : (Rows.fnExactPrimariesNowRow.recurses == Tryz.prog.recurses 12) = true := by kernel_rfl
theorem named_PrimariesNow : (Rows.fnExactPrimariesNowRow.named == Tryz.prog.varsNamed 12) = true := by kernel_rfl
theorem joined_PrimariesNow : joinedFacts Tryz.prog 12 Tryz.f12 Rows.fnExactPrimariesNowSpec Rows.fnExactPrimariesNowRow = true := by
  unfold joinedFacts
  rw [Tryz.mayE, Tryz.lifts, Tryz.laidB, inPlace_PrimariesNow, unfollowed_PrimariesNow, recurses_PrimariesNow, named_PrimariesNow]
  kernel_rfl
end Go.Proofs.YtabbjdchnagobaaGreat
