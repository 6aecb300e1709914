/- The closed facts of one row of the given statements, by the kernel, one after the other. No condition. -/
import Derived.Test.YtlpbeejmefhpeaaGreatRows
import Derived.Test.YtlpbeejmefhpeaaGreatClosedOne
import Derived.Test.YtlpbeejmefhpeaaGreatClosedTwo
import Derived.JoinedOf
import Derived.KernelRfl
set_option maxRecDepth 100000
namespace Go.Proofs.YtlpbeejmefhpeaaGreat
open Go
theorem inPlace_RetryOp : (Rows.fnExactRetryOpRow.inPlace == Tryz.prog.inPlace 7) = true := by kernel_rfl
theorem unfollowed_RetryOp : (Rows.fnExactRetryOpRow.unfollowed == Tryz.prog.unfollowed 7) = true := by kernel_rfl
theorem recurses_RetryOp : (Rows.fnExactRetryOpRow.recurses == Tryz.prog.recurses 7) = true := by kernel_rfl
theorem named_RetryOp : (Rows.fnExactRetryOpRow.named == Tryz.prog.varsNamed 7) = true := by kernel_rfl
theorem joined_RetryOp : joinedFacts Tryz.prog 7 Tryz.f7 Rows.fnExactRetryOpSpec Rows.fnExactRetryOpRow = true := by
  unfold joinedFacts
  rw [Tryz.mayE, Tryz.lifts, Tryz.laidB, inPlace_RetryOp, unfollowed_RetryOp, recurses_RetryOp, named_RetryOp]
  kernel_rfl
end Go.Proofs.YtlpbeejmefhpeaaGreat
