/- The closed facts of one row of the given statements, by the kernel, one after the other. No condition. -/
import Derived.Test.YtlpbeejmefhpeaaGreatRows
import Derived.Test.YtlpbeejmefhpeaaGreatClosedOne
import Derived.Test.YtlpbeejmefhpeaaGreatClosedTwo
import Derived.JoinedOf
import Derived.KernelRfl
set_option maxRecDepth 100000
namespace Go.Proofs.YtlpbeejmefhpeaaGreat
open Go
theorem inPlace_ClientOp : (Rows.fnExactClientOpRow.inPlace == Tryz.prog.inPlace 6) = true := by kernel_rfl
theorem unfollowed_ClientOp : (Rows.fnExactClientOpRow.unfollowed == Tryz.prog.unfollowed 6) = true := by kernel_rfl
theorem recurses_ClientOp : (Rows.fnExactClientOpRow.recurses == Tryz.prog.recurses 6) = true := by kernel_rfl
theorem named_ClientOp : (Rows.fnExactClientOpRow.named == Tryz.prog.varsNamed 6) = true := by kernel_rfl
theorem joined_ClientOp : joinedFacts Tryz.prog 6 Tryz.f6 Rows.fnExactClientOpSpec Rows.fnExactClientOpRow = true := by
  unfold joinedFacts
  rw [Tryz.mayE, Tryz.lifts, Tryz.laidB, inPlace_ClientOp, unfollowed_ClientOp, recurses_ClientOp, named_ClientOp]
  kernel_rfl
end Go.Proofs.YtlpbeejmefhpeaaGreat
