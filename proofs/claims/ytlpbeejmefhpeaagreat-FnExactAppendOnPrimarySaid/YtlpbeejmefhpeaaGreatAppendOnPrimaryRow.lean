/- The closed facts of one row of the given statements, by the kernel, one after the other. No condition. -/
import Derived.Test.YtlpbeejmefhpeaaGreatRows
import Derived.Test.YtlpbeejmefhpeaaGreatClosedOne
import Derived.Test.YtlpbeejmefhpeaaGreatClosedTwo
import Derived.JoinedOf
import Derived.KernelRfl
set_option maxRecDepth 100000
namespace Go.Proofs.YtlpbeejmefhpeaaGreat
open Go
theorem inPlace_AppendOnPrimary : (Rows.fnExactAppendOnPrimaryRow.inPlace == Tryz.prog.inPlace 5) = true := by kernel_rfl
theorem unfollowed_AppendOnPrimary : (Rows.fnExactAppendOnPrimaryRow.unfollowed == Tryz.prog.unfollowed 5) = true := by kernel_rfl
theorem recurses_AppendOnPrimary : (Rows.fnExactAppendOnPrimaryRow.recurses == Tryz.prog.recurses 5) = true := by kernel_rfl
theorem named_AppendOnPrimary : (Rows.fnExactAppendOnPrimaryRow.named == Tryz.prog.varsNamed 5) = true := by kernel_rfl
theorem joined_AppendOnPrimary : joinedFacts Tryz.prog 5 Tryz.f5 Rows.fnExactAppendOnPrimarySpec Rows.fnExactAppendOnPrimaryRow = true := by
  unfold joinedFacts
  rw [Tryz.mayE, Tryz.lifts, Tryz.laidB, inPlace_AppendOnPrimary, unfollowed_AppendOnPrimary, recurses_AppendOnPrimary, named_AppendOnPrimary]
  kernel_rfl
end Go.Proofs.YtlpbeejmefhpeaaGreat
