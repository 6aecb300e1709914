/- The closed facts of one row of the given statements, by the kernel, one after the other. No condition. -/
import Derived.Test.YtlpbeejmefhpeaaGreatRows
import Derived.Test.YtlpbeejmefhpeaaGreatClosedOne
import Derived.Test.YtlpbeejmefhpeaaGreatClosedTwo
import Derived.JoinedOf
import Derived.KernelRfl
set_option maxRecDepth 100000
namespace Go.Proofs.YtlpbeejmefhpeaaGreat
open Go
theorem inPlace_LeaseRead : (Rows.fnExactLeaseReadRow.inPlace == Tryz.prog.inPlace 3) = true := by kernel_rfl
theorem unfollowed_LeaseRead : (Rows.fnExactLeaseReadRow.unfollowed == Tryz.prog.unfollowed 3) = true := by kernel_rfl
theorem recurses_LeaseRead : (Rows.fnExactLeaseReadRow.recurses == Tryz.prog.recurses 3) = true := by kernel_rfl
theorem named_LeaseRead : (Rows.fnExactLeaseReadRow.named == Tryz.prog.varsNamed 3) = true := by kernel_rfl
theorem joined_LeaseRead : joinedFacts Tryz.prog 3 Tryz.f3 Rows.fnExactLeaseReadSpec Rows.fnExactLeaseReadRow = true := by
  unfold joinedFacts
  rw [Tryz.mayE, Tryz.lifts, Tryz.laidB, inPlace_LeaseRead, unfollowed_LeaseRead, recurses_LeaseRead, named_LeaseRead]
  kernel_rfl
end Go.Proofs.YtlpbeejmefhpeaaGreat
