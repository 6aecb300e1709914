/- The closed facts of one row of the given statements, by the kernel, one after the other. No condition. -/
import Derived.Test.YtbjeefffnpjioaaGreatRows
import Derived.Test.YtbjeefffnpjioaaGreatClosedOne
import Derived.Test.YtbjeefffnpjioaaGreatClosedTwo
import Derived.JoinedOf
import Derived.KernelRfl
set_option maxRecDepth 100000
namespace Go.Proofs.YtbjeefffnpjioaaGreat
open Go
theorem inPlace_SourceLog : (Rows.fnExactSourceLogRow.inPlace == Tryz.prog.inPlace 4) = true := by kernel_rfl
theorem unfollowed_SourceLog : (Rows.fnExactSourceLogRow.unfollowed == Tryz.prog.unfollowed 4) = true := by kernel_rfl
theorem recurses_SourceLog : (Rows.fnExactSourceLogRow.recurses == Tryz.prog.recurses 4) = true := by kernel_rfl
theorem named_SourceLog : (Rows.fnExactSourceLogRow.named == Tryz.prog.varsNamed 4) = true := by kernel_rfl
theorem joined_SourceLog : joinedFacts Tryz.prog 4 Tryz.f4 Rows.fnExactSourceLogSpec Rows.fnExactSourceLogRow = true := by
  unfold joinedFacts
  rw [Tryz.mayE, Tryz.lifts, Tryz.laidB, inPlace_SourceLog, unfollowed_SourceLog, recurses_SourceLog, named_SourceLog]
  kernel_rfl
end Go.Proofs.YtbjeefffnpjioaaGreat
