/- The closed facts of one row of the given statements, by the kernel, one after the other. No condition. -/
import Derived.Test.YtbjeefffnpjioaaGreatRows
import Derived.Test.YtbjeefffnpjioaaGreatClosedOne
import Derived.Test.YtbjeefffnpjioaaGreatClosedTwo
import Derived.JoinedOf
import Derived.KernelRfl
set_option maxRecDepth 100000
namespace Go.Proofs.YtbjeefffnpjioaaGreat
open Go
theorem inPlace_WitnessLog : (Rows.fnExactWitnessLogRow.inPlace == Tryz.prog.inPlace 5) = true := by kernel_rfl
theorem unfollowed_WitnessLog : (Rows.fnExactWitnessLogRow.unfollowed == Tryz.prog.unfollowed 5) = true := by kernel_rfl
theorem recurses_WitnessLog : (Rows.fnExactWitnessLogRow.recurses == Tryz.prog.recurses 5) = true := by kernel_rfl
theorem named_WitnessLog : (Rows.fnExactWitnessLogRow.named == Tryz.prog.varsNamed 5) = true := by kernel_rfl
theorem joined_WitnessLog : joinedFacts Tryz.prog 5 Tryz.f5 Rows.fnExactWitnessLogSpec Rows.fnExactWitnessLogRow = true := by
  unfold joinedFacts
  rw [Tryz.mayE, Tryz.lifts, Tryz.laidB, inPlace_WitnessLog, unfollowed_WitnessLog, recurses_WitnessLog, named_WitnessLog]
  kernel_rfl
end Go.Proofs.YtbjeefffnpjioaaGreat
