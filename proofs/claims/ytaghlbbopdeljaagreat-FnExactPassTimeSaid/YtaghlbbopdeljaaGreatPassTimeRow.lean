/- The closed facts of one row of the given statements, by the kernel, one after the other. No condition. -/
import Derived.Test.YtaghlbbopdeljaaGreatRows
import Derived.Test.YtaghlbbopdeljaaGreatClosedOne
import Derived.Test.YtaghlbbopdeljaaGreatClosedTwo
import Derived.JoinedOf
import Derived.KernelRfl
set_option maxRecDepth 100000
namespace Go.Proofs.YtaghlbbopdeljaaGreat
open Go
theorem inPlace_PassTime : (Rows.fnExactPassTimeRow.inPlace == Tryz.prog.inPlace 4) = true := by kernel_rfl
theorem unfollowed_PassTime : (Rows.fnExactPassTimeRow.unfollowed == Tryz.prog.unfollowed 4) = true := by kernel_rfl
theorem recurses_PassTime : (Rows.fnExactPassTimeRow.recurses == Tryz.prog.recurses 4) = true := by kernel_rfl
theorem named_PassTime : (Rows.fnExactPassTimeRow.named == Tryz.prog.varsNamed 4) = true := by kernel_rfl
theorem joined_PassTime : joinedFacts Tryz.prog 4 Tryz.f4 Rows.fnExactPassTimeSpec Rows.fnExactPassTimeRow = true := by
  unfold joinedFacts
  rw [Tryz.mayE, Tryz.lifts, Tryz.laidB, inPlace_PassTime, unfollowed_PassTime, recurses_PassTime, named_PassTime]
  kernel_rfl
end Go.Proofs.YtaghlbbopdeljaaGreat
