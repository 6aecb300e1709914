/- The closed facts of one row of the given statements, by the kernel, one after the other. No condition. -/
import Derived.Test.YtaghlbbopdeljaaGreatRows
import Derived.Test.YtaghlbbopdeljaaGreatClosedOne
import Derived.Test.YtaghlbbopdeljaaGreatClosedTwo
import Derived.JoinedOf
import Derived.KernelRfl
set_option maxRecDepth 100000
namespace Go.Proofs.YtaghlbbopdeljaaGreat
open Go
theorem inPlace_SetMasters : (Rows.fnExactSetMastersRow.inPlace == Tryz.prog.inPlace 5) = true := by kernel_rfl
theorem unfollowed_SetMasters : (Rows.fnExactSetMastersRow.unfollowed == Tryz.prog.unfollowed 5) = true := by kernel_rfl
theorem recurses_SetMasters : (Rows.fnExactSetMastersRow.recurses == Tryz.prog.recurses 5) = true := by kernel_rfl
theorem named_SetMasters : (Rows.fnExactSetMastersRow.named == Tryz.prog.varsNamed 5) = true := by kernel_rfl
theorem joined_SetMasters : joinedFacts Tryz.prog 5 Tryz.f5 Rows.fnExactSetMastersSpec Rows.fnExactSetMastersRow = true := by
  unfold joinedFacts
  rw [Tryz.mayE, Tryz.lifts, Tryz.laidB, inPlace_SetMasters, unfollowed_SetMasters, recurses_SetMasters, named_SetMasters]
  kernel_rfl
end Go.Proofs.YtaghlbbopdeljaaGreat
