/- The closed facts of one row of the given statements, by the kernel, one after the other. No condition. -/
import Derived.Test.YtaghlbbopdeljaaGreatRows
import Derived.Test.YtaghlbbopdeljaaGreatClosedOne
import Derived.Test.YtaghlbbopdeljaaGreatClosedTwo
import Derived.JoinedOf
import Derived.KernelRfl
set_option maxRecDepth 100000
namespace Go.Proofs.YtaghlbbopdeljaaGreat
open Go
theorem inPlace_MoveServer : (Rows.fnExactMoveServerRow.inPlace == Tryz.prog.inPlace 10) = true := by kernel_rfl
theorem unfollowed_MoveServer : (Rows.fnExactMoveServerRow.unfollowed == Tryz.prog.unfollowed 10) = true := by kernel_rfl
theorem recurses_MoveServer : (Rows.fnExactMoveServerRow.recurses == Tryz.prog.recurses 10) = true := by kernel_rfl
theorem named_MoveServer : (Rows.fnExactMoveServerRow.named == Tryz.prog.varsNamed 10) = true := by kernel_rfl
theorem joined_MoveServer : joinedFacts Tryz.prog 10 Tryz.f10 Rows.fnExactMoveServerSpec Rows.fnExactMoveServerRow = true := by
  unfold joinedFacts
  rw [Tryz.mayE, Tryz.lifts, Tryz.laidB, inPlace_MoveServer, unfollowed_MoveServer, recurses_MoveServer, named_MoveServer]
  kernel_rfl
end Go.Proofs.YtaghlbbopdeljaaGreat
