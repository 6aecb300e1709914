/- The closed facts of one row of the given statements, by the kernel, one after the other. No condition. -/
import Derived.Test.YtaghlbbopdeljaaGreatRows
import Derived.Test.YtaghlbbopdeljaaGreatClosedOne
import Derived.Test.YtaghlbbopdeljaaGreatClosedTwo
import Derived.JoinedOf
import Derived.KernelRfl
set_option maxRecDepth 100000
namespace Go.Proofs.YtaghlbbopdeljaaGreat
open Go
theorem inPlace_RestartServer : (Rows.fnExactRestartServerRow.inPlace == Tryz.prog.inPlace 8) = true := by kernel_rfl
theorem unfollowed_RestartServer : (Rows.fnExactRestartServerRow.unfollowed == Tryz.prog.unfollowed 8) = true := by kernel_rfl
theorem recurses_RestartServer : (Rows.fnExactRestartServerRow.recurses == Tryz.prog.recurses 8) = true := by kernel_rfl
theorem named_RestartServer : (Rows.fnExactRestartServerRow.named == Tryz.prog.varsNamed 8) = true := by kernel_rfl
theorem joined_RestartServer : joinedFacts Tryz.prog 8 Tryz.f8 Rows.fnExactRestartServerSpec Rows.fnExactRestartServerRow = true := by
  unfold joinedFacts
  rw [Tryz.mayE, Tryz.lifts, Tryz.laidB, inPlace_RestartServer, unfollowed_RestartServer, recurses_RestartServer, named_RestartServer]
  kernel_rfl
end Go.Proofs.YtaghlbbopdeljaaGreat
