/- The closed facts of one row of the given statements, by the kernel, one after the other. No condition. -/
import Derived.Test.YtaghlbbopdeljaaGreatRows
import Derived.Test.YtaghlbbopdeljaaGreatClosedOne
import Derived.Test.YtaghlbbopdeljaaGreatClosedTwo
import Derived.JoinedOf
import Derived.KernelRfl
set_option maxRecDepth 100000
namespace Go.Proofs.YtaghlbbopdeljaaGreat
open Go
theorem inPlace_CrashServer : (Rows.fnExactCrashServerRow.inPlace == Tryz.prog.inPlace 9) = true := by kernel_rfl
theorem unfollowed_CrashServer : (Rows.fnExactCrashServerRow.unfollowed == Tryz.prog.unfollowed 9) = true := by kernel_rfl
theorem recurses_CrashServer : (Rows.fnExactCrashServerRow.recurses == Tryz.prog.recurses 9) = true := by kernel_rfl
theorem named_CrashServer : (Rows.fnExactCrashServerRow.named == Tryz.prog.varsNamed 9) = true := by kernel_rfl
theorem joined_CrashServer : joinedFacts Tryz.prog 9 Tryz.f9 Rows.fnExactCrashServerSpec Rows.fnExactCrashServerRow = true := by
  unfold joinedFacts
  rw [Tryz.mayE, Tryz.lifts, Tryz.laidB, inPlace_CrashServer, unfollowed_CrashServer, recurses_CrashServer, named_CrashServer]
  kernel_rfl
end Go.Proofs.YtaghlbbopdeljaaGreat
