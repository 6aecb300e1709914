/- The closed facts of one row of the given statements, by the kernel, one after the other. No condition. -/
import Derived.Test.YtandfgncjpgifaaGreatRows
import Derived.Test.YtandfgncjpgifaaGreatClosedOne
import Derived.Test.YtandfgncjpgifaaGreatClosedTwo
import Derived.JoinedOf
import Derived.KernelRfl
set_option maxRecDepth 100000
namespace Go.Proofs.YtandfgncjpgifaaGreat
open Go
theorem inPlace_CommitPending : (Rows.fnExactCommitPendingRow.inPlace == Tryz.prog.inPlace 6) = true := by kernel_rfl
theorem unfollowed_CommitPending : (Rows.fnExactCommitPendingRow.unfollowed == Tryz.prog.unfollowed 6) = true := by kernel_rfl
theorem recurses_CommitPending : (Rows.fnExactCommitPendingRow.recurses == Tryz.prog.recurses 6) = true := by kernel_rfl
theorem named_CommitPending : (Rows.fnExactCommitPendingRow.named == Tryz.prog.varsNamed 6) = true := by kernel_rfl
theorem joined_CommitPending : joinedFacts Tryz.prog 6 Tryz.f6 Rows.fnExactCommitPendingSpec Rows.fnExactCommitPendingRow = true := by
  unfold joinedFacts
  rw [Tryz.mayE, Tryz.lifts, Tryz.laidB, inPlace_CommitPending, unfollowed_CommitPending, recurses_CommitPending, named_CommitPending]
  kernel_rfl
end Go.Proofs.YtandfgncjpgifaaGreat
