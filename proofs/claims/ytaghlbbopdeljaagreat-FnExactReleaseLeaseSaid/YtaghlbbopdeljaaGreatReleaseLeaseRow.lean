/- The closed facts of one row of the given statements, by the kernel, one after the other. No condition. -/
import Derived.Test.YtaghlbbopdeljaaGreatRows
import Derived.Test.YtaghlbbopdeljaaGreatClosedOne
import Derived.Test.YtaghlbbopdeljaaGreatClosedTwo
import Derived.JoinedOf
import Derived.KernelRfl
set_option maxRecDepth 100000
namespace Go.Proofs.YtaghlbbopdeljaaGreat
open Go
theorem inPlace_ReleaseLease : (Rows.fnExactReleaseLeaseRow.inPlace == Tryz.prog.inPlace 11) = true := by kernel_rfl
theorem unfollowed_ReleaseLease : (Rows.fnExactReleaseLeaseRow.unfollowed == Tryz.prog.unfollowed 11) = true := by kernel_rfl
theorem recurses_ReleaseLease : (Rows.fnExactReleaseLeaseRow.recurses == Tryz.prog.recurses 11) = true := by kernel_rfl
theorem named_ReleaseLease : (Rows.fnExactReleaseLeaseRow.named == Tryz.prog.varsNamed 11) = true := by kernel_rfl
theorem joined_ReleaseLease : joinedFacts Tryz.prog 11 Tryz.f11 Rows.fnExactReleaseLeaseSpec Rows.fnExactReleaseLeaseRow = true := by
  unfold joinedFacts
  rw [Tryz.mayE, Tryz.lifts, Tryz.laidB, inPlace_ReleaseLease, unfollowed_ReleaseLease, recurses_ReleaseLease, named_ReleaseLease]
  kernel_rfl
end Go.Proofs.YtaghlbbopdeljaaGreat
