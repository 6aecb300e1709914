/- The closed facts of one row of the given statements, by the kernel, one after the other. No condition. -/
import Derived.Test.YtaghlbbopdeljaaGreatRows
import Derived.Test.YtaghlbbopdeljaaGreatClosedOne
import Derived.Test.YtaghlbbopdeljaaGreatClosedTwo
import Derived.JoinedOf
import Derived.KernelRfl
set_option maxRecDepth 100000
namespace Go.Proofs.YtaghlbbopdeljaaGreat
open Go
theorem inPlace_RenewLease : (Rows.fnExactRenewLeaseRow.inPlace == Tryz.prog.inPlace 13) = true := by kernel_rfl
theorem unfollowed_RenewLease : (Rows.fnExactRenewLeaseRow.unfollowed == Tryz.prog.unfollowed 13) = true := by kernel_rfl
theorem recurses_RenewLease : (Rows.fnExactRenewLeaseRow.recurses == Tryz.prog.recurses 13) = true := by kernel_rfl
theorem named_RenewLease : (Rows.fnExactRenewLeaseRow.named == Tryz.prog.varsNamed 13) = true := by kernel_rfl
theorem joined_RenewLease : joinedFacts Tryz.prog 13 Tryz.f13 Rows.fnExactRenewLeaseSpec Rows.fnExactRenewLeaseRow = true := by
  unfold joinedFacts
  rw [Tryz.mayE, Tryz.lifts, Tryz.laidB, inPlace_RenewLease, unfollowed_RenewLease, recurses_RenewLease, named_RenewLease]
  kernel_rfl
end Go.Proofs.YtaghlbbopdeljaaGreat
