/- The closed facts of one row of the given statements, by the kernel, one after the other. No condition. -/
import Derived.Test.YtandfgncjpgifaaGreatRows
import Derived.Test.YtandfgncjpgifaaGreatClosedOne
import Derived.Test.YtandfgncjpgifaaGreatClosedTwo
import Derived.JoinedOf
import Derived.KernelRfl
set_option maxRecDepth 100000
namespace Go.Proofs.YtandfgncjpgifaaGreat
open Go
theorem inPlace_Activate : (Rows.fnExactActivateRow.inPlace == Tryz.prog.inPlace 3) = true := by kernel_rfl
theorem unfollowed_Activate : (Rows.fnExactActivateRow.unfollowed == Tryz.prog.unfollowed 3) = true := by kernel_rfl
theorem recurses_Activate : (Rows.fnExactActivateRow.recurses == Tryz.prog.recurses 3) = true := by kernel_rfl
theorem named_Activate : (Rows.fnExactActivateRow.named == Tryz.prog.varsNamed 3) = true := by kernel_rfl
theorem joined_Activate : joinedFacts Tryz.prog 3 Tryz.f3 Rows.fnExactActivateSpec Rows.fnExactActivateRow = true := by
  unfold joinedFacts
  rw [Tryz.mayE, Tryz.lifts, Tryz.laidB, inPlace_Activate, unfollowed_Activate, recurses_Activate, named_Activate]
  kernel_rfl
end Go.Proofs.YtandfgncjpgifaaGreat
