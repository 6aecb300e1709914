/- The closed facts of one row of the given statements, by the kernel, one after the other. No condition. -/
import Derived.Test.YtandfgncjpgifaaGreatRows
import Derived.Test.YtandfgncjpgifaaGreatClosedOne
import Derived.Test.YtandfgncjpgifaaGreatClosedTwo
import Derived.JoinedOf
import Derived.KernelRfl
set_option maxRecDepth 100000
namespace Go.Proofs.YtandfgncjpgifaaGreat
open Go
theorem inPlace_SwitchPrimary : (Rows.fnExactSwitchPrimaryRow.inPlace == Tryz.prog.inPlace 7) = true := by kernel_rfl
theorem unfollowed_SwitchPrimary : (Rows.fnExactSwitchPrimaryRow.unfollowed == Tryz.prog.unfollowed 7) = true := by kernel_rfl
theorem recurses_SwitchPrimary : (Rows.fnExactSwitchPrimaryRow.recurses == Tryz.prog.recurses 7) = true := by kernel_rfl
theorem named_SwitchPrimary : (Rows.fnExactSwitchPrimaryRow.named == Tryz.prog.varsNamed 7) = true := by kernel_rfl
theorem joined_SwitchPrimary : joinedFacts Tryz.prog 7 Tryz.f7 Rows.fnExactSwitchPrimarySpec Rows.fnExactSwitchPrimaryRow = true := by
  unfold joinedFacts
  rw [Tryz.mayE, Tryz.lifts, Tryz.laidB, inPlace_SwitchPrimary, unfollowed_SwitchPrimary, recurses_SwitchPrimary, named_SwitchPrimary]
  kernel_rfl
end Go.Proofs.YtandfgncjpgifaaGreat
