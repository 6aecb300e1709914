/- The closed facts of one row of the given statements, by the kernel, one after the other. No condition. -/
import Derived.Test.YtabbjdchnagobaaGreatRows
import Derived.Test.YtabbjdchnagobaaGreatClosedOne
import Derived.Test.YtabbjdchnagobaaGreatClosedTwo
import Derived.JoinedOf
import Derived.KernelRfl
set_option maxRecDepth 100000
namespace Go.Proofs.YtabbjdchnagobaaGreat
open Go
theorem inPlace_MaySwitch : (Rows.fnExactMaySwitchRow.inPlace == Tryz.prog.inPlace 14) = true := by kernel_rfl
theorem unfollowed_MaySwitch : (Rows.fnExactMaySwitchRow.unfollowed == Tryz.prog.unfollowed 14) = true := by kernel_rfl
theorem recurses_MaySwitch : (Rows.fnExactMaySwitchRow.recurses == Tryz.prog.recurses 14) = true := by kernel_rfl
theorem named_MaySwitch : (Rows.fnExactMaySwitchRow.named == Tryz.prog.varsNamed 14) = true := by kernel_rfl
theorem joined_MaySwitch : joinedFacts Tryz.prog 14 Tryz.f14 Rows.fnExactMaySwitchSpec Rows.fnExactMaySwitchRow = true := by
  unfold joinedFacts
  rw [Tryz.mayE, Tryz.lifts, Tryz.laidB, inPlace_MaySwitch, unfollowed_MaySwitch, recurses_MaySwitch, named_MaySwitch]
  kernel_rfl
end Go.Proofs.YtabbjdchnagobaaGreat
