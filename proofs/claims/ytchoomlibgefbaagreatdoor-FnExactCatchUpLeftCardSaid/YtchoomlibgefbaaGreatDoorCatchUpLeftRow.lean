/- The closed facts of one row of the given statements, by the kernel, one after the other. No condition. -/
import Derived.Test.YtchoomlibgefbaaGreatDoorRows
import Derived.Test.YtchoomlibgefbaaGreatDoorClosedOne
import Derived.Test.YtchoomlibgefbaaGreatDoorClosedTwo
import Derived.JoinedOf
import Derived.KernelRfl
set_option maxRecDepth 100000
namespace Go.Proofs.YtchoomlibgefbaaGreatDoor
open Go
theorem inPlace_CatchUpLeft : (Rows.fnExactCatchUpLeftRow.inPlace == Tryz.prog.inPlace 3) = true := by kernel_rfl
theorem unfollowed_CatchUpLeft : (Rows.fnExactCatchUpLeftRow.unfollowed == Tryz.prog.unfollowed 3) = true := by kernel_rfl
theorem recurses_CatchUpLeft : (Rows.fnExactCatchUpLeftRow.recurses == Tryz.prog.recurses 3) = true := by kernel_rfl
theorem named_CatchUpLeft : (Rows.fnExactCatchUpLeftRow.named == Tryz.prog.varsNamed 3) = true := by kernel_rfl
theorem joined_CatchUpLeft : joinedFacts Tryz.prog 3 Tryz.f3 Rows.fnExactCatchUpLeftSpec Rows.fnExactCatchUpLeftRow = true := by
  unfold joinedFacts
  rw [Tryz.mayE, Tryz.lifts, Tryz.laidB, inPlace_CatchUpLeft, unfollowed_CatchUpLeft, recurses_CatchUpLeft, named_CatchUpLeft]
  kernel_rfl
end Go.Proofs.YtchoomlibgefbaaGreatDoor
