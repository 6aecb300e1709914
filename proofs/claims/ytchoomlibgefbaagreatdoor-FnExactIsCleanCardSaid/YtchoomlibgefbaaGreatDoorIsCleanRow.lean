/- The closed facts of one row of the given statements, by the kernel, one after the other. No condition. -/
import Derived.Test.YtchoomlibgefbaaGreatDoorRows
import Derived.Test.YtchoomlibgefbaaGreatDoorClosedOne
import Derived.Test.YtchoomlibgefbaaGreatDoorClosedTwo
import Derived.JoinedOf
import Derived.KernelRfl
set_option maxRecDepth 100000
namespace Go.Proofs.YtchoomlibgefbaaGreatDoor
open Go
theorem inPlace_IsClean : (Rows.fnExactIsCleanRow.inPlace == Tryz.prog.inPlace 6) = true := by kernel_rfl
theorem unfollowed_IsClean : (Rows.fnExactIsCleanRow.unfollowed == Tryz.prog.unfollowed 6) = true := by kernel_rfl
theorem recurses_IsClean : (Rows.fnExactIsCleanRow.recurses == Tryz.prog.recurses 6) = true := by kernel_rfl
theorem named_IsClean : (Rows.fnExactIsCleanRow.named == Tryz.prog.varsNamed 6) = true := by kernel_rfl
theorem joined_IsClean : joinedFacts Tryz.prog 6 Tryz.f6 Rows.fnExactIsCleanSpec Rows.fnExactIsCleanRow = true := by
  unfold joinedFacts
  rw [Tryz.mayE, Tryz.lifts, Tryz.laidB, inPlace_IsClean, unfollowed_IsClean, recurses_IsClean, named_IsClean]
  kernel_rfl
end Go.Proofs.YtchoomlibgefbaaGreatDoor
