/- The closed facts of one row of the given statements, by the kernel, one after the other. No condition. -/
import Derived.Test.YtchoomlibgefbaaGreatDoorRows
import Derived.Test.YtchoomlibgefbaaGreatDoorClosedOne
import Derived.Test.YtchoomlibgefbaaGreatDoorClosedTwo
import Derived.JoinedOf
import Derived.KernelRfl
set_option maxRecDepth 100000
namespace Go.Proofs.YtchoomlibgefbaaGreatDoor
open Go
theorem inPlace_IsCaughtUp : (Rows.fnExactIsCaughtUpRow.inPlace == Tryz.prog.inPlace 4) = true := by kernel_rfl
theorem unfollowed_IsCaughtUp : (Rows.fnExactIsCaughtUpRow.unfollowed == Tryz.prog.unfollowed 4) = true := by kernel_rfl
theorem recurses_IsCaughtUp : (Rows.fnExactIsCaughtUpRow.recurses == Tryz.prog.recurses 4) = true := by kernel_rfl
theorem named_IsCaughtUp : (Rows.fnExactIsCaughtUpRow.named == Tryz.prog.varsNamed 4) = true := by kernel_rfl
theorem joined_IsCaughtUp : joinedFacts Tryz.prog 4 Tryz.f4 Rows.fnExactIsCaughtUpSpec Rows.fnExactIsCaughtUpRow = true := by
  unfold joinedFacts
  rw [Tryz.mayE, Tryz.lifts, Tryz.laidB, inPlace_IsCaughtUp, unfollowed_IsCaughtUp, recurses_IsCaughtUp, named_IsCaughtUp]
  kernel_rfl
end Go.Proofs.YtchoomlibgefbaaGreatDoor
