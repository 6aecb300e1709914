/- The closed facts of one row of the given statements, by the kernel, one after the other. No condition. -/
import Derived.Test.YtchoomlibgefbaaGreatDoorRows
import Derived.Test.YtchoomlibgefbaaGreatDoorClosedOne
import Derived.Test.YtchoomlibgefbaaGreatDoorClosedTwo
import Derived.JoinedOf
import Derived.KernelRfl
set_option maxRecDepth 100000
namespace Go.Proofs.YtchoomlibgefbaaGreatDoor
open Go
theorem inPlace_CatchUpStep : (Rows.fnExactCatchUpStepRow.inPlace == Tryz.prog.inPlace 5) = true := by kernel_rfl
theorem unfollowed_CatchUpStep : (Rows.fnExactCatchUpStepRow.unfollowed == Tryz.prog.unfollowed 5) = true := by kernel_rfl
theorem recurses_CatchUpStep : (Rows.fnExactCatchUpStepRow.recurses == Tryz.prog.recurses 5) = true := by kernel_rfl
theorem named_CatchUpStep : (Rows.fnExactCatchUpStepRow.named == Tryz.prog.varsNamed 5) = true := by kernel_rfl
theorem joined_CatchUpStep : joinedFacts Tryz.prog 5 Tryz.f5 Rows.fnExactCatchUpStepSpec Rows.fnExactCatchUpStepRow = true := by
  unfold joinedFacts
  rw [Tryz.mayE, Tryz.lifts, Tryz.laidB, inPlace_CatchUpStep, unfollowed_CatchUpStep, recurses_CatchUpStep, named_CatchUpStep]
  kernel_rfl
end Go.Proofs.YtchoomlibgefbaaGreatDoor
