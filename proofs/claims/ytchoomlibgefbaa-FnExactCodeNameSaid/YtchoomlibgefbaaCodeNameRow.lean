/- The closed facts of one row of the given statements, by the kernel, one after the other. No condition. -/
import Derived.Test.YtchoomlibgefbaaRows
import Derived.Test.YtchoomlibgefbaaClosedOne
import Derived.Test.YtchoomlibgefbaaClosedTwo
import Derived.JoinedOf
import Derived.KernelRfl
set_option maxRecDepth 100000
namespace Go.Proofs.Ytchoomlibgefbaa
open Go
theorem inPlace_CodeName : (Rows.fnExactCodeNameRow.inPlace == Try.prog.inPlace 3) = true := by kernel_rfl
theorem unfollowed_CodeName : (Rows.fnExactCodeNameRow.unfollowed == Try.prog.unfollowed 3) = true := by kernel_rfl
theorem recurses_CodeName : (Rows.fnExactCodeNameRow.recurses == Try.prog.recurses 3) = true := by kernel_rfl
theorem named_CodeName : (Rows.fnExactCodeNameRow.named == Try.prog.varsNamed 3) = true := by kernel_rfl
theorem joined_CodeName : joinedFacts Try.prog 3 Try.f3 Rows.fnExactCodeNameSpec Rows.fnExactCodeNameRow = true := by
  unfold joinedFacts
  rw [Try.mayE, Try.lifts, Try.laidB, inPlace_CodeName, unfollowed_CodeName, recurses_CodeName, named_CodeName]
  kernel_rfl
end Go.Proofs.Ytchoomlibgefbaa
