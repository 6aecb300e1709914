/- The closed facts of one row of the given statements, by the kernel, one after the other. No condition. -/
import Derived.Test.YtabbjdchnagobaaGreatRows
import Derived.Test.YtabbjdchnagobaaGreatClosedOne
import Derived.Test.YtabbjdchnagobaaGreatClosedTwo
import Derived.JoinedOf
import Derived.KernelRfl
set_option maxRecDepth 100000
namespace Go.Proofs.YtabbjdchnagobaaGreat
open Go
theorem inPlace_SourcesFor : (Rows.fnExactSourcesForRow.inPlace == Tryz.prog.inPlace 13) = true := by kernel_rfl
theorem unfollowed_SourcesFor : (Rows.fnExactSourcesForRow.unfollowed == Tryz.prog.unfollowed 13) = true := by kernel_rfl
theorem recurses_SourcesFor : (Rows.fnExactSourcesForRow.recurses == Tryz.prog.recurses 13) = true := by kernel_rfl
theorem named_SourcesFor : (Rows.fnExactSourcesForRow.named == Tryz.prog.varsNamed 13) = true := by kernel_rfl
theorem joined_SourcesFor : joinedFacts Tryz.prog 13 Tryz.f13 Rows.fnExactSourcesForSpec Rows.fnExactSourcesForRow = true := by
  unfold joinedFacts
  rw [Tryz.mayE, Tryz.lifts, Tryz.laidB, inPlace_SourcesFor, unfollowed_SourcesFor, recurses_SourcesFor, named_SourcesFor]
  kernel_rfl
end Go.Proofs.YtabbjdchnagobaaGreat
