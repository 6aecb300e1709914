/- The closed facts of one row of the given statements, by the kernel, one after the other. No condition. -/
import Derived.Test.YtabbjdchnagobaaGreatRows
import Derived.Test.YtabbjdchnagobaaGreatClosedOne
import Derived.Test.YtabbjdchnagobaaGreatClosedTwo
import Derived.JoinedOf
import Derived.KernelRfl
set_option maxRecDepth 100000
namespace Go.Proofs.YtabbjdchnagobaaGreat
open Go
theorem inPlace_CanReadLocally : (Rows.fnExactCanReadLocallyRow.inPlace == Tryz.prog.inPlace 6) = true := by kernel_rfl
theorem unfollowed_CanReadLocally : (Rows.fnExactCanReadLocallyRow.unfollowed == Tryz.prog.unfollowed 6) = true := by kernel_rfl
theorem recurses_CanReadLocally : (Rows.fnExactCanReadLocallyRow.recurses == Tryz.prog.recurses 6) = true := by kernel_rfl
theorem named_CanReadLocally : (Rows.fnExactCanReadLocallyRow.named == Tryz.prog.varsNamed 6) = true := by kernel_rfl
theorem joined_CanReadLocally : joinedFacts Tryz.prog 6 Tryz.f6 Rows.fnExactCanReadLocallySpec Rows.fnExactCanReadLocallyRow = true := by
  unfold joinedFacts
  rw [Tryz.mayE, Tryz.lifts, Tryz.laidB, inPlace_CanReadLocally, unfollowed_CanReadLocally, recurses_CanReadLocally, named_CanReadLocally]
  kernel_rfl
end Go.Proofs.YtabbjdchnagobaaGreat
