/- The closed facts of one row of the given statements, by the kernel, one after the other. No condition. -/
import Derived.Test.YtedbdcjpdamhcaaGreatRows
import Derived.Test.YtedbdcjpdamhcaaGreatClosedOne
import Derived.Test.YtedbdcjpdamhcaaGreatClosedTwo
import Derived.JoinedOf
import Derived.KernelRfl
set_option maxRecDepth 100000
namespace Go.Proofs.YtedbdcjpdamhcaaGreat
open Go
theorem inPlace_NextConfig : (Rows.fnExactNextConfigRow.inPlace == Tryz.prog.inPlace 3) = true := by kernel_rfl
theorem unfollowed_NextConfig : (Rows.fnExactNextConfigRow.unfollowed == Tryz.prog.unfollowed 3) = true := by kernel_rfl
theorem recurses_NextConfig : (Rows.fnExactNextConfigRow.recurses == Tryz.prog.recurses 3) = true := by kernel_rfl
theorem named_NextConfig : (Rows.fnExactNextConfigRow.named == Tryz.prog.varsNamed 3) = true := by kernel_rfl
theorem joined_NextConfig : joinedFacts Tryz.prog 3 Tryz.f3 Rows.fnExactNextConfigSpec Rows.fnExactNextConfigRow = true := by
  unfold joinedFacts
  rw [Tryz.mayE, Tryz.lifts, Tryz.laidB, inPlace_NextConfig, unfollowed_NextConfig, recurses_NextConfig, named_NextConfig]
  kernel_rfl
end Go.Proofs.YtedbdcjpdamhcaaGreat
