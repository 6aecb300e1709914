/- The closed facts of one row of the given statements, by the kernel, one after the other. No condition. -/
import Derived.Test.YtaghlbbopdeljaaGreatRows
import Derived.Test.YtaghlbbopdeljaaGreatClosedOne
import Derived.Test.YtaghlbbopdeljaaGreatClosedTwo
import Derived.JoinedOf
import Derived.KernelRfl
set_option maxRecDepth 100000
namespace Go.Proofs.YtaghlbbopdeljaaGreat
open Go
theorem inPlace_ProposeNext : (Rows.fnExactProposeNextRow.inPlace == Tryz.prog.inPlace 12) = true := by kernel_rfl
theorem unfollowed_ProposeNext : (Rows.fnExactProposeNextRow.unfollowed == Tryz.prog.unfollowed 12) = true := by kernel_rfl
theorem recurses_ProposeNext : (Rows.fnExactProposeNextRow.recurses == Tryz.prog.recurses 12) = true := by kernel_rfl
theorem named_ProposeNext : (Rows.fnExactProposeNextRow.named == Tryz.prog.varsNamed 12) = true := by kernel_rfl
theorem joined_ProposeNext : joinedFacts Tryz.prog 12 Tryz.f12 Rows.fnExactProposeNextSpec Rows.fnExactProposeNextRow = true := by
  unfold joinedFacts
  rw [Tryz.mayE, Tryz.lifts, Tryz.laidB, inPlace_ProposeNext, unfollowed_ProposeNext, recurses_ProposeNext, named_ProposeNext]
  kernel_rfl
end Go.Proofs.YtaghlbbopdeljaaGreat
