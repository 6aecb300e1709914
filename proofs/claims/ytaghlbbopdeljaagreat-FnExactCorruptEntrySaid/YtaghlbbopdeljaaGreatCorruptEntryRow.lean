/- The closed facts of one row of the given statements, by the kernel, one after the other. No condition. -/
import Derived.Test.YtaghlbbopdeljaaGreatRows
import Derived.Test.YtaghlbbopdeljaaGreatClosedOne
import Derived.Test.YtaghlbbopdeljaaGreatClosedTwo
import Derived.JoinedOf
import Derived.KernelRfl
set_option maxRecDepth 100000
namespace Go.Proofs.YtaghlbbopdeljaaGreat
open Go
theorem inPlace_CorruptEntry : (Rows.fnExactCorruptEntryRow.inPlace == Tryz.prog.inPlace 7) = true := by kernel_rfl
theorem unfollowed_CorruptEntry : (Rows.fnExactCorruptEntryRow.unfollowed == Tryz.prog.unfollowed 7) = true := by kernel_rfl
theorem recurses_CorruptEntry : (Rows.fnExactCorruptEntryRow.recurses == Tryz.prog.recurses 7) = true := by kernel_rfl
theorem named_CorruptEntry : (Rows.fnExactCorruptEntryRow.named == Tryz.prog.varsNamed 7) = true := by kernel_rfl
theorem joined_CorruptEntry : joinedFacts Tryz.prog 7 Tryz.f7 Rows.fnExactCorruptEntrySpec Rows.fnExactCorruptEntryRow = true := by
  unfold joinedFacts
  rw [Tryz.mayE, Tryz.lifts, Tryz.laidB, inPlace_CorruptEntry, unfollowed_CorruptEntry, recurses_CorruptEntry, named_CorruptEntry]
  kernel_rfl
end Go.Proofs.YtaghlbbopdeljaaGreat
