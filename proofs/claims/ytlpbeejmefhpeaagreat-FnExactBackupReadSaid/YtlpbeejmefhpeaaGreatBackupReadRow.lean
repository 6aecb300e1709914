/- The closed facts of one row of the given statements, by the kernel, one after the other. No condition. -/
import Derived.Test.YtlpbeejmefhpeaaGreatRows
import Derived.Test.YtlpbeejmefhpeaaGreatClosedOne
import Derived.Test.YtlpbeejmefhpeaaGreatClosedTwo
import Derived.JoinedOf
import Derived.KernelRfl
set_option maxRecDepth 100000
namespace Go.Proofs.YtlpbeejmefhpeaaGreat
open Go
theorem inPlace_BackupRead : (Rows.fnExactBackupReadRow.inPlace == Tryz.prog.inPlace 4) = true := by kernel_rfl
theorem unfollowed_BackupRead : (Rows.fnExactBackupReadRow.unfollowed == Tryz.prog.unfollowed 4) = true := by kernel_rfl
theorem recurses_BackupRead : (Rows.fnExactBackupReadRow.recurses == Tryz.prog.recurses 4) = true := by kernel_rfl
theorem named_BackupRead : (Rows.fnExactBackupReadRow.named == Tryz.prog.varsNamed 4) = true := by kernel_rfl
theorem joined_BackupRead : joinedFacts Tryz.prog 4 Tryz.f4 Rows.fnExactBackupReadSpec Rows.fnExactBackupReadRow = true := by
  unfold joinedFacts
  rw [Tryz.mayE, Tryz.lifts, Tryz.laidB, inPlace_BackupRead, unfollowed_BackupRead, recurses_BackupRead, named_BackupRead]
  kernel_rfl
end Go.Proofs.YtlpbeejmefhpeaaGreat
