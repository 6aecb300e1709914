/- The closed facts of one row of the given statements, by the kernel, one after the other. No condition. -/
import Derived.Test.YtbjeefffnpjioaaGreatRows
import Derived.Test.YtbjeefffnpjioaaGreatClosedOne
import Derived.Test.YtbjeefffnpjioaaGreatClosedTwo
import Derived.JoinedOf
import Derived.KernelRfl
set_option maxRecDepth 100000
namespace Go.Proofs.YtbjeefffnpjioaaGreat
open Go
theorem inPlace_SealMembers : (Rows.fnExactSealMembersRow.inPlace == Tryz.prog.inPlace 3) = true := by kernel_rfl
theorem unfollowed_SealMembers : (Rows.fnExactSealMembersRow.unfollowed == Tryz.prog.unfollowed 3) = true := by kernel_rfl
theorem recurses_SealMembers : (Rows.fnExactSealMembersRow.recurses == Tryz.prog.recurses 3) = true := by kernel_rfl
theorem named_SealMembers : (Rows.fnExactSealMembersRow.named == Tryz.prog.varsNamed 3) = true := by kernel_rfl
theorem joined_SealMembers : joinedFacts Tryz.prog 3 Tryz.f3 Rows.fnExactSealMembersSpec Rows.fnExactSealMembersRow = true := by
  unfold joinedFacts
  rw [Tryz.mayE, Tryz.lifts, Tryz.laidB, inPlace_SealMembers, unfollowed_SealMembers, recurses_SealMembers, named_SealMembers]
  kernel_rfl
end Go.Proofs.YtbjeefffnpjioaaGreat
