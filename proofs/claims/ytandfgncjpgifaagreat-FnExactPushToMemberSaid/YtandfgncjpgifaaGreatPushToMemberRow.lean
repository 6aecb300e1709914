/- The closed facts of one row of the given statements, by the kernel, one after the other. No condition. -/
import Derived.Test.YtandfgncjpgifaaGreatRows
import Derived.Test.YtandfgncjpgifaaGreatClosedOne
import Derived.Test.YtandfgncjpgifaaGreatClosedTwo
import Derived.JoinedOf
import Derived.KernelRfl
set_option maxRecDepth 100000
namespace Go.Proofs.YtandfgncjpgifaaGreat
open Go
theorem inPlace_PushToMember : (Rows.fnExactPushToMemberRow.inPlace == Tryz.prog.inPlace 5) = true := by kernel_rfl
theorem unfollowed_PushToMember : (Rows.fnExactPushToMemberRow.unfollowed == Tryz.prog.unfollowed 5) = true := by kernel_rfl
theorem recurses_PushToMember : (Rows.fnExactPushToMemberRow.recurses == Tryz.prog.recurses 5) = true := by kernel_rfl
theorem named_PushToMember : (Rows.fnExactPushToMemberRow.named == Tryz.prog.varsNamed 5) = true := by kernel_rfl
theorem joined_PushToMember : joinedFacts Tryz.prog 5 Tryz.f5 Rows.fnExactPushToMemberSpec Rows.fnExactPushToMemberRow = true := by
  unfold joinedFacts
  rw [Tryz.mayE, Tryz.lifts, Tryz.laidB, inPlace_PushToMember, unfollowed_PushToMember, recurses_PushToMember, named_PushToMember]
  kernel_rfl
end Go.Proofs.YtandfgncjpgifaaGreat
