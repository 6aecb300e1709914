/- The closed facts of one row of the given statements, by the kernel, one after the other. No condition. -/
import Derived.Test.YtchoomlibgefbaaDoorRows
import Derived.Test.YtchoomlibgefbaaDoorClosedOne
import Derived.Test.YtchoomlibgefbaaDoorClosedTwo
import Derived.JoinedOf
import Derived.KernelRfl
set_option maxRecDepth 100000
namespace Go.Proofs.YtchoomlibgefbaaDoor
open Go
theorem inPlace_LearnedDigest : (Rows.fnExactLearnedDigestRow.inPlace == Tryd.prog.inPlace 3) = true := by kernel_rfl
theorem unfollowed_LearnedDigest : (Rows.fnExactLearnedDigestRow.unfollowed == Tryd.prog.unfollowed 3) = true := by kernel_rfl
theorem recurses_LearnedDigest : (Rows.fnExactLearnedDigestRow.recurses == Tryd.prog.recurses 3) = true := by kernel_rfl
theorem named_LearnedDigest : (Rows.fnExactLearnedDigestRow.named == Tryd.prog.varsNamed 3) = true := by kernel_rfl
theorem joined_LearnedDigest : joinedFacts Tryd.prog 3 Tryd.f3 Rows.fnExactLearnedDigestSpec Rows.fnExactLearnedDigestRow = true := by
  unfold joinedFacts
  rw [Tryd.mayE, Tryd.lifts, Tryd.laidB, inPlace_LearnedDigest, unfollowed_LearnedDigest, recurses_LearnedDigest, named_LearnedDigest]
  kernel_rfl
end Go.Proofs.YtchoomlibgefbaaDoor
