/- The closed facts of one row of the given statements, by the kernel, one after the other. No condition. -/
import Derived.Test.YtchoomlibgefbaaDoorRows
import Derived.Test.YtchoomlibgefbaaDoorClosedOne
import Derived.Test.YtchoomlibgefbaaDoorClosedTwo
import Derived.JoinedOf
import Derived.KernelRfl
set_option maxRecDepth 100000
namespace Go.Proofs.YtchoomlibgefbaaDoor
open Go
theorem inPlace_FormatReply : (Rows.fnExactFormatReplyRow.inPlace == Tryd.prog.inPlace 4) = true := by kernel_rfl
theorem unfollowed_FormatReply : (Rows.fnExactFormatReplyRow.unfollowed == Tryd.prog.unfollowed 4) = true := by kernel_rfl
theorem recurses_FormatReply : (Rows.fnExactFormatReplyRow.recurses == Tryd.prog.recurses 4) = true := by kernel_rfl
theorem named_FormatReply : (Rows.fnExactFormatReplyRow.named == Tryd.prog.varsNamed 4) = true := by kernel_rfl
theorem joined_FormatReply : joinedFacts Tryd.prog 4 Tryd.f4 Rows.fnExactFormatReplySpec Rows.fnExactFormatReplyRow = true := by
  unfold joinedFacts
  rw [Tryd.mayE, Tryd.lifts, Tryd.laidB, inPlace_FormatReply, unfollowed_FormatReply, recurses_FormatReply, named_FormatReply]
  kernel_rfl
end Go.Proofs.YtchoomlibgefbaaDoor
