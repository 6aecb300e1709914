/- More plain facts. No condition. -/
import Derived.Test.YtijifinpifomcaaPure23
set_option linter.unusedVariables false
set_option linter.unusedSimpArgs false
set_option linter.unusedVariables false
set_option linter.unusedSimpArgs false
namespace Go.Abs
open Go
noncomputable section
structure MachB (m : Mach) : Prop where
  o : m.objs.length ≤ 1048576
  s : m.sess.length ≤ 1048576
end
end Go.Abs
