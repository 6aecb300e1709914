/- More plain facts. No condition. -/
import Derived.Test.YtijifinpifomcaaPure22
set_option linter.unusedVariables false
set_option linter.unusedSimpArgs false
set_option linter.unusedVariables false
set_option linter.unusedSimpArgs false
namespace Go.Abs
open Go
noncomputable section
end
end Go.Abs
