/- The state at the start, in plain Lean: both programs make the same. -/
import Derived.Test.YtgepghodhnmhjaaLStart
namespace Go.AmT
open Go Go.Am
set_option linter.unusedVariables false
set_option linter.unusedSimpArgs false

end Go.AmT
