/- States that are marked, in plain Lean: no condition but that they are small. -/
import Derived.Test.YtgepghodhnmhjaaLMarkS
namespace Go.AmT
open Go Go.Am
set_option linter.unusedVariables false
set_option linter.unusedSimpArgs false

end Go.AmT
