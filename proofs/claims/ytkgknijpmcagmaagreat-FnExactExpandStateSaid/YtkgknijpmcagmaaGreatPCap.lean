/- Capacities, in plain Lean. -/
import Derived.Test.YtkgknijpmcagmaaGreatLCap
namespace Go.AmT
open Go Go.Am
set_option linter.unusedVariables false
set_option linter.unusedSimpArgs false

end Go.AmT
