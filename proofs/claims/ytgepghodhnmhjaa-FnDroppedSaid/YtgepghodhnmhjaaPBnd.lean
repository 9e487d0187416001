/- Networks at work with capacities, in plain Lean. -/
import Derived.Test.YtgepghodhnmhjaaLBnd
namespace Go.AmT
open Go Go.Am
set_option linter.unusedVariables false
set_option linter.unusedSimpArgs false

theorem okN_true {nt : Network} (o : OkN nt) : okN nt = true := decide_eq_true o
end Go.AmT
