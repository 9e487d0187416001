/- Networks at work with capacities, in plain Lean. -/
import Derived.Test.YtcipidfgblbeiaaLBnd
namespace Go.AmT
open Go Go.Am
set_option linter.unusedVariables false
set_option linter.unusedSimpArgs false

theorem okSt_true {nt : Network} {s : State} (o : OkSt nt s) : okSt nt s = true := decide_eq_true o
end Go.AmT
