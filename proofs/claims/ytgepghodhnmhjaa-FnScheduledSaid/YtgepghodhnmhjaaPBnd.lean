/- Networks at work with capacities, in plain Lean. -/
import Derived.Test.YtgepghodhnmhjaaLBnd
namespace Go.AmT
open Go Go.Am
set_option linter.unusedVariables false
set_option linter.unusedSimpArgs false

theorem okSt_true {nt : Network} {s : State} (o : OkSt nt s) : okSt nt s = true := decide_eq_true o
theorem okSt_of {nt : Network} {s : State} (h : okSt nt s = true) : OkSt nt s := of_decide_eq_true h
end Go.AmT
