/- Runs in turns of networks, in plain Lean: what the program makes of them. -/
import Derived.Test.YtgepghodhnmhjaaLTurns
namespace Go.AmT
open Go Go.Am
set_option linter.unusedVariables false
set_option linter.unusedSimpArgs false

def JS (nt : Network) (x : Int × State) : Prop := OkSt nt x.2 ∧ 0 ≤ x.1 ∧ x.1 ≤ x.2.2.2.2
theorem JS.le {nt : Network} {x : Int × State} (h : JS nt x) : 0 ≤ x.1 ∧ x.1 ≤ 20000 := by
  have := h.1.steps
  have := h.2
  omega
end Go.AmT
