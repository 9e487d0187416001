/- Capacities, in plain Lean. -/
import Derived.Test.YtgepghodhnmhjaaLCap
namespace Go.AmT
open Go Go.Am
set_option linter.unusedVariables false
set_option linter.unusedSimpArgs false

/-- are these capacities of the network? -/
def okC (ls : List Link) (caps : List Int) : Bool := decide (caps.length = ls.length) && (List.range caps.length).all fun i => decide (((ls.getD i zLink).2.2.2.2.length : Int) ≤ caps.getD i 0) && decide (caps.getD i 0 ≤ 400)

end Go.AmT
