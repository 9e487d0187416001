/- What a valid graph is. -/
import Derived.Test.YtfcehikkpoeebaaLGr
import Derived.Test.YtfcehikkpoeebaaAmD
namespace Go.AmT
open Go Go.Am
set_option linter.unusedVariables false

/-- is an edge valid? -/
def okE (nodes : Int) (e : Edge) : Bool :=
  decide (0 ≤ e.1) && decide (e.1 ≤ nodes - 1) && (decide (0 ≤ e.2.1) && decide (e.2.1 ≤ nodes - 1)) && (decide (1 ≤ e.2.2.1) && decide (e.2.2.1 ≤ 5)) && (decide (1 ≤ e.2.2.2.1) && decide (e.2.2.2.1 ≤ 5)) && (decide (0 ≤ e.2.2.2.2) && decide (e.2.2.2.2 ≤ 50))

def okG (g : Graph) : Bool := decide (0 ≤ g.1) && decide (g.1 ≤ 8) && decide (g.2.length ≤ 16) && g.2.all (okE g.1)

end Go.AmT
