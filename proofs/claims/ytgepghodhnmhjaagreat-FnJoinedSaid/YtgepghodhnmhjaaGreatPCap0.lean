/- What capacities are, for lists of texts without their tests. -/
import Derived.Test.YtgepghodhnmhjaaGreatPNet2
namespace Go.AmT
open Go Go.Am
/-- are these capacities of the network? -/
def okC (ls : List Link) (caps : List Int) : Bool := decide (caps.length = ls.length) && (List.range caps.length).all fun i => decide (((ls.getD i zLink).2.2.2.2.length : Int) ≤ caps.getD i 0) && decide (caps.getD i 0 ≤ 400)
end Go.AmT
