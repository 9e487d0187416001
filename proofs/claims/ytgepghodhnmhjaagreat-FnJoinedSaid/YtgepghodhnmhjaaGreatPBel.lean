/- Streams that begin others, in plain Lean. -/
import Derived.Test.YtgepghodhnmhjaaGreatLBel
import Derived.Test.YtgepghodhnmhjaaGreatPLeast
namespace Go.AmT
open Go Go.Am
set_option linter.unusedVariables false
set_option linter.unusedSimpArgs false

theorem makeEqual_spec {n : Nat} {a b : List (List Int)} (hl : a.length ≤ 1048576) (hs : ∀ i, (atL a i).length ≤ 1048576) (hn : 1048576 < n) : makeEqual.f n a b = some (decide (a = b), ()) := by
  unfold makeEqual.f
  rw [sL4Same_spec hl hs hn]; rfl
end Go.AmT
