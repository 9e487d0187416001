/- Streams that begin others, in plain Lean. -/
import Derived.Test.YtgepghodhnmhjaaLBel
import Derived.Test.YtgepghodhnmhjaaPLeast
namespace Go.AmT
open Go Go.Am
set_option linter.unusedVariables false
set_option linter.unusedSimpArgs false

theorem makeEqual_spec {n : Nat} {a b : List (List Int)} (hl : a.length ≤ 1048576) (hs : ∀ i, (atL a i).length ≤ 1048576) (hn : 1048576 < n) : makeEqual.f n a b = some (decide (a = b), ()) := by
  unfold makeEqual.f
  rw [sL4Same_spec hl hs hn]; rfl
theorem sent_ok {nt : Network} {s : State} (o : OkSt nt s) {j : Nat} : okS (sent s j) = true := by
  by_cases hj : j < nt.2.length
  · exact (o.lnk j hj).hs
  · rw [sent_big o (by omega)]; decide
theorem sent_len {nt : Network} {s : State} (o : OkSt nt s) (j : Nat) : (atL s.2.2.1 j).length ≤ 1048576 := by
  have : okS (atL s.2.2.1 j) = true := sent_ok o
  have := (okS_len this).1
  omega
end Go.AmT
