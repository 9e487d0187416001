/- Networks at work with capacities, in plain Lean. -/
import Derived.Test.YtgepghodhnmhjaaLBnd
namespace Go.AmT
open Go Go.Am
set_option linter.unusedVariables false
set_option linter.unusedSimpArgs false

theorem okSt_true {nt : Network} {s : State} (o : OkSt nt s) : okSt nt s = true := decide_eq_true o
theorem okSt_of {nt : Network} {s : State} (h : okSt nt s = true) : OkSt nt s := of_decide_eq_true h
def mayP (nt : Network) (s : State) (caps : List Int) (k : Nat) : Bool :=
  canP nt s k && (!decide ((wantOf nt s k).1 = 3) || (decide ((nt.2.getD (linkOf nt s k).toNat zLink).2.2.1 < 0) || decide (((s.2.1.getD (linkOf nt s k).toNat []).length : Int) < caps.getD (linkOf nt s k).toNat 0)))

end Go.AmT
