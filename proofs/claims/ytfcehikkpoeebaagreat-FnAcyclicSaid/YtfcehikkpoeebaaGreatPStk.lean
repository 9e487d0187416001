/- Whether any process can step with capacities, in plain Lean. -/
import Derived.Test.YtfcehikkpoeebaaGreatLStk
namespace Go.AmT
open Go Go.Am
set_option linter.unusedVariables false
set_option linter.unusedSimpArgs false

theorem stuck_spec {n : Nat} {nt : Network} {s : State} {caps : List Int} {r : Run} (R : IsRun nt s r) (o : OkSt nt s) (hc : caps.length = nt.2.length) (e : r.2.2.2.2 = some caps) (hn : 1048576 < n) : stuck.f n r = some (!anyMay nt s caps, ()) := by
  have hp := o.net.progs
  unfold stuck.f
  rw [R.net]
  refine W_eq.1 (any_loop nt.1.length (mayP nt s caps) (yes := fun _ => some (false, ())) (fun ih i hi => ?_) (fun ih => br_no (Int.lt_irrefl _)) (by omega) (fun i hi h => ?_) (fun h => ?_))
  · rw [br_yes (by omega), may_spec R o hc e hi, w64_succ (by omega), Option.bind_some, br_ite]
  · rw [W_some, anyMay, any_of hi h]; rfl
  · rw [W_some, anyMay, any_no h]; rfl
end Go.AmT
