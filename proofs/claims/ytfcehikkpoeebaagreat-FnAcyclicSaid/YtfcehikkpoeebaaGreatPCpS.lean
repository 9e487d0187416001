/- States copied; whether any process can step, in plain Lean. -/
import Derived.Test.YtfcehikkpoeebaaGreatLCpS
namespace Go.AmT
open Go Go.Am
set_option linter.unusedVariables false
set_option linter.unusedSimpArgs false

theorem quiet_spec {n : Nat} {nt : Network} {s : State} {r : Run} (R : IsRun nt s r) (o : OkSt nt s) (hn : 1048576 < n) : quiet.f n r = some (!anyCan nt s, ()) := by
  have hp := o.net.progs
  unfold quiet.f
  rw [R.net]
  refine W_eq.1 (any_loop nt.1.length (canP nt s) (yes := fun _ => some (false, ())) (fun ih i hi => ?_) (fun ih => br_no (Int.lt_irrefl _)) (by omega) (fun i hi h => ?_) (fun h => ?_))
  · rw [br_yes (by omega), can_spec R o hi, w64_succ (by omega), Option.bind_some, br_ite]
  · rw [W_some, anyCan, any_of hi h]; rfl
  · rw [W_some, anyCan, any_no h]; rfl
end Go.AmT
