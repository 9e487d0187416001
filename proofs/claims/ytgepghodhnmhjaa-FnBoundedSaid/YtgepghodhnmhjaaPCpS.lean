/- States copied; whether any process can step, in plain Lean. -/
import Derived.Test.YtgepghodhnmhjaaLCpS
namespace Go.AmT
open Go Go.Am
set_option linter.unusedVariables false
set_option linter.unusedSimpArgs false

theorem sL5First_spec {n : Nat} {nt : Network} {s : State} (o : OkSt nt s) (hn : 1048576 < n) : W (sL5First.f n nt s) (fun r => decide (0 ≤ r.1) = anyCan nt s ∧ (0 ≤ r.1 → ∃ k : Nat, r.1 = (k : Int) ∧ k < nt.1.length ∧ canP nt s k = true ∧ ∀ j, j < k → canP nt s j = false)) := by
  have hp := o.net.progs
  unfold sL5First.f
  refine W_up (fun i (_ : Unit) => ((i : Int), ())) nt.1.length (fun i _ => ∀ j, j < i → canP nt s j = false) (s0 := ()) rfl (fun j hj => by omega) (by omega) (fun ih s' hI => ?_) (fun ih i s' hi hI hS => ?_)
  · simp only [br_no (Int.lt_irrefl _)]
    rw [W_some]
    refine ⟨?_, fun h => by omega⟩
    rw [anyCan, any_no hI]; rfl
  · simp only [br_yes (show (i : Int) < (nt.1.length : Int) by omega), sL5Can_spec o hi hn, Option.bind_some]
    cases hc : canP nt s i
    · simp only [br_false]
      rw [w64_succ (by omega)]
      refine hS () (fun j hj => ?_)
      rcases Nat.lt_or_ge j i with h | h
      · exact hI j h
      · rwa [show j = i by omega]
    · simp only [br_true]
      rw [W_some]
      refine ⟨?_, fun _ => ⟨i, rfl, hi, hc, hI⟩⟩
      rw [anyCan, any_of hi hc]; simp
theorem quiet_spec {n : Nat} {nt : Network} {s : State} {r : Run} (R : IsRun nt s r) (o : OkSt nt s) (hn : 1048576 < n) : quiet.f n r = some (!anyCan nt s, ()) := by
  have hp := o.net.progs
  unfold quiet.f
  rw [R.net]
  refine W_eq.1 (any_loop nt.1.length (canP nt s) (yes := fun _ => some (false, ())) (fun ih i hi => ?_) (fun ih => br_no (Int.lt_irrefl _)) (by omega) (fun i hi h => ?_) (fun h => ?_))
  · rw [br_yes (by omega), can_spec R o hi, w64_succ (by omega), Option.bind_some, br_ite]
  · rw [W_some, anyCan, any_of hi h]; rfl
  · rw [W_some, anyCan, any_no h]; rfl
end Go.AmT
