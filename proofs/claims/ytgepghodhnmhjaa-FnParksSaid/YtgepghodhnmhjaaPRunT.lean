/- Runs in turns, in plain Lean: both programs make the same. -/
import Derived.Test.YtgepghodhnmhjaaLRunT
namespace Go.AmT
open Go Go.Am
set_option linter.unusedVariables false
set_option linter.unusedSimpArgs false

noncomputable def runTurns (nt : Network) (s : State) (most : Int) : State × Bool := if okSt nt s = true then (runT nt none most s, !anyCan nt (runT nt none most s)) else (([], ([], ([], 0))), false)
theorem sRunTurns_spec {n : Nat} {nt : Network} {s : State} {most : Int} (h : SmallN nt) (hs : SmallSt s) (hn : 1048576 < n) : sRunTurns.f n nt s most = some ((runTurns nt s most).1, ((runTurns nt s most).2, ())) := by
  unfold sRunTurns.f runTurns
  rw [sIsState_spec h hs hn]
  cases e1 : okSt nt s
  · rfl
  · have o := okSt_of e1
    have hp := o.net.progs
    simp only [Option.bind_some, Bool.not_true, br_false, if_true]
    rw [sL5Copy_spec hs hn]
    simp only [Option.bind_some]
    refine turnsS_loop (g := canP nt) (st := stepP nt) (most := most) (K := nt.1.length) (J := JS nt) (μ := muS) good_can (fun _ => muS_le)
      (fun made s => (made, (s.2.2.2, (s.1, (s.2.1, (s.2.2.1, ())))))) (fun made k s => (made, ((k : Int), (s.2.2.2, (s.1, (s.2.1, (s.2.2.1, ())))))))
      (G := fun _ s => some (s, (!anyCan nt s, ()))) (fun ih made s h => ?_) (by omega) (by omega) (x := (0, s)) ⟨o, Int.le_refl _, o.steps.1⟩
    refine ⟨_, (first_if (s := s) (made := made) (most := most) h.1 hn _ _).trans (ite_else (first_end (s := s) h.1 hn (fun b => some (s, (b, ()))))), fun ihi made k s h hk hm => ?_, fun ihi made k s h hk hm => ?_⟩
    · have c1 : (k : Int) < (nt.1.length : Int) := by omega
      have hc : sL5Can.f n nt (s.1, (s.2.1, (s.2.2.1, s.2.2.2))) (k : Int) = some (canP nt s k, ()) := sL5Can_spec h.1 hk hn
      have hle := h.le
      simp only [br_yes c1, cut_inr, decide_eq_true hm, br_true, hc, Option.bind_some]
      cases hg : canP nt s k
      · simp only [br_false, Bool.false_eq_true, if_false]
        rw [w64_succ (by omega)]
      · simp only [br_true, if_true]
        rw [sL5Step_spec h.1 (small_of_ok h.1) hk hg hn]
        simp only [Option.bind_some]
        rw [w64_succ (by omega), w64_id (n := made + 1) (by simp only at hle; omega) (by simp only at hle; omega)]
    · by_cases c1 : (k : Int) < (nt.1.length : Int)
      · have hm : ¬ made < most := fun h => hm ⟨by omega, h⟩
        simp only [br_yes c1, cut_inr, decide_eq_false hm, br_false]
      · simp only [br_no c1, cut_inr, br_false]
end Go.AmT
