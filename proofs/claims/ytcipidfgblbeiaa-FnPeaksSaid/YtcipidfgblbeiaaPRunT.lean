/- Runs in turns, in plain Lean: both programs make the same. -/
import Derived.Test.YtcipidfgblbeiaaLRunT
namespace Go.AmT
open Go Go.Am
set_option linter.unusedVariables false
set_option linter.unusedSimpArgs false

noncomputable def runTurns (nt : Network) (s : State) (most : Int) : State × Bool := if okSt nt s = true then (runT nt none most s, !anyCan nt (runT nt none most s)) else (([], ([], ([], 0))), false)
theorem iRunTurns_spec {n : Nat} {nt : Network} {s : State} {most : Int} (h : SmallN nt) (hs : SmallSt s) (hn : 1048576 < n) : iRunTurns.f n nt s most = some ((runTurns nt s most).1, ((runTurns nt s most).2, ())) := by
  unfold iRunTurns.f runTurns
  rw [iIsState_spec h hs hn]
  cases e1 : okSt nt s
  · rfl
  · have o := okSt_of e1
    simp only [Option.bind_some, Bool.not_true, br_false, if_true]
    refine W_eq.1 (W_bind.2 (W_and (newRun_spec (caps := none) o.net hs hn) (fun r ⟨to, fr, e, T, F⟩ => W_eq.2 ?_)))
    subst e
    have R : IsRun nt s (nt, (s, (to, (fr, none)))) := ⟨rfl, rfl, T, F⟩
    simp only
    rw [turns_spec (most := most) R o (fun _ h => by cases h) hn]
    simp only [Option.bind_some]
    have hq : quiet.f n ((nt.1, nt.2), (((runT nt none most s).1, ((runT nt none most s).2.1, ((runT nt none most s).2.2.1, (runT nt none most s).2.2.2))), (to, (fr, none)))) = some (!anyCan nt (runT nt none most s), ()) := quiet_spec (IsRun.step R) (runT_ok o) hn
    rw [hq]
    rfl
end Go.AmT
