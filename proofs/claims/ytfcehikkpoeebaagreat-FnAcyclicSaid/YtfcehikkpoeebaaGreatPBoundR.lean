/- Runs with capacities, in plain Lean: both programs make the same. -/
import Derived.Test.YtfcehikkpoeebaaGreatLBoundR
namespace Go.AmT
open Go Go.Am
set_option linter.unusedVariables false
set_option linter.unusedSimpArgs false

def bndW (nt : Network) (s : State) (caps : List Int) : Int := if anyCan nt s = true then (if anyMay nt s caps = true then 3 else 2) else 1
def runB (nt : Network) (s : State) (caps : List Int) (most : Int) : State × Int := (runT nt (some caps) most s, bndW nt (runT nt (some caps) most s) caps)
noncomputable def runBounded (nt : Network) (s : State) (caps : List Int) (most : Int) : State × Int := if okSt nt s && okC nt.2 caps then runB nt s caps most else (([], ([], ([], 0))), 0)
theorem iRunBounded_spec {n : Nat} {nt : Network} {s : State} {caps : List Int} {most : Int} (h : SmallN nt) (hs : SmallSt s) (hc : caps.length ≤ 1048576) (hn : 1048576 < n) : iRunBounded.f n nt s caps most = some ((runBounded nt s caps most).1, ((runBounded nt s caps most).2, ())) := by
  unfold iRunBounded.f runBounded
  rw [iBounded_spec h hs hc hn]
  cases e : okSt nt s && okC nt.2 caps
  · rfl
  · rw [Bool.and_eq_true] at e
    have o := okSt_of e.1
    have hcl := okC_len e.2
    simp only [Option.bind_some, Bool.not_true, br_false, if_true]
    refine W_eq.1 (W_bind.2 (W_and (boundedRun_spec o hs hc hn) (fun r ⟨R, e⟩ => W_eq.2 ?_)))
    obtain ⟨r1, r2, r3, r4, r5, r6, r7, r8, r9, ⟨⟩⟩ := r
    have e : r4 = some caps := e
    subst e
    obtain ⟨e1, e2, T, F⟩ := R
    have e1 : (r1, r2) = nt := e1
    have e2 : (r5, (r6, (r7, r3))) = s := e2
    subst e1 e2
    have R : IsRun (r1, r2) (r5, (r6, (r7, r3))) ((r1, r2), ((r5, (r6, (r7, r3))), (r8, (r9, some caps)))) := ⟨rfl, rfl, T, F⟩
    have ht := turns_spec (n := n) (most := most) R o (fun c h => by cases h; exact hcl) hn
    simp only at ht ⊢
    rw [ht]
    unfold runB
    generalize hr : runT (r1, r2) (some caps) most (r5, (r6, (r7, r3))) = t
    have ot : OkSt (r1, r2) t := by rw [← hr]; exact runT_ok o
    have R' : IsRun (r1, r2) t ((r1, r2), (t, (r8, (r9, some caps)))) := R.step
    have hq : quiet.f n ((r1, r2), ((t.1, (t.2.1, (t.2.2.1, t.2.2.2))), (r8, (r9, some caps)))) = some (!anyCan (r1, r2) t, ()) := quiet_spec R' ot hn
    have hk : stuck.f n ((r1, r2), ((t.1, (t.2.1, (t.2.2.1, t.2.2.2))), (r8, (r9, some caps)))) = some (!anyMay (r1, r2) t caps, ()) := stuck_spec R' ot hcl rfl hn
    simp only [Option.bind_some]
    unfold iBound.f
    rw [hq, hk]
    unfold bndW
    cases anyCan (r1, r2) t
    · rfl
    · cases anyMay (r1, r2) t caps <;> rfl
end Go.AmT
