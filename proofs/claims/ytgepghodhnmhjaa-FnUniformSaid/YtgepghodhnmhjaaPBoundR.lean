/- Runs with capacities, in plain Lean: both programs make the same. -/
import Derived.Test.YtgepghodhnmhjaaLBoundR
namespace Go.AmT
open Go Go.Am
set_option linter.unusedVariables false
set_option linter.unusedSimpArgs false

def bndW (nt : Network) (s : State) (caps : List Int) : Int := if anyCan nt s = true then (if anyMay nt s caps = true then 3 else 2) else 1
def runB (nt : Network) (s : State) (caps : List Int) (most : Int) : State × Int := (runT nt (some caps) most s, bndW nt (runT nt (some caps) most s) caps)
theorem some_if {n : Nat} {nt : Network} {s : State} {caps : List Int} {made most : Int} (o : OkSt nt s) (hc : caps.length = nt.2.length) (hn : 1048576 < n) {ρ : Type} (X Y : Option ρ) :
    cut (α := Bool × Unit) ((sL6Some.f n nt s caps).bind fun r => br r.1 (some (.inr ((decide (made < most)), ()))) (some (.inr (false, ())))) (fun y => br y.1 X Y) = if (List.range nt.1.length).any (mayO nt (some caps) s) = true ∧ made < most then X else Y := by
  rw [sL6Some_spec o hc hn]
  show _ = if anyMay nt s caps = true ∧ made < most then _ else _
  simp only [Option.bind_some]
  cases anyMay nt s caps
  · simp only [br_false, cut_inr, Bool.false_eq_true, false_and, if_false]
  · simp only [br_true, cut_inr, true_and, brd]
theorem sL6Run_spec {n : Nat} {nt : Network} {s : State} {caps : List Int} {most : Int} (o : OkSt nt s) (hc : caps.length = nt.2.length) (hn : 1048576 < n) :
    sL6Run.f n nt.1 nt.2 s.2.2.2 caps most s.1 s.2.1 s.2.2.1 = some ((runB nt s caps most).1.2.2.2, ((runB nt s caps most).2, ((runB nt s caps most).1.1, ((runB nt s caps most).1.2.1, ((runB nt s caps most).1.2.2.1, ()))))) := by
  have hp := o.net.progs
  unfold sL6Run.f runB runT
  refine turnsS_loop (g := mayO nt (some caps)) (st := stepP nt) (most := most) (K := nt.1.length) (J := JS nt) (μ := muS) (good_of (fun _ _ => mayO_can)) (fun _ => muS_le)
    (fun made s => (made, (s.2.2.2, (s.1, (s.2.1, (s.2.2.1, ())))))) (fun made k s => (made, ((k : Int), (s.2.2.2, (s.1, (s.2.1, (s.2.2.1, ())))))))
    (G := fun _ s => some (s.2.2.2, (bndW nt s caps, (s.1, (s.2.1, (s.2.2.1, ())))))) (fun ih made s h => ?_) (by omega) (by omega) (x := (0, s)) ⟨o, Int.le_refl _, o.steps.1⟩
  refine ⟨_, (some_if (s := s) (made := made) (most := most) h.1 hc hn _ _).trans (ite_else ?_), fun ihi made k s h hk hm => ?_, fun ihi made k s h hk hm => ?_⟩
  · have o : OkSt nt s := h.1
    have e1 : sL6Some.f n (nt.1, nt.2) (s.1, (s.2.1, (s.2.2.1, s.2.2.2))) caps = some (anyMay nt s caps, ()) := sL6Some_spec o hc hn
    have e2 := first_end (n := n) (s := s) o hn (fun b => br b (some (s.2.2.2, ((1 : Int), (s.1, (s.2.1, (s.2.2.1, ())))))) ((sL6Some.f n (nt.1, nt.2) (s.1, (s.2.1, (s.2.2.1, s.2.2.2))) caps).bind fun r67 => br (!r67.1) (some (s.2.2.2, (2, (s.1, (s.2.1, (s.2.2.1, ())))))) (some (s.2.2.2, (3, (s.1, (s.2.1, (s.2.2.1, ()))))))))
    refine e2.trans ?_
    rw [e1]
    unfold bndW
    cases anyCan nt s
    · rfl
    · cases anyMay nt s caps <;> rfl
  · have c1 : (k : Int) < (nt.1.length : Int) := by omega
    have hcc : sL6Can.f n (nt.1, nt.2) (s.1, (s.2.1, (s.2.2.1, s.2.2.2))) caps (k : Int) = some (mayP nt s caps k, ()) := sL6Can_spec h.1 hc hk hn
    have hle := h.le
    simp only [br_yes c1, cut_inr, decide_eq_true hm, br_true, hcc, Option.bind_some]
    show _ = if mayP nt s caps k = true then _ else _
    cases hg : mayP nt s caps k
    · simp only [br_false, Bool.false_eq_true, if_false]
      rw [w64_succ (by omega)]
    · simp only [br_true, if_true]
      rw [sL5Step_spec h.1 (small_of_ok h.1) hk (may_can hg) hn]
      simp only [Option.bind_some]
      rw [w64_succ (by omega), w64_id (n := made + 1) (by simp only at hle; omega) (by simp only at hle; omega)]
  · by_cases c1 : (k : Int) < (nt.1.length : Int)
    · have hm : ¬ made < most := fun h => hm ⟨by omega, h⟩
      simp only [br_yes c1, cut_inr, decide_eq_false hm, br_false]
    · simp only [br_no c1, cut_inr, br_false]
noncomputable def runBounded (nt : Network) (s : State) (caps : List Int) (most : Int) : State × Int := if okSt nt s && okC nt.2 caps then runB nt s caps most else (([], ([], ([], 0))), 0)
theorem iRunBounded_spec {n : Nat} {nt : Network} {s : State} {caps : List Int} {most : Int} (h : SmallN nt) (hs : SmallSt s) (hc : caps.length ≤ 1048576) (hn : 1048576 < n) : iRunBounded.f n nt s caps most = some ((runBounded nt s caps most).1, ((runBounded nt s caps most).2, ())) := by
  unfold iRunBounded.f runBounded
  rw [iBounded_spec h hs hc hn]
  cases e : okSt nt s && okC nt.2 caps
  · rfl
  · rw [Bool.and_eq_true] at e
    have o := okSt_of e.1
    have hcl := okC_len e.2
    simp only [Option.bind_some, Bool.not_true, br_false, if_true]
    refine W_eq.1 (W_bind.2 (W_and (boundedRun_spec o hs hc hn) (fun r ⟨R, e⟩ => W_eq.2 ?_)))
    obtain ⟨r1, r2, r3, r4, r5, r6, r7, r8, r9, ⟨⟩⟩ := r
    have e : r4 = some caps := e
    subst e
    obtain ⟨e1, e2, T, F⟩ := R
    have e1 : (r1, r2) = nt := e1
    have e2 : (r5, (r6, (r7, r3))) = s := e2
    subst e1 e2
    have R : IsRun (r1, r2) (r5, (r6, (r7, r3))) ((r1, r2), ((r5, (r6, (r7, r3))), (r8, (r9, some caps)))) := ⟨rfl, rfl, T, F⟩
    have ht := turns_spec (n := n) (most := most) R o (fun c h => by cases h; exact hcl) hn
    simp only at ht ⊢
    rw [ht]
    unfold runB
    generalize hr : runT (r1, r2) (some caps) most (r5, (r6, (r7, r3))) = t
    have ot : OkSt (r1, r2) t := by rw [← hr]; exact runT_ok o
    have R' : IsRun (r1, r2) t ((r1, r2), (t, (r8, (r9, some caps)))) := R.step
    have hq : quiet.f n ((r1, r2), ((t.1, (t.2.1, (t.2.2.1, t.2.2.2))), (r8, (r9, some caps)))) = some (!anyCan (r1, r2) t, ()) := quiet_spec R' ot hn
    have hk : stuck.f n ((r1, r2), ((t.1, (t.2.1, (t.2.2.1, t.2.2.2))), (r8, (r9, some caps)))) = some (!anyMay (r1, r2) t caps, ()) := stuck_spec R' ot hcl rfl hn
    simp only [Option.bind_some]
    unfold iBound.f
    rw [hq, hk]
    unfold bndW
    cases anyCan (r1, r2) t
    · rfl
    · cases anyMay (r1, r2) t caps <;> rfl
theorem runB_ok {nt : Network} {s : State} {caps : List Int} {most : Int} (o : OkSt nt s) : OkSt nt (runB nt s caps most).1 := runT_ok o
theorem runBounded_small {nt : Network} {s : State} {caps : List Int} {most : Int} : SmallSt (runBounded nt s caps most).1 := by
  unfold runBounded
  split
  · rename_i h
    rw [Bool.and_eq_true] at h
    exact small_of_ok (runB_ok (okSt_of h.1))
  · exact zSt_small
end Go.AmT
