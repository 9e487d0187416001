/- One step of a network, by both programs, in plain Lean; two steps that can be made can be made in any order. -/
import Derived.Test.YtcipidfgblbeiaaLStepN
import Derived.Test.YtcipidfgblbeiaaPFmtS
import Derived.Test.YtcipidfgblbeiaaPKahn3
namespace Go.AmT
open Go Go.Am
set_option linter.unusedVariables false
set_option linter.unusedSimpArgs false

def canZ (nt : Network) (s : State) (k : Int) : Bool := decide (0 ≤ k ∧ k < (nt.1.length : Int) ∧ canP nt s k.toNat = true)
theorem canZ_nat {nt : Network} {s : State} {k : Nat} (hk : k < nt.1.length) : canZ nt s (k : Int) = canP nt s k := by
  unfold canZ
  rw [Int.toNat_natCast]
  cases h : canP nt s k
  · rw [decide_eq_false (by simp)]
  · rw [decide_eq_true ⟨by omega, by omega, rfl⟩]
theorem iCanStep_spec {n : Nat} {nt : Network} {s : State} {k : Int} (h : SmallN nt) (o : OkSt nt s) (hn : 1048576 < n) : iCanStep.f n nt s k = some (canZ nt s k, ()) := by
  have hs := small_of_ok o
  unfold iCanStep.f
  rw [iIsState_spec h hs hn, okSt_true o]
  simp only [Option.bind_some, Bool.not_true, br_false]
  refine W_eq.1 (W_bind.2 (W_and (newRun_spec (caps := none) o.net hs hn) (fun r ⟨to, fr, e, T, F⟩ => W_eq.2 ?_)))
  subst e
  have R : IsRun nt s (nt, (s, (to, (fr, none)))) := ⟨rfl, rfl, T, F⟩
  unfold isProcess.f canZ
  by_cases h0 : 0 ≤ k
  · obtain ⟨j, rfl⟩ : ∃ j : Nat, k = (j : Int) := ⟨k.toNat, by omega⟩
    rw [br_yes h0]
    by_cases h1 : (j : Int) < (nt.1.length : Int)
    · have hc : can.f n ((nt.1, nt.2), ((s.1, (s.2.1, (s.2.2.1, s.2.2.2))), (to, (fr, (none : Option (List Int)))))) (j : Int) = some (canP nt s j, ()) := can_spec R o (by omega)
      simp only [Option.bind_some, h1, decide_true, br_true, hc, Int.toNat_natCast]
      cases canP nt s j
      · rw [decide_eq_false (by simp)]
      · rw [decide_eq_true ⟨h0, trivial, rfl⟩]
    · simp only [Option.bind_some, h1, decide_false, br_false]
      rw [decide_eq_false (fun hh => hh.2.1)]
  · rw [br_no h0, decide_eq_false (fun hh => h0 hh.1)]; rfl
theorem sCanStep_spec {n : Nat} {nt : Network} {s : State} {k : Nat} (h : SmallN nt) (o : OkSt nt s) (hk : k < nt.1.length) (hn : 1048576 < n) : sCanStep.f n nt s (k : Int) = some (canP nt s k, ()) := by
  have hs := small_of_ok o
  unfold sCanStep.f sL3Has.f
  rw [sIsState_spec h hs hn, okSt_true o]
  simp only [Option.bind_some, br_true, br_yes (Int.natCast_nonneg k), decide_eq_true (show (k : Int) < (nt.1.length : Int) by omega), sL5Can_spec o hk hn]
theorem iStepN_spec {n : Nat} {nt : Network} {s : State} {k : Int} (h : SmallN nt) (o : OkSt nt s) (hn : 1048576 < n) :
    iStepN.f n nt s k = some (if canZ nt s k = true then (stepP nt s k.toNat, (true, ())) else (([], ([], ([], 0))), (false, ()))) := by
  have hs := small_of_ok o
  unfold iStepN.f
  rw [iCanStep_spec h o hn, bind_unit]
  cases hc : canZ nt s k
  · rfl
  · simp only [Bool.not_true, br_false]
    have hc' := hc
    unfold canZ at hc'
    simp only [decide_eq_true_eq] at hc'
    obtain ⟨h0, h1, h2⟩ := hc'
    obtain ⟨j, rfl⟩ : ∃ j : Nat, k = (j : Int) := ⟨k.toNat, by omega⟩
    rw [Int.toNat_natCast] at h2 ⊢
    refine W_eq.1 (W_bind.2 (W_and (newRun_spec (caps := none) o.net hs hn) (fun r ⟨to, fr, e, T, F⟩ => W_eq.2 ?_)))
    subst e
    have R : IsRun nt s (nt, (s, (to, (fr, none)))) := ⟨rfl, rfl, T, F⟩
    have hr := runStep_spec (n := n) R o hs (by omega) h2 hn
    simp only at hr ⊢
    rw [hr]; rfl
/-- two steps that can be made -/
theorem diamond {nt : Network} {s : State} {i k : Nat} (o : OkSt nt s) (hi : i < nt.1.length) (hk : k < nt.1.length) (hik : k ≠ i) (h20 : s.2.2.2 + 1 < 20000) (ci : canP nt s i = true) (ck : canP nt s k = true) :
    canP nt (stepP nt s i) k = true ∧ canP nt (stepP nt s k) i = true ∧ stepP nt (stepP nt s i) k = stepP nt (stepP nt s k) i := by
  have oi := stepP_ok o hi ci
  have ok := stepP_ok o hk ck
  have si := sent_grows (k := i) o hi
  have sk := sent_grows (k := k) o hk
  have li : lc nt (stepP nt s k) i = lc nt s i := step_other o hk hi ck (fun e => hik e.symm)
  have lk : lc nt (stepP nt s i) k = lc nt s k := step_other o hi hk ci hik
  have c1 : canP nt (stepP nt s i) k = true := can_later o oi hk lk.symm si ck h20
  have c2 : canP nt (stepP nt s k) i = true := can_later o ok hi li.symm sk ci h20
  refine ⟨c1, c2, st_of_lc (stepP_ok oi hk c1) (stepP_ok ok hi c2) (fun j hj => ?_) rfl⟩
  by_cases h1 : j = i
  · subst h1
    rw [step_other oi hk hj c1 (fun e => hik e.symm)]
    have e1 := lstep_mono (inF_mono (nt := nt) (k := j) sk) (step_own o hj ci)
    have e2 := step_own ok hj c2
    rw [li, e1] at e2
    exact Option.some.inj e2
  · by_cases h2 : j = k
    · subst h2
      rw [step_other ok hi hj c2 (fun e => hik e)]
      have e1 := lstep_mono (inF_mono (nt := nt) (k := j) si) (step_own o hj ck)
      have e2 := step_own oi hj c1
      rw [lk, e1] at e2
      exact (Option.some.inj e2).symm
    · rw [step_other oi hk hj c1 h2, step_other o hi hj ci h1, step_other ok hi hj c2 h1, step_other o hk hj ck h2]
end Go.AmT
