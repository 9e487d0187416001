/- One step of a network, by both programs, in plain Lean; two steps that can be made can be made in any order. -/
import Derived.Test.YtgepghodhnmhjaaLStepN
import Derived.Test.YtgepghodhnmhjaaPFmtS
import Derived.Test.YtgepghodhnmhjaaPKahn3
namespace Go.AmT
open Go Go.Am
set_option linter.unusedVariables false
set_option linter.unusedSimpArgs false

def canZ (nt : Network) (s : State) (k : Int) : Bool := decide (0 ≤ k ∧ k < (nt.1.length : Int) ∧ canP nt s k.toNat = true)
theorem iCanStep_spec {n : Nat} {nt : Network} {s : State} {k : Int} (h : SmallN nt) (o : OkSt nt s) (hn : 1048576 < n) : iCanStep.f n nt s k = some (canZ nt s k, ()) := by
  have hs := small_of_ok o
  unfold iCanStep.f
  rw [iIsState_spec h hs hn, okSt_true o]
  simp only [Option.bind_some, Bool.not_true, br_false]
  refine W_eq.1 (W_bind.2 (W_and (newRun_spec (caps := none) o.net hs hn) (fun r ⟨to, fr, e, T, F⟩ => W_eq.2 ?_)))
  subst e
  have R : IsRun nt s (nt, (s, (to, (fr, none)))) := ⟨rfl, rfl, T, F⟩
  unfold isProcess.f canZ
  by_cases h0 : 0 ≤ k
  · obtain ⟨j, rfl⟩ : ∃ j : Nat, k = (j : Int) := ⟨k.toNat, by omega⟩
    rw [br_yes h0]
    by_cases h1 : (j : Int) < (nt.1.length : Int)
    · have hc : can.f n ((nt.1, nt.2), ((s.1, (s.2.1, (s.2.2.1, s.2.2.2))), (to, (fr, (none : Option (List Int)))))) (j : Int) = some (canP nt s j, ()) := can_spec R o (by omega)
      simp only [Option.bind_some, h1, decide_true, br_true, hc, Int.toNat_natCast]
      cases canP nt s j
      · rw [decide_eq_false (by simp)]
      · rw [decide_eq_true ⟨h0, trivial, rfl⟩]
    · simp only [Option.bind_some, h1, decide_false, br_false]
      rw [decide_eq_false (fun hh => hh.2.1)]
  · rw [br_no h0, decide_eq_false (fun hh => h0 hh.1)]; rfl
theorem iStepN_spec {n : Nat} {nt : Network} {s : State} {k : Int} (h : SmallN nt) (o : OkSt nt s) (hn : 1048576 < n) :
    iStepN.f n nt s k = some (if canZ nt s k = true then (stepP nt s k.toNat, (true, ())) else (([], ([], ([], 0))), (false, ()))) := by
  have hs := small_of_ok o
  unfold iStepN.f
  rw [iCanStep_spec h o hn, bind_unit]
  cases hc : canZ nt s k
  · rfl
  · simp only [Bool.not_true, br_false]
    have hc' := hc
    unfold canZ at hc'
    simp only [decide_eq_true_eq] at hc'
    obtain ⟨h0, h1, h2⟩ := hc'
    obtain ⟨j, rfl⟩ : ∃ j : Nat, k = (j : Int) := ⟨k.toNat, by omega⟩
    rw [Int.toNat_natCast] at h2 ⊢
    refine W_eq.1 (W_bind.2 (W_and (newRun_spec (caps := none) o.net hs hn) (fun r ⟨to, fr, e, T, F⟩ => W_eq.2 ?_)))
    subst e
    have R : IsRun nt s (nt, (s, (to, (fr, none)))) := ⟨rfl, rfl, T, F⟩
    have hr := runStep_spec (n := n) R o hs (by omega) h2 hn
    simp only at hr ⊢
    rw [hr]; rfl
end Go.AmT
