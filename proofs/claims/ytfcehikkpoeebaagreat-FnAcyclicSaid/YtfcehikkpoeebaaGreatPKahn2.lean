/- Runs of a network, in plain Lean: how far each process has come tells the state; what can be done goes on being possible. -/
import Derived.Test.YtfcehikkpoeebaaGreatPKahn
namespace Go.AmT
open Go Go.Am
set_option linter.unusedVariables false
set_option linter.unusedSimpArgs false

/-- steps that were made, each by a process that might make it; and how many each process made -/
inductive Steps (nt : Network) (g : State → Nat → Bool) (s0 : State) : State → (Nat → Nat) → Prop
  | refl : Steps nt g s0 s0 (fun _ => 0)
  | step {s : State} {m : Nat → Nat} {k : Nat} : Steps nt g s0 s m → k < nt.1.length → g s k = true → canP nt s k = true → Steps nt g s0 (stepP nt s k) (upd m k (m k + 1))

section
variable {nt : Network} {g : State → Nat → Bool} {s0 s t : State} {m mt : Nat → Nat}
theorem Steps.ok (o : OkSt nt s0) (S : Steps nt g s0 s m) : OkSt nt s := by
  induction S with
  | refl => exact o
  | step _ hk _ hc ih => exact stepP_ok ih hk hc
theorem Steps.run (o : OkSt nt s0) (S : Steps nt g s0 s m) : ∀ k, k < nt.1.length → lrun (prog nt k) (inF nt (sent s) k) (m k) (lc nt s0 k) = some (lc nt s k) := by
  induction S with
  | refl => intro k hk; rfl
  | @step s m k S hk _ hc ih =>
    intro j hj
    have os := S.ok o
    have hg := sent_grows os hk
    have h1 := lrun_mono (inF_mono (nt := nt) (k := j) hg) (ih j hj)
    by_cases h : j = k
    · subst h
      rw [upd_same]
      show (lrun _ _ _ _).bind _ = _
      rw [h1]
      exact lstep_mono (inF_mono hg) (step_own os hj hc)
    · rw [upd_ne h, step_other os hk hj hc h]
      exact h1
def total (m : Nat → Nat) : Nat → Nat
  | 0 => 0
  | K + 1 => total m K + m K
theorem total_upd {m : Nat → Nat} {k : Nat} : ∀ {K : Nat}, total (upd m k (m k + 1)) K = total m K + if k < K then 1 else 0
  | 0 => by simp [total]
  | K + 1 => by
    show total _ K + upd m k (m k + 1) K = total m K + m K + _
    rw [total_upd]
    by_cases h : K = k
    · subst h; rw [upd_same]
      simp; omega
    · rw [upd_ne h]
      by_cases h1 : k < K
      · rw [if_pos h1, if_pos (by omega)]; omega
      · rw [if_neg h1, if_neg (by omega)]; omega
theorem Steps.count (S : Steps nt g s0 s m) : s.2.2.2 = s0.2.2.2 + (total m nt.1.length : Int) := by
  induction S with
  | refl =>
    have : ∀ K, total (fun _ => 0) K = 0 := by
      intro K
      induction K with
      | zero => rfl
      | succ K ih => show total (fun _ => 0) K + 0 = 0; omega
    rw [this]; simp
  | @step s m k S hk _ hc ih =>
    rw [total_upd, if_pos hk]
    show s.2.2.2 + 1 = _
    rw [ih]; omega
theorem Steps.mono {g' : State → Nat → Bool} (h : ∀ s k, g s k = true → g' s k = true) (S : Steps nt g s0 s m) : Steps nt g' s0 s m := by
  induction S with
  | refl => exact .refl
  | step S hk hg hc ih => exact .step ih hk (h _ _ hg) hc
theorem Steps.trans (A : Steps nt g s0 s m) (B : Steps nt g s t mt) : Steps nt g s0 t (fun k => m k + mt k) := by
  induction B with
  | refl => exact A
  | @step u mu k B hk hg hc ih =>
    have := Steps.step ih hk hg hc
    have e : upd (fun j => m j + mu j) k ((fun j => m j + mu j) k + 1) = fun j => m j + upd mu k (mu k + 1) j := by
      funext j
      by_cases h : j = k
      · subst h; rw [upd_same, upd_same]; simp only; omega
      · rw [upd_ne h, upd_ne h]
    rw [e] at this
    exact this

/-! ### links, seen from processes -/
/-! ### what can be done goes on being possible -/
end
end Go.AmT
