/- Values that are marked, in plain Lean: each number gets the next one, and is held to be it. -/
import Derived.Test.YtgddbcdkhfdojaaDoorAmE
namespace Go.AmT
open Go Go.Am
set_option linter.unusedVariables false
set_option linter.unusedSimpArgs false

theorem iter_line {γ ρ : Type} {F : (γ → Option ρ) → γ → Option ρ} (st : Nat → γ) (len : Nat) {R : Option ρ} (h1 : ∀ ih i, i < len → F ih (st i) = ih (st (i + 1))) (h2 : ∀ ih, F ih (st len) = R) {n : Nat} (hn : len < n) : iter n F (st 0) = R := by
  have : ∀ k i, i + k = len → ∀ n, k < n → iter n F (st i) = R := by
    intro k
    induction k with
    | zero => intro i e n hn; obtain ⟨m, rfl⟩ : ∃ m, n = m + 1 := ⟨n - 1, by omega⟩; rw [show i = len by omega]; exact h2 _
    | succ k ih => intro i e n hn; obtain ⟨m, rfl⟩ : ∃ m, n = m + 1 := ⟨n - 1, by omega⟩; exact (h1 _ i (by omega)).trans (ih (i + 1) (by omega) m (by omega))
  exact this len 0 (by omega) n hn

theorem bind_unit {ρ β : Type} {x : β} {f : β → Option ρ} : (some x).bind f = f x := rfl
theorem maxB_eq : (maxB : Int) = 140737488355328 := rfl
variable {α : Type} {f : α → Int → α × Int}
end Go.AmT
