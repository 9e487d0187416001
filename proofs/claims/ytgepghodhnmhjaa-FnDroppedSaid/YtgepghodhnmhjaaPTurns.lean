/- Runs in turns, in plain Lean: a loop that lets each step in its turn, in both ways in which it is written. -/
import Derived.Test.YtgepghodhnmhjaaAmD
namespace Go.AmT
open Go Go.Am
set_option linter.unusedVariables false
set_option linter.unusedSimpArgs false

section
variable {σ : Type} (g : σ → Nat → Bool) (st : σ → Nat → σ) (most : Int)
def one (x : Int × σ) (k : Nat) : Int × σ := if x.1 < most ∧ g x.2 k = true then (x.1 + 1, st x.2 k) else x
variable {g st most} {K : Nat} {J : Int × σ → Prop} {μ : Int × σ → Nat}
variable {γ δ ρ : Type}
end
section
variable {σ : Type} {g : σ → Nat → Bool} {st : σ → Nat → σ} {m1 m2 : Int} {K : Nat} {J : Int × σ → Prop} {μ : Int × σ → Nat}
end
/-! ### loops that go on as long as something holds -/
section
variable {α γ ρ : Type} (c : α → Bool) (f : α → α)
variable {c f}
end
end Go.AmT
