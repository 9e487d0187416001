/- Values that are marked, in plain Lean: each number gets the next one, and is held to be it. -/
import Derived.Test.YtgibfifokpnnjaaAmD
namespace Go.AmT
open Go Go.Am
set_option linter.unusedVariables false
set_option linter.unusedSimpArgs false

theorem bind_unit {ρ β : Type} {x : β} {f : β → Option ρ} : (some x).bind f = f x := rfl
theorem getD_set_same {α : Type} {l : List α} {i : Nat} (h : i < l.length) (x z : α) : (l.set i x).getD i z = x := by simp [h]

variable {α : Type} {f : α → Int → α × Int}
end Go.AmT
