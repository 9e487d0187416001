/- Least streams, in plain Lean: they are made of themselves, below all that are, and runs come to them. -/
import Derived.Test.YtcipidfgblbeiaaPKahn2
namespace Go.AmT
open Go Go.Am
set_option linter.unusedVariables false
set_option linter.unusedSimpArgs false

def c0 : Lc := (newA, fun _ => [], fun _ => 0)
theorem sent_start (nt : Network) (j : Nat) : sent (start nt) j = toks nt j := by
  unfold sent toks lnk start
  rcases Nat.lt_or_ge j nt.2.length with h | h
  · simp [h]
  · simp only [List.getD_eq_getElem?_getD, List.getElem?_map, List.getElem?_eq_none h]; rfl
/-! ### a process that is run as far as it goes -/
def stopB (p : Program) (I : Nat → List Int) (c : Lc) : Bool :=
  decide ((wantP p c.1).1 = 0) || (decide ((wantP p c.1).1 = 2) && decide (c.2.2 (wantP p c.1).2.toNat = (I (wantP p c.1).2.toNat).length)) || (decide ((wantP p c.1).1 = 3) && decide ((c.2.1 (wantP p c.1).2.toNat).length = 400))
def al (p : Program) (I : Nat → List Int) : Nat → Lc → Lc × Int × Int
  | 0, c => if stopB p I c = true then (c, wantP p c.1) else (c, 1, 0)
  | f + 1, c => if stopB p I c = true then (c, wantP p c.1) else al p I f ((lstep p I c).getD c)
/-! ### rounds -/
section
variable {nt : Network}
/-! ### runs come to them -/
variable {g : State → Nat → Bool} {s0 s : State} {m : Nat → Nat} {h : Nat → List Int}
end
end Go.AmT
