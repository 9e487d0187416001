/- Networks that are drawn, in plain Lean: they are valid. -/
import Derived.Test.YtgepghodhnmhjaaPGen
namespace Go.AmT
open Go Go.Am
set_option linter.unusedVariables false
set_option linter.unusedSimpArgs false

/-- ports that are free yet -/
def Free (m : Int) (l : List (List Int)) : Prop := (l.length : Int) ≤ m ∧ ∀ x ∈ l, x.length = 2
theorem Free.le {m m' : Int} {l : List (List Int)} (h : Free m l) (hm : m ≤ m') : Free m' l := ⟨Int.le_trans h.1 hm, h.2⟩
/-- links that were drawn -/
def LkSm (m : Int) (l : List Link) : Prop := (l.length : Int) ≤ m ∧ ∀ x ∈ l, Toks 8 x.2.2.2.2
theorem LkSm.le {m m' : Int} {l : List Link} (h : LkSm m l) (hm : m ≤ m') : LkSm m' l := ⟨Int.le_trans h.1 hm, h.2⟩
/-- a network that was drawn -/
structure NetSm (m : Nat) (nt : Network) : Prop where
  ok : OkN nt
  progs : nt.1.length ≤ m
  toks : ∀ l ∈ nt.2, Toks 8 l.2.2.2.2
  drawn : ∀ p ∈ nt.1, PrSm p
end Go.AmT
