/- Networks, in plain Lean: both programs tell the same networks valid. -/
import Derived.Test.YtgddbcdkhfdojaaDoorPNet
import Derived.Test.YtgddbcdkhfdojaaDoorAmE
namespace Go.AmT
open Go Go.Am
set_option linter.unusedVariables false
set_option linter.unusedSimpArgs false

/-! ### what a valid network is -/
def isTo (p k : Int) (l : Link) : Bool := decide (l.2.2.1 = p) && decide (l.2.2.2.1 = k)
def isFrom (p k : Int) (l : Link) : Bool := decide (l.1 = p) && decide (l.2.1 = k)
def OutOk (nt : Network) (l : Link) : Prop := 0 ≤ l.1 ∧ l.1 < (nt.1.length : Int) ∧ 0 ≤ l.2.1 ∧ l.2.1 < (nt.1.getD l.1.toNat zProgram).2.1
def InOk (nt : Network) (l : Link) : Prop := 0 ≤ l.2.2.1 ∧ l.2.2.1 < (nt.1.length : Int) ∧ 0 ≤ l.2.2.2.1 ∧ l.2.2.2.1 < (nt.1.getD l.2.2.1.toNat zProgram).1
structure EndOk (nt : Network) (l : Link) : Prop where
  out : l.1 = -1 ∧ l.2.1 = 0 ∨ OutOk nt l
  inn : l.2.2.1 = -1 ∧ l.2.2.2.1 = 0 ∨ InOk nt l
  one : ¬ (l.1 = -1 ∧ l.2.2.1 = -1)
structure OkN (nt : Network) : Prop where
  progs : nt.1.length ≤ 12
  links : nt.2.length ≤ 30
  prog : ∀ (i : Nat) (hi : i < nt.1.length), okP nt.1[i] = true
  ends : ∀ (i : Nat) (hi : i < nt.2.length), EndOk nt nt.2[i]
  toks : ∀ (i : Nat) (hi : i < nt.2.length), okS nt.2[i].2.2.2.2 = true
  ins : ∀ (i : Nat) (hi : i < nt.1.length) (k : Nat), (k : Int) < nt.1[i].1 → nt.2.countP (isTo i k) = 1
  outs : ∀ (i : Nat) (hi : i < nt.1.length) (k : Nat), (k : Int) < nt.1[i].2.1 → nt.2.countP (isFrom i k) = 1

noncomputable instance (nt : Network) : Decidable (OkN nt) := Classical.propDecidable _
noncomputable instance (nt : Network) (l : Link) : Decidable (EndOk nt l) := Classical.propDecidable _
instance (nt : Network) (l : Link) : Decidable (OutOk nt l) := by unfold OutOk; exact inferInstance
instance (nt : Network) (l : Link) : Decidable (InOk nt l) := by unfold InOk; exact inferInstance
/-! ### the one program -/
/-! ### the other program: ends are counted -/
end Go.AmT
