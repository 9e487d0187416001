/- States, in plain Lean: both programs tell the same states valid. -/
import Derived.Test.YtgepghodhnmhjaaLSt
import Derived.Test.YtgepghodhnmhjaaPCap
namespace Go.AmT
open Go Go.Am
set_option linter.unusedVariables false
set_option linter.unusedSimpArgs false

/-! ### sizes, copies, equality -/
theorem Left.mono {left left' : Int} {o : Option (Int × Unit)} {P : Prop} (h : Left left o P) (hl : left ≤ left') : Left left' o P := by
  obtain ⟨r, e, r1, r2⟩ := h
  exact ⟨r, e, by omega, r2⟩
/-! ### prefixes -/
/-! ### valid states -/
def okA (p : Program) (a : Actor) : Bool := decide (0 ≤ a.1) && (decide (a.1 ≤ (p.2.2.length : Int)) && (decide (a.2.length = 4) && okS a.2))
structure LinkSt (l : Link) (q h : List Int) : Prop where
  qs : okS q = true
  hs : okS h = true
  pre : l.2.2.2.2 <+: h
  suf : q <:+ h
  inp : l.1 = -1 → h.length = l.2.2.2.2.length
  out : l.2.2.1 = -1 → h.length = q.length
noncomputable instance (l : Link) (q h : List Int) : Decidable (LinkSt l q h) := Classical.propDecidable _
structure OkSt (nt : Network) (s : State) : Prop where
  net : OkN nt
  na : s.1.length = nt.1.length
  nq : s.2.1.length = nt.2.length
  ns : s.2.2.1.length = nt.2.length
  steps : 0 ≤ s.2.2.2 ∧ s.2.2.2 ≤ 20000
  act : ∀ i, i < nt.1.length → okA (nt.1.getD i zProgram) (s.1.getD i zActor) = true
  lnk : ∀ i, i < nt.2.length → LinkSt (nt.2.getD i zLink) (s.2.1.getD i []) (s.2.2.1.getD i [])
noncomputable instance (nt : Network) (s : State) : Decidable (OkSt nt s) := Classical.propDecidable _
end Go.AmT
