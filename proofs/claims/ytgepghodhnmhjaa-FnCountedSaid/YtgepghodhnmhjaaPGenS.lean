/- States and capacities that are drawn, in plain Lean: they are valid. -/
import Derived.Test.YtgepghodhnmhjaaLGenS
import Derived.Test.YtgepghodhnmhjaaPGenN
import Derived.Test.YtgepghodhnmhjaaPStart
namespace Go.AmT
open Go Go.Am
set_option linter.unusedVariables false
set_option linter.unusedSimpArgs false

def Rch (nt : Network) (s : State) : Prop := ∀ J : State → Prop, J (start nt) → (∀ s k, J s → k < nt.1.length → canP nt s k = true → J (stepP nt s k)) → J s
theorem Rch.start (nt : Network) : Rch nt (start nt) := fun J h _ => h
theorem Rch.step {nt : Network} {s : State} {k : Nat} (R : Rch nt s) (hk : k < nt.1.length) (hc : canP nt s k = true) : Rch nt (stepP nt s k) := fun J h1 h2 => h2 s k (R J h1 h2) hk hc
theorem Rch.ok {nt : Network} {s : State} (o : OkN nt) (R : Rch nt s) : OkSt nt s := R (OkSt nt) (start_ok o) (fun s k h hk hc => stepP_ok h hk hc)
/-- capacities that were drawn -/
def CapSm (nt : Network) (caps : List Int) : Prop := caps.length = nt.2.length ∧ ∀ j, j < nt.2.length → ((nt.2.getD j zLink).2.2.2.2.length : Int) ≤ caps.getD j 0 ∧ caps.getD j 0 ≤ ((nt.2.getD j zLink).2.2.2.2.length : Int) + 3
theorem CapSm.ok {m : Nat} {nt : Network} {caps : List Int} (hN : NetSm m nt) (h : CapSm nt caps) : okC nt.2 caps = true := by
  unfold okC
  simp only [Bool.and_eq_true, decide_eq_true_eq, List.all_eq_true, List.mem_range]
  refine ⟨h.1, fun j hj => ?_⟩
  rw [h.1] at hj
  have h2 := h.2 j hj
  have e1 : nt.2.getD j zLink = nt.2[j] := getD_lt hj _
  have := (hN.toks _ (List.getElem_mem hj)).1
  rw [e1] at h2 ⊢
  omega
end Go.AmT
