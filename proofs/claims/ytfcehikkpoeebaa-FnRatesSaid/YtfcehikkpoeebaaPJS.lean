/- Runs that are valid, for lists of texts without runs in turns. -/
import Derived.Test.YtfcehikkpoeebaaPStart
import Derived.Test.YtfcehikkpoeebaaPTurns
namespace Go.AmT
open Go Go.Am
theorem okSt_of {nt : Network} {s : State} (h : okSt nt s = true) : OkSt nt s := of_decide_eq_true h
theorem okSt_true {nt : Network} {s : State} (o : OkSt nt s) : okSt nt s = true := decide_eq_true o
def JS (nt : Network) (x : Int × State) : Prop := OkSt nt x.2 ∧ 0 ≤ x.1 ∧ x.1 ≤ x.2.2.2.2
def muS (x : Int × State) : Nat := (20000 - x.2.2.2.2).toNat
theorem JS.le {nt : Network} {x : Int × State} (h : JS nt x) : 0 ≤ x.1 ∧ x.1 ≤ 20000 := by
  have := h.1.steps
  have := h.2
  omega
theorem good_of {nt : Network} {most : Int} {g : State → Nat → Bool} (hg : ∀ s k, g s k = true → canP nt s k = true) : Good g (stepP nt) most nt.1.length (JS nt) muS := by
  rintro ⟨m, s⟩ k ⟨o, h0, h1⟩ hk hm hgk
  have hc := hg _ _ hgk
  obtain ⟨-, h20, -, -⟩ := canP_facts hc
  have hs := o.steps
  have h0 : 0 ≤ m := h0
  have h1 : m ≤ s.2.2.2 := h1
  have h20 : s.2.2.2 < 20000 := h20
  refine ⟨⟨stepP_ok o hk hc, ?_, ?_⟩, ?_⟩
  · show 0 ≤ m + 1
    omega
  · show m + 1 ≤ s.2.2.2 + 1
    omega
  · show (20000 - (s.2.2.2 + 1)).toNat < (20000 - s.2.2.2).toNat
    omega
theorem good_can {nt : Network} {most : Int} : Good (canP nt) (stepP nt) most nt.1.length (JS nt) muS := good_of (fun _ _ h => h)
end Go.AmT
