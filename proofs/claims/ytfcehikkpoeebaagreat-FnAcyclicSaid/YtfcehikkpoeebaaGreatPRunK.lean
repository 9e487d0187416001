/- Runs in turns are steps. -/
import Derived.Test.YtfcehikkpoeebaaGreatPKahn3
import Derived.Test.YtfcehikkpoeebaaGreatPTurnS
namespace Go.AmT
open Go Go.Am
set_option linter.unusedVariables false
set_option linter.unusedSimpArgs false

def JK (nt : Network) (c : Option (List Int)) (s0 : State) (most : Int) (x : Int × State) : Prop := JS nt x ∧ (x.1 = x.2.2.2.2 - s0.2.2.2 ∧ x.1 ≤ max 0 most) ∧ ∃ m, Steps nt (mayO nt c) s0 x.2 m
theorem good_k {nt : Network} {c : Option (List Int)} {s0 : State} {most : Int} : Good (mayO nt c) (stepP nt) most nt.1.length (JK nt c s0 most) muS := by
  intro x k hx hk hlt hg
  obtain ⟨h1, ⟨h2, h3⟩, m, S⟩ := hx
  obtain ⟨g1, g2⟩ := good_of (nt := nt) (most := most) (g := mayO nt c) (fun _ _ => mayO_can) x k h1 hk hlt hg
  exact ⟨⟨g1, ⟨by show x.1 + 1 = x.2.2.2.2 + 1 - s0.2.2.2; omega, by show x.1 + 1 ≤ max 0 most; omega⟩, _, S.step hk hg (mayO_can hg)⟩, g2⟩
theorem JK.start {nt : Network} {c : Option (List Int)} {s0 : State} {most : Int} (o : OkSt nt s0) : JK nt c s0 most (0, s0) := ⟨⟨o, Int.le_refl _, o.steps.1⟩, ⟨by show (0 : Int) = s0.2.2.2 - s0.2.2.2; omega, by show (0 : Int) ≤ max 0 most; omega⟩, _, .refl⟩
theorem runT_steps {nt : Network} {c : Option (List Int)} {most : Int} {s0 : State} (o : OkSt nt s0) : ∃ m, Steps nt (mayO nt c) s0 (runT nt c most s0) m :=
  (turnsP_good good_k (J := JK nt c s0 most) (x := (0, s0)) (.start o)).2.2
theorem runT_end {nt : Network} {c : Option (List Int)} {most : Int} {s0 : State} (o : OkSt nt s0) : ¬ ((List.range nt.1.length).any (mayO nt c (runT nt c most s0)) = true ∧ (runT nt c most s0).2.2.2 - s0.2.2.2 < most) := by
  have h := turnsP_stop (good_k (nt := nt) (c := c) (s0 := s0) (most := most)) (x := (0, s0)) (.start o) (muS_le (nt := nt) ⟨o, Int.le_refl _, o.steps.1⟩)
  have e := (turnsP_good good_k (J := JK nt c s0 most) (most := most) (x := (0, s0)) (.start o)).2.1.1
  intro ⟨a, b⟩
  exact h ⟨a, by rw [e]; exact b⟩
end Go.AmT
