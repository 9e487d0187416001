/- Runs in turns of networks, in plain Lean: what the program makes of them. -/
import Derived.Test.YtfcehikkpoeebaaGreatLTurns
namespace Go.AmT
open Go Go.Am
set_option linter.unusedVariables false
set_option linter.unusedSimpArgs false

def JS (nt : Network) (x : Int × State) : Prop := OkSt nt x.2 ∧ 0 ≤ x.1 ∧ x.1 ≤ x.2.2.2.2
def muS (x : Int × State) : Nat := (20000 - x.2.2.2.2).toNat
theorem muS_le {nt : Network} {x : Int × State} (h : JS nt x) : muS x ≤ 20000 := by
  have := h.1.steps
  unfold muS; omega
theorem JS.le {nt : Network} {x : Int × State} (h : JS nt x) : 0 ≤ x.1 ∧ x.1 ≤ 20000 := by
  have := h.1.steps
  have := h.2
  omega
theorem good_of {nt : Network} {most : Int} {g : State → Nat → Bool} (hg : ∀ s k, g s k = true → canP nt s k = true) : Good g (stepP nt) most nt.1.length (JS nt) muS := by
  rintro ⟨m, s⟩ k ⟨o, h0, h1⟩ hk hm hgk
  have hc := hg _ _ hgk
  obtain ⟨-, h20, -, -⟩ := canP_facts hc
  have hs := o.steps
  have h0 : 0 ≤ m := h0
  have h1 : m ≤ s.2.2.2 := h1
  have h20 : s.2.2.2 < 20000 := h20
  refine ⟨⟨stepP_ok o hk hc, ?_, ?_⟩, ?_⟩
  · show 0 ≤ m + 1
    omega
  · show m + 1 ≤ s.2.2.2 + 1
    omega
  · show (20000 - (s.2.2.2 + 1)).toNat < (20000 - s.2.2.2).toNat
    omega
theorem may_can {nt : Network} {s : State} {caps : List Int} {k : Nat} (h : mayP nt s caps k = true) : canP nt s k = true := by
  unfold mayP at h
  rw [Bool.and_eq_true] at h
  exact h.1
/-- whether it may step, with the capacities, if there are any -/
def mayO (nt : Network) (c : Option (List Int)) (s : State) (k : Nat) : Bool := match c with | none => canP nt s k | some caps => mayP nt s caps k
theorem mayO_can {nt : Network} {c : Option (List Int)} {s : State} {k : Nat} (h : mayO nt c s k = true) : canP nt s k = true := by
  cases c with
  | none => exact h
  | some caps => exact may_can h
theorem mayO_spec {n : Nat} {nt : Network} {s : State} {r : Run} (R : IsRun nt s r) (o : OkSt nt s) (hc : ∀ caps, r.2.2.2.2 = some caps → caps.length = nt.2.length) {k : Nat} (hk : k < nt.1.length) : may.f n r (k : Int) = some (mayO nt r.2.2.2.2 s k, ()) := by
  cases e : r.2.2.2.2 with
  | none =>
    unfold may.f
    rw [can_spec R o hk, e]
    show _ = some (canP nt s k, ())
    cases canP nt s k <;> rfl
  | some caps => exact may_spec R o (hc _ e) e hk
/-- the state at the end of a run in turns -/
def runT (nt : Network) (c : Option (List Int)) (most : Int) (s : State) : State := (turnsP (mayO nt c) (stepP nt) most nt.1.length (0, s)).2
theorem runT_ok {nt : Network} {c : Option (List Int)} {most : Int} {s : State} (o : OkSt nt s) : OkSt nt (runT nt c most s) :=
  (turnsP_good (good_of (fun _ _ => mayO_can)) (J := JS nt) (x := (0, s)) ⟨o, Int.le_refl _, o.steps.1⟩).1
theorem turns_spec {n : Nat} {nt : Network} {s : State} {to fr : List (List Int)} {c : Option (List Int)} {most : Int} (R : IsRun nt s (nt, (s, (to, (fr, c))))) (o : OkSt nt s) (hc : ∀ caps, c = some caps → caps.length = nt.2.length) (hn : 1048576 < n) :
    turns.f n most nt.1 nt.2 s.2.2.2 c s.1 s.2.1 s.2.2.1 to fr =
      some (nt.1, (nt.2, ((runT nt c most s).2.2.2, (c, ((runT nt c most s).1, ((runT nt c most s).2.1, ((runT nt c most s).2.2.1, (to, (fr, ()))))))))) := by
  have hp := o.net.progs
  unfold turns.f runT
  refine turnsI_loop (g := mayO nt c) (st := stepP nt) (most := most) (K := nt.1.length) (J := JS nt) (μ := muS) (good_of (fun _ _ => mayO_can)) (fun _ => muS_le)
    (fun made again s => (made, (again, (nt.1, (nt.2, (s.2.2.2, (c, (s.1, (s.2.1, (s.2.2.1, (to, (fr, ())))))))))))) (fun made again k s => (made, (again, ((k : Int), (nt.1, (nt.2, (s.2.2.2, (c, (s.1, (s.2.1, (s.2.2.1, (to, (fr, ())))))))))))))
    (G := fun s => some (nt.1, (nt.2, (s.2.2.2, (c, (s.1, (s.2.1, (s.2.2.1, (to, (fr, ())))))))))) (fun ih made s h => ⟨_, br_true, fun ihi made again k s h hk => ?_, fun ihi made again s h => ?_⟩) (fun ih made s h => br_false) (by omega) (by omega) (x := (0, s)) ⟨o, Int.le_refl _, o.steps.1⟩
  · have c1 : (k : Int) < (nt.1.length : Int) := by omega
    have R' : IsRun nt s (nt, (s, (to, (fr, c)))) := R.step
    have hm : may.f n ((nt.1, nt.2), ((s.1, (s.2.1, (s.2.2.1, s.2.2.2))), (to, (fr, c)))) (k : Int) = some (mayO nt c s k, ()) := mayO_spec R' h.1 hc hk
    have hle := h.le
    simp only [br_yes c1, hm, Option.bind_some, brd]
    split
    · rfl
    · rename_i hmo
      cases hg : mayO nt c s k
      · simp only [br_false, Bool.false_eq_true, if_false]
        rw [w64_succ (by omega)]
      · simp only [br_true, if_true]
        have hs := runStep_spec (n := n) R' h.1 (small_of_ok h.1) hk (mayO_can hg) hn
        simp only at hs
        rw [hs]
        simp only [Option.bind_some]
        rw [w64_succ (by omega), w64_id (n := made + 1) (by simp only at hle; omega) (by simp only at hle; omega)]
        rfl
  · simp only [br_no (Int.lt_irrefl _)]
end Go.AmT
