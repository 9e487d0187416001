/- Runs in turns are steps. -/
import Derived.Test.YtgepghodhnmhjaaPKahn3
import Derived.Test.YtgepghodhnmhjaaPTurnS
namespace Go.AmT
open Go Go.Am
set_option linter.unusedVariables false
set_option linter.unusedSimpArgs false

def JK (nt : Network) (c : Option (List Int)) (s0 : State) (most : Int) (x : Int × State) : Prop := JS nt x ∧ (x.1 = x.2.2.2.2 - s0.2.2.2 ∧ x.1 ≤ max 0 most) ∧ ∃ m, Steps nt (mayO nt c) s0 x.2 m
theorem good_k {nt : Network} {c : Option (List Int)} {s0 : State} {most : Int} : Good (mayO nt c) (stepP nt) most nt.1.length (JK nt c s0 most) muS := by
  intro x k hx hk hlt hg
  obtain ⟨h1, ⟨h2, h3⟩, m, S⟩ := hx
  obtain ⟨g1, g2⟩ := good_of (nt := nt) (most := most) (g := mayO nt c) (fun _ _ => mayO_can) x k h1 hk hlt hg
  exact ⟨⟨g1, ⟨by show x.1 + 1 = x.2.2.2.2 + 1 - s0.2.2.2; omega, by show x.1 + 1 ≤ max 0 most; omega⟩, _, S.step hk hg (mayO_can hg)⟩, g2⟩
theorem JK.start {nt : Network} {c : Option (List Int)} {s0 : State} {most : Int} (o : OkSt nt s0) : JK nt c s0 most (0, s0) := ⟨⟨o, Int.le_refl _, o.steps.1⟩, ⟨by show (0 : Int) = s0.2.2.2 - s0.2.2.2; omega, by show (0 : Int) ≤ max 0 most; omega⟩, _, .refl⟩
theorem runT_steps {nt : Network} {c : Option (List Int)} {most : Int} {s0 : State} (o : OkSt nt s0) : ∃ m, Steps nt (mayO nt c) s0 (runT nt c most s0) m :=
  (turnsP_good good_k (J := JK nt c s0 most) (x := (0, s0)) (.start o)).2.2
theorem runT_end {nt : Network} {c : Option (List Int)} {most : Int} {s0 : State} (o : OkSt nt s0) : ¬ ((List.range nt.1.length).any (mayO nt c (runT nt c most s0)) = true ∧ (runT nt c most s0).2.2.2 - s0.2.2.2 < most) := by
  have h := turnsP_stop (good_k (nt := nt) (c := c) (s0 := s0) (most := most)) (x := (0, s0)) (.start o) (muS_le (nt := nt) ⟨o, Int.le_refl _, o.steps.1⟩)
  have e := (turnsP_good good_k (J := JK nt c s0 most) (most := most) (x := (0, s0)) (.start o)).2.1.1
  intro ⟨a, b⟩
  exact h ⟨a, by rw [e]; exact b⟩
theorem step_queue {nt : Network} {s : State} {k : Nat} (j : Nat) : (queue (stepP nt s k) j).length ≤ (queue s j).length ∨ ((wantOf nt s k).1 = 3 ∧ j = (linkOf nt s k).toNat ∧ (queue (stepP nt s k) j).length = (queue s j).length + 1) := by
  unfold queue stepP
  simp only
  split
  · by_cases h : j = (linkOf nt s k).toNat
    · subst h
      refine .inl ?_
      by_cases hl : (linkOf nt s k).toNat < s.2.1.length
      · rw [getD_set_same hl, List.length_drop]; omega
      · rw [List.getD_eq_getElem?_getD, List.getElem?_eq_none (by simp; omega)]; simp
    · refine .inl ?_
      rw [List.getD_eq_getElem?_getD, List.getElem?_set_ne (fun e => h e.symm), ← List.getD_eq_getElem?_getD]
      exact Nat.le_refl _
  · split
    · rename_i h3
      by_cases h : j = (linkOf nt s k).toNat
      · subst h
        by_cases hl : (linkOf nt s k).toNat < s.2.1.length
        · refine .inr ⟨h3, rfl, ?_⟩
          rw [getD_set_same hl]; simp
        · refine .inl ?_
          rw [List.getD_eq_getElem?_getD, List.getElem?_eq_none (by simp; omega)]; simp
      · refine .inl ?_
        rw [List.getD_eq_getElem?_getD, List.getElem?_set_ne (fun e => h e.symm), ← List.getD_eq_getElem?_getD]
        exact Nat.le_refl _
    · exact .inl (Nat.le_refl _)
/-- an inner queue is never longer than its capacity -/
theorem cap_inv {nt : Network} {caps : List Int} {s : State} {m : Nat → Nat} (hc : okC nt.2 caps = true) (S : Steps nt (mayO nt (some caps)) (start nt) s m) {j : Nat} (hj : j < nt.2.length) (ht : 0 ≤ (lnk nt j).2.2.1) : ((queue s j).length : Int) ≤ caps.getD j 0 := by
  induction S with
  | refl =>
    have e : queue (start nt) j = toks nt j := sent_start nt j
    rw [e]
    unfold okC at hc
    simp only [Bool.and_eq_true, List.all_eq_true, decide_eq_true_eq] at hc
    exact (hc.2 j (List.mem_range.2 (by omega))).1
  | @step s m k S hk hg _ ih =>
    rcases step_queue (nt := nt) (s := s) (k := k) j with h | ⟨h3, rfl, h⟩
    · omega
    · have hg : mayP nt s caps k = true := hg
      unfold mayP at hg
      simp only [Bool.and_eq_true, Bool.or_eq_true, Bool.not_eq_true', decide_eq_false_iff_not, decide_eq_true_eq, h3, not_true, false_or] at hg
      rcases hg.2 with h1 | h1
      · exact absurd ht (by unfold lnk; omega)
      · unfold queue at *; omega
end Go.AmT
