/- States copied; whether any process can step, in plain Lean. -/
import Derived.Test.YtgepghodhnmhjaaLCpS
namespace Go.AmT
open Go Go.Am
set_option linter.unusedVariables false
set_option linter.unusedSimpArgs false

theorem sL5First_spec {n : Nat} {nt : Network} {s : State} (o : OkSt nt s) (hn : 1048576 < n) : W (sL5First.f n nt s) (fun r => decide (0 ≤ r.1) = anyCan nt s ∧ (0 ≤ r.1 → ∃ k : Nat, r.1 = (k : Int) ∧ k < nt.1.length ∧ canP nt s k = true ∧ ∀ j, j < k → canP nt s j = false)) := by
  have hp := o.net.progs
  unfold sL5First.f
  refine W_up (fun i (_ : Unit) => ((i : Int), ())) nt.1.length (fun i _ => ∀ j, j < i → canP nt s j = false) (s0 := ()) rfl (fun j hj => by omega) (by omega) (fun ih s' hI => ?_) (fun ih i s' hi hI hS => ?_)
  · simp only [br_no (Int.lt_irrefl _)]
    rw [W_some]
    refine ⟨?_, fun h => by omega⟩
    rw [anyCan, any_no hI]; rfl
  · simp only [br_yes (show (i : Int) < (nt.1.length : Int) by omega), sL5Can_spec o hi hn, Option.bind_some]
    cases hc : canP nt s i
    · simp only [br_false]
      rw [w64_succ (by omega)]
      refine hS () (fun j hj => ?_)
      rcases Nat.lt_or_ge j i with h | h
      · exact hI j h
      · rwa [show j = i by omega]
    · simp only [br_true]
      rw [W_some]
      refine ⟨?_, fun _ => ⟨i, rfl, hi, hc, hI⟩⟩
      rw [anyCan, any_of hi hc]; simp
theorem quiet_spec {n : Nat} {nt : Network} {s : State} {r : Run} (R : IsRun nt s r) (o : OkSt nt s) (hn : 1048576 < n) : quiet.f n r = some (!anyCan nt s, ()) := by
  have hp := o.net.progs
  unfold quiet.f
  rw [R.net]
  refine W_eq.1 (any_loop nt.1.length (canP nt s) (yes := fun _ => some (false, ())) (fun ih i hi => ?_) (fun ih => br_no (Int.lt_irrefl _)) (by omega) (fun i hi h => ?_) (fun h => ?_))
  · rw [br_yes (by omega), can_spec R o hi, w64_succ (by omega), Option.bind_some, br_ite]
  · rw [W_some, anyCan, any_of hi h]; rfl
  · rw [W_some, anyCan, any_no h]; rfl
theorem sL5Copy_spec {n : Nat} {s : State} (h : SmallSt s) (hn : 1048576 < n) : sL5Copy.f n s = some (s, ()) := by
  have ha := h.actors
  have hq := h.queues
  have hs := h.sents
  unfold sL5Copy.f
  refine push_loopE s.1 id (fun i ps => (i, (s.2.2.2, (ps, ())))) (fun ih i hi ps hps => ?_) (fun ih => ?_) (by omega)
  · have c1 : (i : Int) < (s.1.length : Int) := by omega
    have e1 : s.1.getD i zActor = s.1[i] := getD_lt hi _
    show br (decide ((i : Int) < (s.1.length : Int))) _ _ = _
    rw [br_yes c1, chk_true ⟨Int.natCast_nonneg i, c1⟩]
    simp only [Int.toNat_natCast, e1]
    rw [sL1Copy_run (h.actor _ (List.getElem_mem hi)), Option.bind_some, small_chk (by simp; omega), w64_succ (by omega)]; rfl
  · show br (decide ((s.1.length : Int) < (s.1.length : Int))) _ _ = _
    rw [br_no (Int.lt_irrefl _), List.map_id]
    refine push_loopE s.2.1 id (fun i ps => (i, (s.2.2.2, (s.1, (ps, ()))))) (fun ih i hi ps hps => ?_) (fun ih => ?_) (by omega)
    · have c1 : (i : Int) < (s.2.1.length : Int) := by omega
      have e1 : s.2.1.getD i [] = s.2.1[i] := getD_lt hi _
      show br (decide ((i : Int) < (s.2.1.length : Int))) _ _ = _
      rw [br_yes c1, chk_true ⟨Int.natCast_nonneg i, c1⟩]
      simp only [Int.toNat_natCast, e1]
      rw [sL1Copy_run (h.queue _ (List.getElem_mem hi)), Option.bind_some, small_chk (by simp; omega), w64_succ (by omega)]; rfl
    · show br (decide ((s.2.1.length : Int) < (s.2.1.length : Int))) _ _ = _
      rw [br_no (Int.lt_irrefl _), List.map_id]
      refine push_loopE s.2.2.1 id (fun i ps => (i, (s.2.2.2, (s.1, (s.2.1, (ps, ())))))) (fun ih i hi ps hps => ?_) (fun ih => ?_) (by omega)
      · have c1 : (i : Int) < (s.2.2.1.length : Int) := by omega
        have e1 : s.2.2.1.getD i [] = s.2.2.1[i] := getD_lt hi _
        show br (decide ((i : Int) < (s.2.2.1.length : Int))) _ _ = _
        rw [br_yes c1, chk_true ⟨Int.natCast_nonneg i, c1⟩]
        simp only [Int.toNat_natCast, e1]
        rw [sL1Copy_run (h.sent _ (List.getElem_mem hi)), Option.bind_some, small_chk (by simp; omega), w64_succ (by omega)]; rfl
      · show br (decide ((s.2.2.1.length : Int) < (s.2.2.1.length : Int))) _ _ = _
        rw [br_no (Int.lt_irrefl _), List.map_id]
theorem ite_else {α : Type} {c : Prop} [Decidable c] {x y z : α} (h : y = z) : (if c then x else y) = if c then x else z := by rw [h]
theorem first_if {n : Nat} {nt : Network} {s : State} {made most : Int} (o : OkSt nt s) (hn : 1048576 < n) {ρ : Type} (X Y : Option ρ) :
    cut (α := Bool × Unit) ((sL5First.f n nt s).bind fun r => br (decide (0 ≤ r.1)) (some (.inr ((decide (made < most)), ()))) (some (.inr (false, ())))) (fun y => br y.1 X Y) = if (List.range nt.1.length).any (canP nt s) = true ∧ made < most then X else Y := by
  obtain ⟨⟨r, ⟨⟩⟩, e, hr, -⟩ := sL5First_spec (n := n) o hn
  have hr : decide (0 ≤ r) = anyCan nt s := hr
  simp only [e, Option.bind_some, hr]
  show _ = if anyCan nt s = true ∧ made < most then _ else _
  cases ha : anyCan nt s
  · simp only [br_false, cut_inr, Bool.false_eq_true, false_and, if_false]
  · simp only [br_true, cut_inr, true_and, brd]
theorem first_end {n : Nat} {nt : Network} {s : State} (o : OkSt nt s) (hn : 1048576 < n) {ρ : Type} (f : Bool → Option ρ) :
    ((sL5First.f n nt s).bind fun r => f (decide (r.1 < 0))) = f (!anyCan nt s) := by
  obtain ⟨⟨r, ⟨⟩⟩, e, hr, -⟩ := sL5First_spec (n := n) o hn
  have hr : decide (0 ≤ r) = anyCan nt s := hr
  rw [e, Option.bind_some, ← hr]
  congr 1
  by_cases h : 0 ≤ r
  · simp [h, show ¬ r < 0 by omega]
  · simp [h, show r < 0 by omega]
end Go.AmT
