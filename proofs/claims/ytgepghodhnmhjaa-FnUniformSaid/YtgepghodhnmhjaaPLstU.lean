/- The least capacity that is enough for all links, in plain Lean: both programs tell the same. -/
import Derived.Test.YtgepghodhnmhjaaLLstU
namespace Go.AmT
open Go Go.Am
set_option linter.unusedVariables false
set_option linter.unusedSimpArgs false

theorem uni_okC {nt : Network} {c : Int} (o : OkN nt) (h : 0 ≤ c ∧ c ≤ 400) : okC nt.2 (uni nt c) = true := by
  have ho : okN nt = true := by simp [okN, o]
  unfold uni
  rw [ho, decide_eq_true h]
  simp only [Bool.and_self, if_true]
  unfold okC
  simp only [Bool.and_eq_true, decide_eq_true_eq, List.all_eq_true, List.mem_range, List.length_map, true_and]
  intro j hj
  have e1 : nt.2.getD j zLink = nt.2[j] := getD_lt hj _
  have e2 : (nt.2.map fun l : Link => max c (l.2.2.2.2.length : Int)).getD j 0 = max c (nt.2[j].2.2.2.2.length : Int) := by simp [hj]
  have := (okS_len (o.toks j hj)).1
  rw [e1, e2]
  omega
/-- how a run from the start ends, with so much room for each link -/
noncomputable def uniW (nt : Network) (most : Int) (c : Nat) : Int := (runB nt (start nt) (uni nt (c : Int)) most).2
noncomputable def leastU (nt : Network) (limit most : Int) : Int × Bool :=
  if okN nt && decide (0 ≤ limit ∧ limit ≤ 50) then (match (List.range (limit.toNat + 1)).find? (fun c => decide (uniW nt most c = 1)) with | some c => ((c : Int), true) | none => (0, false)) else (0, false)
theorem sLeastUniform_spec {n : Nat} {nt : Network} {limit most : Int} (h : SmallN nt) (hn : 1048576 < n) : sLeastUniform.f n nt limit most = some ((leastU nt limit most).1, ((leastU nt limit most).2, ())) := by
  unfold sLeastUniform.f leastU sL1In.f
  rw [sIsNetwork_spec h hn]
  cases e : okN nt
  · rfl
  · have o : OkN nt := of_decide_eq_true e
    simp only [Option.bind_some, Bool.not_true, br_false, Bool.true_and]
    by_cases h1 : 0 ≤ limit
    · by_cases h2 : limit ≤ 50
      · rw [decide_eq_true (show 0 ≤ limit ∧ limit ≤ 50 from ⟨h1, h2⟩)]
        simp only [h1, h2, decide_true, br_true, Option.bind_some, cut_inr, Bool.not_true, br_false, if_true]
        refine (first_loop (limit.toNat + 1) (fun c => decide (uniW nt most c = 1)) (yes := fun c => some ((c : Int), (true, ()))) (no := some (0, (false, ()))) (fun ih i hi => ?_) (fun ih => br_no (by omega)) (by omega)).trans ?_
        · have hs := sL6Run_spec (n := n) (caps := uni nt (i : Int)) (most := most) (start_ok o) (okC_len (uni_okC o (by omega))) hn
          rw [br_yes (by omega), sStartState_spec h o hn, sUni_spec h hn]
          simp only [Option.bind_some]
          rw [hs]
          simp only [Option.bind_some]
          rw [show (runB nt (start nt) (uni nt (i : Int)) most).2 = uniW nt most i from rfl, w64_succ (by omega), brd]
          by_cases hu : uniW nt most i = 1
          · rw [if_pos hu, if_pos (decide_eq_true hu)]
          · rw [if_neg hu, if_neg (by simp [hu])]
        · cases (List.range (limit.toNat + 1)).find? (fun c => decide (uniW nt most c = 1)) <;> rfl
      · rw [decide_eq_false (show ¬ (0 ≤ limit ∧ limit ≤ 50) from fun hh => h2 hh.2)]
        simp [h1, h2, br, cut]
    · rw [decide_eq_false (show ¬ (0 ≤ limit ∧ limit ≤ 50) from fun hh => h1 hh.1)]
      simp [h1, br, cut]
theorem iLeastUniform_spec {n : Nat} {nt : Network} {limit most : Int} (h : SmallN nt) (hn : 1048576 < n) : iLeastUniform.f n nt limit most = some ((leastU nt limit most).1, ((leastU nt limit most).2, ())) := by
  unfold iLeastUniform.f leastU
  rw [iIsNetwork_spec h hn]
  cases e : okN nt
  · rfl
  · have o : OkN nt := of_decide_eq_true e
    simp only [Option.bind_some, Bool.not_true, br_false, Bool.true_and]
    by_cases h1 : limit < 0
    · rw [decide_eq_false (show ¬ (0 ≤ limit ∧ limit ≤ 50) by omega), br_yes h1, cut_inr, br_true]; rfl
    · by_cases h2 : 50 < limit
      · rw [decide_eq_false (show ¬ (0 ≤ limit ∧ limit ≤ 50) by omega), br_no h1, cut_inr, decide_eq_true h2, br_true]; rfl
      · rw [decide_eq_true (show 0 ≤ limit ∧ limit ≤ 50 by omega), br_no h1, decide_eq_false h2]
        simp only [cut_inr, br_false, if_true]
        refine (first_loop (limit.toNat + 1) (fun c => decide (uniW nt most c = 1)) (yes := fun c => some ((c : Int), (true, ()))) (no := some (0, (false, ()))) (fun ih i hi => ?_) (fun ih => br_no (by omega)) (by omega)).trans ?_
        · have hl := o.links
          have hc := uni_okC o (c := (i : Int)) (by omega)
          have hs := iRunBounded_spec (n := n) (caps := uni nt (i : Int)) (most := most) h (small_of_ok (start_ok o)) (by rw [okC_len hc]; omega) hn
          have hb : runBounded nt (start nt) (uni nt (i : Int)) most = runB nt (start nt) (uni nt (i : Int)) most := by
            unfold runBounded
            rw [show okSt nt (start nt) = true from decide_eq_true (start_ok o), hc]; rfl
          rw [br_yes (by omega), iStartState_spec h o hn, iUni_spec h hn]
          simp only [Option.bind_some]
          rw [hs, hb]
          simp only [Option.bind_some]
          rw [show (runB nt (start nt) (uni nt (i : Int)) most).2 = uniW nt most i from rfl, w64_succ (by omega), brd]
          by_cases hu : uniW nt most i = 1
          · rw [if_pos hu, if_pos (decide_eq_true hu)]
          · rw [if_neg hu, if_neg (by simp [hu])]
        · cases (List.range (limit.toNat + 1)).find? (fun c => decide (uniW nt most c = 1)) <;> rfl
end Go.AmT
