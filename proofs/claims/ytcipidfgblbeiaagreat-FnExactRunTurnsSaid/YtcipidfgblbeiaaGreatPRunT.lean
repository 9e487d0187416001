/- Runs in turns, in plain Lean: both programs make the same. -/
import Derived.Test.YtcipidfgblbeiaaGreatLRunT
namespace Go.AmT
open Go Go.Am
set_option linter.unusedVariables false
set_option linter.unusedSimpArgs false

noncomputable def runTurns (nt : Network) (s : State) (most : Int) : State × Bool := if okSt nt s = true then (runT nt none most s, !anyCan nt (runT nt none most s)) else (([], ([], ([], 0))), false)
theorem runTurns_small {nt : Network} {s : State} {most : Int} : SmallSt (runTurns nt s most).1 := by
  unfold runTurns
  split
  · rename_i h; exact small_of_ok (runT_ok (okSt_of h))
  · exact zSt_small
theorem iRunTurns_spec {n : Nat} {nt : Network} {s : State} {most : Int} (h : SmallN nt) (hs : SmallSt s) (hn : 1048576 < n) : iRunTurns.f n nt s most = some ((runTurns nt s most).1, ((runTurns nt s most).2, ())) := by
  unfold iRunTurns.f runTurns
  rw [iIsState_spec h hs hn]
  cases e1 : okSt nt s
  · rfl
  · have o := okSt_of e1
    simp only [Option.bind_some, Bool.not_true, br_false, if_true]
    refine W_eq.1 (W_bind.2 (W_and (newRun_spec (caps := none) o.net hs hn) (fun r ⟨to, fr, e, T, F⟩ => W_eq.2 ?_)))
    subst e
    have R : IsRun nt s (nt, (s, (to, (fr, none)))) := ⟨rfl, rfl, T, F⟩
    simp only
    rw [turns_spec (most := most) R o (fun _ h => by cases h) hn]
    simp only [Option.bind_some]
    have hq : quiet.f n ((nt.1, nt.2), (((runT nt none most s).1, ((runT nt none most s).2.1, ((runT nt none most s).2.2.1, (runT nt none most s).2.2.2))), (to, (fr, none)))) = some (!anyCan nt (runT nt none most s), ()) := quiet_spec (IsRun.step R) (runT_ok o) hn
    rw [hq]
    rfl
theorem sRunTurns_spec {n : Nat} {nt : Network} {s : State} {most : Int} (h : SmallN nt) (hs : SmallSt s) (hn : 1048576 < n) : sRunTurns.f n nt s most = some ((runTurns nt s most).1, ((runTurns nt s most).2, ())) := by
  unfold sRunTurns.f runTurns
  rw [sIsState_spec h hs hn]
  cases e1 : okSt nt s
  · rfl
  · have o := okSt_of e1
    have hp := o.net.progs
    simp only [Option.bind_some, Bool.not_true, br_false, if_true]
    rw [sL5Copy_spec hs hn]
    simp only [Option.bind_some]
    refine turnsS_loop (g := canP nt) (st := stepP nt) (most := most) (K := nt.1.length) (J := JS nt) (μ := muS) good_can (fun _ => muS_le)
      (fun made s => (made, (s.2.2.2, (s.1, (s.2.1, (s.2.2.1, ())))))) (fun made k s => (made, ((k : Int), (s.2.2.2, (s.1, (s.2.1, (s.2.2.1, ())))))))
      (G := fun _ s => some (s, (!anyCan nt s, ()))) (fun ih made s h => ?_) (by omega) (by omega) (x := (0, s)) ⟨o, Int.le_refl _, o.steps.1⟩
    refine ⟨_, (first_if (s := s) (made := made) (most := most) h.1 hn _ _).trans (ite_else (first_end (s := s) h.1 hn (fun b => some (s, (b, ()))))), fun ihi made k s h hk hm => ?_, fun ihi made k s h hk hm => ?_⟩
    · have c1 : (k : Int) < (nt.1.length : Int) := by omega
      have hc : sL5Can.f n nt (s.1, (s.2.1, (s.2.2.1, s.2.2.2))) (k : Int) = some (canP nt s k, ()) := sL5Can_spec h.1 hk hn
      have hle := h.le
      simp only [br_yes c1, cut_inr, decide_eq_true hm, br_true, hc, Option.bind_some]
      cases hg : canP nt s k
      · simp only [br_false, Bool.false_eq_true, if_false]
        rw [w64_succ (by omega)]
      · simp only [br_true, if_true]
        rw [sL5Step_spec h.1 (small_of_ok h.1) hk hg hn]
        simp only [Option.bind_some]
        rw [w64_succ (by omega), w64_id (n := made + 1) (by simp only at hle; omega) (by simp only at hle; omega)]
    · by_cases c1 : (k : Int) < (nt.1.length : Int)
      · have hm : ¬ made < most := fun h => hm ⟨by omega, h⟩
        simp only [br_yes c1, cut_inr, decide_eq_false hm, br_false]
      · simp only [br_no c1, cut_inr, br_false]
theorem law_true (nt : Network) (s : State) (most : Int) (h : InR tNetwork nt) (hst : InR tState s) : ∃ n, law.f n nt s most = some (true, ()) := by
  refine ⟨1048577, ?_⟩
  have hn : 1048576 < 1048577 := by omega
  unfold law.f
  obtain ⟨r, e, r1, r2⟩ := szNetwork_spec (n := 1048577) (left := 1048576) (by omega) h (by omega) (by omega)
  simp only [e, Option.bind_some]
  by_cases hr : r < 0
  · simp [hr, br]
  · rw [br_no hr]
    have hS := r2 (by omega)
    obtain ⟨q, e, q1, q2⟩ := szState_spec (n := 1048577) (left := r) (by omega) hst (by omega) (by omega)
    simp only [e, Option.bind_some]
    by_cases hq : q < 0
    · simp [hq, br]
    · rw [br_no hq]
      have hT := q2 (by omega)
      have hU := runTurns_small (nt := nt) (s := s) (most := most)
      have k1 := mNetwork_le (k := 1) hS
      have k2 := mState_le (k := (mNetwork nt 1).2) hT
      have k3 := mState_le (k := 1) hU
      have c1 : ¬ (mState s (mNetwork nt 1).2).2 < 0 := by omega
      have c2 : ¬ (mState (runTurns nt s most).1 1).2 < 0 := by omega
      have m1 := markNetwork_spec (n := 1048577) hS (show (0 : Int) ≤ 1 by omega) (show (1 : Int) ≤ 281474976710656 by omega) hn
      have m2 := markState_spec (n := 1048577) (k := (mNetwork nt 1).2) hT (by omega) (by omega) hn
      have m3 := markState_spec (n := 1048577) hU (show (0 : Int) ≤ 1 by omega) (show (1 : Int) ≤ 281474976710656 by omega) hn
      have m4 := heldState_spec (n := 1048577) hU (show (0 : Int) ≤ 1 by omega) (show (1 : Int) ≤ 281474976710656 by omega) hn
      have m5 : heldState.f 1048577 ((mState (runTurns nt s most).1 1).1.1, ((mState (runTurns nt s most).1 1).1.2.1, ((mState (runTurns nt s most).1 1).1.2.2.1, (runTurns nt s most).1.2.2.2))) 1 = some ((mState (runTurns nt s most).1 1).2, ()) := m4
      simp only [toNetwork_spec hS hn, toState_spec hT hn, sRunTurns_spec hS hT hn, iRunTurns_spec hS hT hn, eqNetwork_refl hS hn, eqState_refl hT hn, eqState_refl hU hn, Option.bind_some, decide_true, Bool.not_true, br_false, cut_inr, m1, m2, m3, m5, c1, c2, decide_false]
end Go.AmT
