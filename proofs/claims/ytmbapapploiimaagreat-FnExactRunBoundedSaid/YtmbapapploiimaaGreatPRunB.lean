/- Runs with capacities: the law. -/
import Derived.Test.YtmbapapploiimaaGreatLRunB
namespace Go.AmT
open Go Go.Am
set_option linter.unusedVariables false
set_option linter.unusedSimpArgs false

theorem sRunBounded_spec {n : Nat} {nt : Network} {s : State} {caps : List Int} {most : Int} (h : SmallN nt) (hs : SmallSt s) (hc : caps.length ≤ 1048576) (hn : 1048576 < n) : sRunBounded.f n nt s caps most = some ((runBounded nt s caps most).1, ((runBounded nt s caps most).2, ())) := by
  unfold sRunBounded.f runBounded
  rw [sL6Valid_spec h hs hc hn]
  cases e : okSt nt s && okC nt.2 caps
  · rfl
  · rw [Bool.and_eq_true] at e
    simp only [Option.bind_some, Bool.not_true, br_false, if_true]
    rw [sL5Copy_spec hs hn]
    simp only [Option.bind_some]
    rw [sL6Run_spec (okSt_of e.1) (okC_len e.2) hn]
    rfl
theorem law_true (nt : Network) (s : State) (l : List Int) (most : Int) (h : InR tNetwork nt) (hst : InR tState s) : ∃ n, law.f n nt s l most = some (true, ()) := by
  refine ⟨1048577, ?_⟩
  have hn : 1048576 < 1048577 := by omega
  unfold law.f
  by_cases hl : l.length ≤ 1048576
  rotate_left
  · rw [br_yes (by omega)]
  rw [br_no (show ¬ (1048576 < (l.length : Int)) by omega)]
  obtain ⟨r, e, r1, r2⟩ := szNetwork_spec (n := 1048577) (left := 1048576) (by omega) h (by omega) (by omega)
  simp only [e, Option.bind_some]
  by_cases hr : r < 0
  · simp [hr, br]
  · rw [br_no hr]
    have hS := r2 (by omega)
    obtain ⟨q, e, q1, q2⟩ := szState_spec (n := 1048577) (left := r) (by omega) hst (by omega) (by omega)
    simp only [e, Option.bind_some]
    by_cases hq : q < 0
    · simp [hq, br]
    · rw [br_no hq]
      have hT := q2 (by omega)
      have hU := runBounded_small (nt := nt) (s := s) (caps := l) (most := most)
      have k1 := mNetwork_le (k := 1) hS
      have k2 := mState_le (k := (mNetwork nt 1).2) hT
      have k3 := mState_le (k := 1) hU
      have k4 := mInt_le (k := (mState s (mNetwork nt 1).2).2) hl l.length
      rw [mkK_end] at k4
      have c4 : ¬ (mkL mInt l (mState s (mNetwork nt 1).2).2).2 < 0 := by omega
      have m6 := markIntS_spec (n := 1048577) (k := (mState s (mNetwork nt 1).2).2) hl (by omega) (by omega) hn
      have c1 : ¬ (mState s (mNetwork nt 1).2).2 < 0 := by omega
      have c2 : ¬ (mState (runBounded nt s l most).1 1).2 < 0 := by omega
      have m1 := markNetwork_spec (n := 1048577) hS (show (0 : Int) ≤ 1 by omega) (show (1 : Int) ≤ 281474976710656 by omega) hn
      have m2 := markState_spec (n := 1048577) (k := (mNetwork nt 1).2) hT (by omega) (by omega) hn
      have m3 := markState_spec (n := 1048577) hU (show (0 : Int) ≤ 1 by omega) (show (1 : Int) ≤ 281474976710656 by omega) hn
      have m4 := heldState_spec (n := 1048577) hU (show (0 : Int) ≤ 1 by omega) (show (1 : Int) ≤ 281474976710656 by omega) hn
      have m5 : heldState.f 1048577 ((mState (runBounded nt s l most).1 1).1.1, ((mState (runBounded nt s l most).1 1).1.2.1, ((mState (runBounded nt s l most).1 1).1.2.2.1, (runBounded nt s l most).1.2.2.2))) 1 = some ((mState (runBounded nt s l most).1 1).2, ()) := m4
      simp only [toNetwork_spec hS hn, toState_spec hT hn, toIntS_spec hl hn, eqIntS_refl hl hn, m6, c4, sRunBounded_spec hS hT hl hn, iRunBounded_spec hS hT hl hn, eqNetwork_refl hS hn, eqState_refl hT hn, eqState_refl hU hn, Option.bind_some, decide_true, Bool.not_true, br_false, cut_inr, m1, m2, m3, m5, c1, c2, decide_false]
end Go.AmT
