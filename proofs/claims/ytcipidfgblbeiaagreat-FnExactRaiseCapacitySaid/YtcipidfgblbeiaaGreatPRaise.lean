/- Capacities that are raised: the law. -/
import Derived.Test.YtcipidfgblbeiaaGreatLRaise
namespace Go.AmT
open Go Go.Am
set_option linter.unusedVariables false
set_option linter.unusedSimpArgs false

theorem raise_len {nt : Network} {s : State} {caps : List Int} (hc : caps.length ≤ 1048576) : (raiseCap nt s caps).1.length ≤ 1048576 := by
  unfold raiseCap raiseP raiseR
  split
  · split
    · simp
    · simpa using hc
  · simp
theorem law_true (nt : Network) (s : State) (caps : List Int) (h : InR tNetwork nt) (hst : InR tState s) : ∃ n, law.f n nt s caps = some (true, ()) := by
  refine ⟨1048577, ?_⟩
  have hn : 1048576 < 1048577 := by omega
  unfold law.f
  by_cases hl : caps.length ≤ 1048576
  rotate_left
  · rw [br_yes (by omega)]
  rw [br_no (show ¬ (1048576 < (caps.length : Int)) by omega)]
  obtain ⟨r, e, r1, r2⟩ := szNetwork_spec (n := 1048577) (left := 1048576) (by omega) h (by omega) (by omega)
  simp only [e, Option.bind_some]
  by_cases hr : r < 0
  · simp [hr, br]
  · rw [br_no hr]
    have hS := r2 (by omega)
    obtain ⟨q, e, q1, q2⟩ := szState_spec (n := 1048577) (left := r) (by omega) hst (by omega) (by omega)
    simp only [e, Option.bind_some]
    by_cases hq : q < 0
    · simp [hq, br]
    · rw [br_no hq]
      have hT := q2 (by omega)
      have hU := raise_len (nt := nt) (s := s) hl
      have k1 := mNetwork_le (k := 1) hS
      have k2 := mState_le (k := (mNetwork nt 1).2) hT
      have k3 := mInt_le (k := 1) hU (raiseCap nt s caps).1.length
      have k4 := mInt_le (k := (mState s (mNetwork nt 1).2).2) hl caps.length
      rw [mkK_end] at k3 k4
      have c4 : ¬ (mkL mInt caps (mState s (mNetwork nt 1).2).2).2 < 0 := by omega
      have c2 : ¬ (mkL mInt (raiseCap nt s caps).1 1).2 < 0 := by omega
      have m1 := markNetwork_spec (n := 1048577) hS (show (0 : Int) ≤ 1 by omega) (show (1 : Int) ≤ 281474976710656 by omega) hn
      have m2 := markState_spec (n := 1048577) (k := (mNetwork nt 1).2) hT (by omega) (by omega) hn
      have m6 := markIntS_spec (n := 1048577) (k := (mState s (mNetwork nt 1).2).2) hl (by omega) (by omega) hn
      have m3 := markIntS_spec (n := 1048577) hU (show (0 : Int) ≤ 1 by omega) (show (1 : Int) ≤ 1125899906842624 by omega) hn
      have m4 := heldIntS_spec (n := 1048577) hU (show (0 : Int) ≤ 1 by omega) (show (1 : Int) ≤ 1125899906842624 by omega) hn
      simp only [toNetwork_spec hS hn, toState_spec hT hn, toIntS_spec hl hn, sRaiseCapacity_spec hS hT hl hn, iRaise_spec hS hT hl hn, eqNetwork_refl hS hn, eqState_refl hT hn, eqIntS_refl hl hn, eqIntS_refl hU hn, Option.bind_some, decide_true, Bool.not_true, br_false, cut_inr, m1, m2, m3, m4, m6, c4, c2, decide_false]
end Go.AmT
