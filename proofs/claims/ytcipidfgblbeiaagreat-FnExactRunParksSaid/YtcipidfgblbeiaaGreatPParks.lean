/- Runs whose capacities are raised: the law. -/
import Derived.Test.YtcipidfgblbeiaaGreatLParks
namespace Go.AmT
open Go Go.Am
set_option linter.unusedVariables false
set_option linter.unusedSimpArgs false

theorem law_true (nt : Network) (s : State) (caps : List Int) (most : Int) (h : InR tNetwork nt) (hst : InR tState s) (hm : InR I most) : ∃ n, law.f n nt s caps most = some (true, ()) := by
  refine ⟨1048577, ?_⟩
  have hn : 1048576 < 1048577 := by omega
  obtain ⟨hm1, hm2⟩ := inR_i64 hm
  unfold law.f
  by_cases hl : caps.length ≤ 1048576
  rotate_left
  · rw [br_yes (by omega)]
  rw [br_no (show ¬ (1048576 < (caps.length : Int)) by omega)]
  obtain ⟨r, e, r1, r2⟩ := szNetwork_spec (n := 1048577) (left := 1048576) (by omega) h (by omega) (by omega)
  simp only [e, Option.bind_some]
  by_cases hr : r < 0
  · simp [hr, br]
  · rw [br_no hr]
    have hS := r2 (by omega)
    obtain ⟨q, e, q1, q2⟩ := szState_spec (n := 1048577) (left := r) (by omega) hst (by omega) (by omega)
    simp only [e, Option.bind_some]
    by_cases hq : q < 0
    · simp [hq, br]
    · rw [br_no hq]
      have hT := q2 (by omega)
      obtain ⟨hU, hV⟩ := runParks_small (nt := nt) (s := s) (caps := caps) (most := most)
      have hs := sRunParks_spec (most := most) hS hT hl hn
      have hi := iRunParks_spec (most := most) hS hT hl hn hm1 hm2
      generalize runParks nt s caps most = W at hU hV hs hi
      have k1 := mNetwork_le (k := 1) hS
      have k2 := mState_le (k := (mNetwork nt 1).2) hT
      have k3 := mState_le (k := 1) hU
      have k4 := mInt_le (k := (mState s (mNetwork nt 1).2).2) hl caps.length
      have k5 := mInt_le (k := (mState W.1 1).2) hV W.2.1.length
      rw [mkK_end] at k4 k5
      have c4 : ¬ (mkL mInt caps (mState s (mNetwork nt 1).2).2).2 < 0 := by omega
      have c2 : ¬ (mState W.1 1).2 < 0 := by omega
      have c5 : ¬ (mkL mInt W.2.1 (mState W.1 1).2).2 < 0 := by omega
      have m1 := markNetwork_spec (n := 1048577) hS (show (0 : Int) ≤ 1 by omega) (show (1 : Int) ≤ 281474976710656 by omega) hn
      have m2 := markState_spec (n := 1048577) (k := (mNetwork nt 1).2) hT (by omega) (by omega) hn
      have m6 := markIntS_spec (n := 1048577) (k := (mState s (mNetwork nt 1).2).2) hl (by omega) (by omega) hn
      have m3 := markState_spec (n := 1048577) hU (show (0 : Int) ≤ 1 by omega) (show (1 : Int) ≤ 281474976710656 by omega) hn
      have m4 := heldState_spec (n := 1048577) hU (show (0 : Int) ≤ 1 by omega) (show (1 : Int) ≤ 281474976710656 by omega) hn
      have m5 : heldState.f 1048577 ((mState W.1 1).1.1, ((mState W.1 1).1.2.1, ((mState W.1 1).1.2.2.1, W.1.2.2.2))) 1 = some ((mState W.1 1).2, ()) := m4
      have m7 := markIntS_spec (n := 1048577) (k := (mState W.1 1).2) hV (by omega) (by omega) hn
      have m8 := heldIntS_spec (n := 1048577) (k := (mState W.1 1).2) hV (by omega) (by omega) hn
      simp only [toNetwork_spec hS hn, toState_spec hT hn, toIntS_spec hl hn, hs, hi, eqNetwork_refl hS hn, eqState_refl hT hn, eqState_refl hU hn, eqIntS_refl hl hn, eqIntS_refl hV hn, Option.bind_some, decide_true, Bool.not_true, br_false, cut_inr, m1, m2, m3, m5, m6, m7, m8, c4, c2, c5, decide_false]
end Go.AmT
