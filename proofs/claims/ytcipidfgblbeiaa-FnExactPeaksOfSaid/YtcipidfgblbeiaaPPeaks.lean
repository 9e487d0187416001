/- The peaks of a run: the law. -/
import Derived.Test.YtcipidfgblbeiaaLPeaks
namespace Go.AmT
open Go Go.Am
set_option linter.unusedVariables false
set_option linter.unusedSimpArgs false

theorem law_true (nt : Network) (most : Int) (h : InR tNetwork nt) : ∃ n, law.f n nt most = some (true, ()) := by
  refine ⟨1048577, ?_⟩
  have hn : 1048576 < 1048577 := by omega
  unfold law.f
  obtain ⟨r, e, r1, r2⟩ := szNetwork_spec (n := 1048577) (left := 1048576) (by omega) h (by omega) (by omega)
  simp only [e, Option.bind_some]
  by_cases hr : r < 0
  · simp [hr, br]
  · rw [br_no hr]
    have hS := r2 (by omega)
    have hU := peaks_len (nt := nt) (most := most)
    have k1 := mNetwork_le (k := 1) hS
    have k3 := mInt_le (k := 1) hU (peaks nt most).1.length
    rw [mkK_end] at k3
    have c1 : ¬ (mNetwork nt 1).2 < 0 := by omega
    have c2 : ¬ (mkL mInt (peaks nt most).1 1).2 < 0 := by omega
    have m1 := markNetwork_spec (n := 1048577) hS (show (0 : Int) ≤ 1 by omega) (show (1 : Int) ≤ 281474976710656 by omega) hn
    have m3 := markIntS_spec (n := 1048577) hU (show (0 : Int) ≤ 1 by omega) (show (1 : Int) ≤ 1125899906842624 by omega) hn
    have m4 := heldIntS_spec (n := 1048577) hU (show (0 : Int) ≤ 1 by omega) (show (1 : Int) ≤ 1125899906842624 by omega) hn
    simp only [toNetwork_spec hS hn, sPeaksOf_spec hS hn, iPeaks_spec hS hn, eqNetwork_refl hS hn, eqIntS_refl hU hn, Option.bind_some, decide_true, Bool.not_true, br_false, cut_inr, m1, m3, m4, c1, c2, decide_false]
end Go.AmT
