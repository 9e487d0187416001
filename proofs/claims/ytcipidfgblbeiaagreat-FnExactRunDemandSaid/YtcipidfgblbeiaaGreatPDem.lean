/- Demands: the law. -/
import Derived.Test.YtcipidfgblbeiaaGreatLDem
namespace Go.AmT
open Go Go.Am
set_option linter.unusedVariables false
set_option linter.unusedSimpArgs false

theorem inR_i64 {x : Int} (h : InR I x) : -9223372036854775808 ≤ x ∧ x ≤ 9223372036854775807 := by
  have h : (Lit.int .i64 x).wf = true := h
  simp only [Lit.wf, Bool.and_eq_true, decide_eq_true_eq] at h
  have e1 : IntKind.i64.min = -9223372036854775808 := by decide
  have e2 : IntKind.i64.max = 9223372036854775807 := by decide
  omega
theorem law_true (nt : Network) (s : State) (link count most : Int) (h : InR tNetwork nt) (hst : InR tState s) (hm : InR I most) : ∃ n, law.f n nt s link count most = some (true, ()) := by
  refine ⟨1048577, ?_⟩
  have hn : 1048576 < 1048577 := by omega
  obtain ⟨hm1, hm2⟩ := inR_i64 hm
  unfold law.f
  obtain ⟨r, e, r1, r2⟩ := szNetwork_spec (n := 1048577) (left := 1048576) (by omega) h (by omega) (by omega)
  simp only [e, Option.bind_some]
  by_cases hr : r < 0
  · simp [hr, br]
  · rw [br_no hr]
    have hS := r2 (by omega)
    obtain ⟨q, e, q1, q2⟩ := szState_spec (n := 1048577) (left := r) (by omega) hst (by omega) (by omega)
    simp only [e, Option.bind_some]
    by_cases hq : q < 0
    · simp [hq, br]
    · rw [br_no hq]
      have hT := q2 (by omega)
      have hU := runDemand_small (n := 1048577) (nt := nt) (s := s) (link := link) (count := count) (most := most)
      have k1 := mNetwork_le (k := 1) hS
      have k2 := mState_le (k := (mNetwork nt 1).2) hT
      have k3 := mState_le (k := 1) hU
      have c1 : ¬ (mState s (mNetwork nt 1).2).2 < 0 := by omega
      have c2 : ¬ (mState (runDemand 1048577 nt s link count most).1 1).2 < 0 := by omega
      have m1 := markNetwork_spec (n := 1048577) hS (show (0 : Int) ≤ 1 by omega) (show (1 : Int) ≤ 281474976710656 by omega) hn
      have m2 := markState_spec (n := 1048577) (k := (mNetwork nt 1).2) hT (by omega) (by omega) hn
      have m3 := markState_spec (n := 1048577) hU (show (0 : Int) ≤ 1 by omega) (show (1 : Int) ≤ 281474976710656 by omega) hn
      have m4 := heldState_spec (n := 1048577) hU (show (0 : Int) ≤ 1 by omega) (show (1 : Int) ≤ 281474976710656 by omega) hn
      have m5 : heldState.f 1048577 ((mState (runDemand 1048577 nt s link count most).1 1).1.1, ((mState (runDemand 1048577 nt s link count most).1 1).1.2.1, ((mState (runDemand 1048577 nt s link count most).1 1).1.2.2.1, (runDemand 1048577 nt s link count most).1.2.2.2))) 1 = some ((mState (runDemand 1048577 nt s link count most).1 1).2, ()) := m4
      simp only [toNetwork_spec hS hn, toState_spec hT hn, sRunDemand_spec hS hT hn, iRunDemand_spec hS hT hn hm1 hm2, eqNetwork_refl hS hn, eqState_refl hT hn, eqState_refl hU hn, Option.bind_some, decide_true, Bool.not_true, br_false, cut_inr, m1, m2, m3, m5, c1, c2, decide_false]
end Go.AmT
