/- States as texts: what both programs write is the same. -/
import Derived.Test.YtgddbcdkhfdojaaDoorLFSt
import Derived.Test.YtgddbcdkhfdojaaDoorPTxtS
namespace Go.AmT
open Go Go.Am
set_option linter.unusedVariables false
set_option linter.unusedSimpArgs false
theorem law_true (nt : Network) (s : State) (h : InR tNetwork nt) (hst : InR tState s) : ∃ n, law.f n nt s = some (true, ()) := by
  refine ⟨1048577, ?_⟩
  have hn : 1048576 < 1048577 := by omega
  unfold law.f
  obtain ⟨r, e, r1, r2⟩ := szNetwork_spec (n := 1048577) (left := 1048576) (by omega) h (by omega) (by omega)
  simp only [e, Option.bind_some]
  by_cases hr : r < 0
  · simp [hr, br]
  · rw [br_no hr]
    have hS := r2 (by omega)
    obtain ⟨q, e, q1, q2⟩ := szState_spec (n := 1048577) (left := r) (by omega) hst (by omega) (by omega)
    simp only [e, Option.bind_some]
    by_cases hq : q < 0
    · simp [hq, br]
    · rw [br_no hq]
      have hT := q2 (by omega)
      simp only [toNetwork_spec hS hn, toState_spec hT hn, fmtState_spec hS hT hn, iFmtState_spec hS hT hn, eqNetwork_refl hS hn, eqState_refl hT hn, Option.bind_some, decide_true, Bool.not_true, br_false]
end Go.AmT
