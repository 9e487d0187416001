/- Programs as texts: what both programs write is the same. -/
import Derived.Test.YtgddbcdkhfdojaaDoorLFPr
import Derived.Test.YtgddbcdkhfdojaaDoorPTxtP
namespace Go.AmT
open Go Go.Am
theorem law_true (p : Program) (h : InR tProgram p) : ∃ n, law.f n p = some (true, ()) := by
  refine ⟨1048577, ?_⟩
  have hn : 1048576 < 1048577 := by omega
  unfold law.f
  obtain ⟨r, e, r1, r2⟩ := szProgram_spec (p := p) 1048577 (left := 1048576) h.2.2.1 (by omega) (by omega)
  simp only [e, Option.bind_some]
  by_cases hr : r < 0
  · simp [hr, br]
  · rw [br_no hr]
    have hS := r2 (by omega)
    simp only [toProgram_spec hS hn, fmtProgram_spec hS hn, iFmtProgram_spec hS hn, eqProgram_refl hS hn, Option.bind_some, decide_true, Bool.not_true, br_false]
end Go.AmT
