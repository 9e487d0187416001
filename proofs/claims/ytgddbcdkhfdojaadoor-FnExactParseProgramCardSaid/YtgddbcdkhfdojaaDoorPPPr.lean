/- Programs that are read: both programs read the same. -/
import Derived.Test.YtgddbcdkhfdojaaDoorLPPr
import Derived.Test.YtgddbcdkhfdojaaDoorPTxtK
import Derived.Test.YtgddbcdkhfdojaaDoorPMarkI
namespace Go.AmT
open Go Go.Am
theorem law_true (s : List UInt8) : ∃ n, law.f n s = some (true, ()) := by
  refine ⟨1048578, ?_⟩
  have hn : 1048576 < 1048578 := by omega
  unfold law.f
  by_cases hl : s.length ≤ 1048576
  · rw [br_no (by omega)]
    obtain ⟨r, e1, e2, h⟩ := parseP_same (n := 1048578) hl (by omega)
    have hS := toldP_small h
    simp only [e1, e2, Option.bind_some, eqProgram_refl hS hn, decide_true, Bool.not_true, br_false, cut_inr, markProgram_spec hS hn, heldProgram_spec hS hn, marks_pos hS, decide_false]
  · rw [br_yes (by omega)]
end Go.AmT
