/- Instructions that are read: both programs read the same. -/
import Derived.Test.YtgddbcdkhfdojaaDoorLPIn
import Derived.Test.YtgddbcdkhfdojaaDoorPTxtJ
namespace Go.AmT
open Go Go.Am
theorem law_true (s : List UInt8) : ∃ n, law.f n s = some (true, ()) := by
  refine ⟨1048578, ?_⟩
  unfold law.f
  by_cases hl : s.length ≤ 1048576
  · rw [br_no (by omega)]
    obtain ⟨r, e1, e2, _⟩ := parseI_same (n := 1048578) hl (by omega)
    simp only [e1, e2, Option.bind_some, eqInstr_refl, decide_true, Bool.not_true, br_false]
  · rw [br_yes (by omega)]
end Go.AmT
