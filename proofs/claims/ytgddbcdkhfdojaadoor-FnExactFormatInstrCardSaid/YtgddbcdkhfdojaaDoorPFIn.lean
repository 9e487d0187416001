/- Instructions as texts: what both programs write is the same. -/
import Derived.Test.YtgddbcdkhfdojaaDoorLFIn
import Derived.Test.YtgddbcdkhfdojaaDoorPTxtI
namespace Go.AmT
open Go Go.Am
theorem toInstr_id (n : Nat) (x : Instr) : toInstr.f n x = some (x, ()) := rfl
theorem law_true (x : Instr) : ∃ n, law.f n x = some (true, ()) := by
  refine ⟨1048577, ?_⟩
  unfold law.f
  simp only [toInstr_id, Option.bind_some, fmtInstr_spec (show 1048576 < 1048577 by omega), iFmtInstr_spec, decide_true, Bool.not_true, br_false]
end Go.AmT
