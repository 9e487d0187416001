/- Networks that are marked, in plain Lean: no condition but that they are small. -/
import Derived.Test.YtgddbcdkhfdojaaDoorLMarkI
import Derived.Test.YtgddbcdkhfdojaaDoorPNet2
import Derived.Test.YtgddbcdkhfdojaaDoorPMark0
namespace Go.AmT
open Go Go.Am
set_option linter.unusedVariables false
set_option linter.unusedSimpArgs false

theorem w64_k {k : Int} (h0 : 0 ≤ k) (h1 : k ≤ 1152921504606847000) : w64 (k + 1) = k + 1 := w64_id (by omega) (by omega)

def mInstr (_ : Instr) (k : Int) : Instr × Int := ((k, k + 1, k + 2, k + 3), k + 4)
theorem mInstr_le {l : List Instr} {k : Int} (hl : l.length ≤ 1048576) (i : Nat) : k ≤ mkK mInstr l k i ∧ mkK mInstr l k i ≤ k + 4194304 := by
  have := mkK_le (f := mInstr) (l := l) (k := k) (B := 4) (by omega) (fun x _ k => by simp [mInstr]; omega) i
  omega
end Go.AmT
