/- Functions that the law FnUniform reaches, each as a plain Lean function, and that each does what that says. No condition. -/
import Derived.Test.YtgepghodhnmhjaaPNet2
namespace Go.AmT
open Go Go.Am Go.Proofs
set_option linter.unusedVariables false
set_option maxRecDepth 100000
def tys3 : List (Nat × TInfo) := []
theorem tys3_ok : (tys3.all fun p => tokB Try.prog p.1 p.2) = true := by kernel_rfl


end Go.AmT
