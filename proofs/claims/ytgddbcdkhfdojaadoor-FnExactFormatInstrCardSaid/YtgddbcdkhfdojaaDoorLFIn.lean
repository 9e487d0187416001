/- Functions that the law FnExactFormatInstr reaches, each as a plain Lean function, and that each does what that says. No condition. -/
import Derived.Test.YtgddbcdkhfdojaaDoorPTxtI
namespace Go.AmT
open Go Go.Am Go.Proofs
set_option linter.unusedVariables false
set_option maxRecDepth 100000
def tys3 : List (Nat × TInfo) := [(9, ⟨false, 1, 16, [.str []], .str, 0, some .str, [], false⟩),
  (23, ⟨true, 4, 32, [.int .i64 0, .int .i64 0, .int .i64 0, .int .i64 0], .struct, 0, some tInstr, [(0, 3), (1, 3), (2, 3), (3, 3)], false⟩)]
theorem tys3_ok : (tys3.all fun p => tokB Tryd.prog p.1 p.2) = true := by kernel_rfl

def law.las : List (Nat × LA) := []
noncomputable def law.f (n : Nat) (a0 : Instr) : Option (Bool × Unit) := (toInstr.f n a0).bind fun r1 => (fmtInstr.f n r1.1).bind fun r2 => (toInstr.f n a0).bind fun r3 => (iFmtInstr.f n r3.1).bind fun r4 => br (!decide (r4.1 = r2.1)) (some (false, ())) (some (true, ()))
noncomputable def law.mng (n : Nat) : Mng := ⟨[.val tInstr], [.val .bool], fun x => law.f n x.1⟩
noncomputable def law.cfg (n : Nat) : Cfg := ⟨tys3, [(10, toInstr.mng n), (9, fmtInstr.mng n), (11, iFmtInstr.mng n)], [], []⟩
theorem law.eq : ∀ (n : Nat) (a0 : Instr), runF (law.cfg n) n Tryd.f3 (annOf Tryd.f3 law.las) [.val tInstr] [.val .bool] (a0, ()) = law.f n a0 := by
  intros
  kernel_rfl
theorem law.sound (n : Nat) : Sound Tryd.prog 3 (law.mng n) := runF_sound (fn := Tryd.f3) (m := law.mng n) (c := law.cfg n) (regOK mixed (opOK (.of (c := law.cfg n) ⟨⟨toInstr.sound n, toInstr.gof⟩, ⟨⟨fmtInstr.sound n, fmtInstr.gof⟩, ⟨⟨iFmtInstr.sound n, iFmtInstr.gof⟩, trivial⟩⟩⟩) (.of (c := law.cfg n) trivial)) (tysOK tys3_ok)) (tysOK tys3_ok) Tryd.func3 (fun x => (law.eq n x.1).symm)
end Go.AmT
