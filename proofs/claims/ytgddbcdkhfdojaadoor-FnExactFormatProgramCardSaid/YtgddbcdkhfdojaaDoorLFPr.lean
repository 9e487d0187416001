/- Functions that the law FnExactFormatProgram reaches, each as a plain Lean function, and that each does what that says. No condition. -/
import Derived.Test.YtgddbcdkhfdojaaDoorPTxtP
namespace Go.AmT
open Go Go.Am Go.Proofs
set_option linter.unusedVariables false
set_option maxRecDepth 100000
def tys4 : List (Nat × TInfo) := [(3, ⟨false, 1, 8, [.int .i64 0], .int .i64, 0, some I, [], false⟩),
  (9, ⟨false, 1, 16, [.str []], .str, 0, some .str, [], false⟩),
  (30, ⟨true, 3, 40, [.int .i64 0, .int .i64 0, .nil], .struct, 0, some tProgram, [(0, 3), (1, 3), (2, 28)], false⟩),
  (35, ⟨true, 3, 40, [.int .i64 0, .int .i64 0, .nil], .struct, 0, some tProgram, [(0, 3), (1, 3), (2, 33)], false⟩)]
theorem tys4_ok : (tys4.all fun p => tokB Tryd.prog p.1 p.2) = true := by kernel_rfl

def law.las : List (Nat × LA) := []
noncomputable def law.f (n : Nat) (a0 : Program) : Option (Bool × Unit) := (szProgram.f n a0 1048576).bind fun r1 => br (decide (r1.1 < 0)) (some (true, ())) ((toProgram.f n a0).bind fun r2 => (fmtProgram.f n r2.1).bind fun r3 => (toProgram.f n a0).bind fun r4 => (iFmtProgram.f n r4.1).bind fun r5 => br (!decide (r5.1 = r3.1)) (some (false, ())) ((toProgram.f n a0).bind fun r6 => (eqProgram.f n r4.1 r6.1).bind fun r7 => br (!r7.1) (some (false, ())) (some (true, ()))))
noncomputable def law.mng (n : Nat) : Mng := ⟨[.val tProgram], [.val .bool], fun x => law.f n x.1⟩
noncomputable def law.cfg (n : Nat) : Cfg := ⟨tys4, [(12, szProgram.mng n), (14, toProgram.mng n), (13, fmtProgram.mng n), (15, iFmtProgram.mng n), (16, eqProgram.mng n)], [], []⟩
theorem law.eq : ∀ (n : Nat) (a0 : Program), runF (law.cfg n) n Tryd.f4 (annOf Tryd.f4 law.las) [.val tProgram] [.val .bool] (a0, ()) = law.f n a0 := by
  intros
  kernel_rfl
theorem law.sound (n : Nat) : Sound Tryd.prog 4 (law.mng n) := runF_sound (fn := Tryd.f4) (m := law.mng n) (c := law.cfg n) (regOK mixed (opOK (.of (c := law.cfg n) ⟨⟨szProgram.sound n, szProgram.gof⟩, ⟨⟨toProgram.sound n, toProgram.gof⟩, ⟨⟨fmtProgram.sound n, fmtProgram.gof⟩, ⟨⟨iFmtProgram.sound n, iFmtProgram.gof⟩, ⟨⟨eqProgram.sound n, eqProgram.gof⟩, trivial⟩⟩⟩⟩⟩) (.of (c := law.cfg n) trivial)) (tysOK tys4_ok)) (tysOK tys4_ok) Tryd.func4 (fun x => (law.eq n x.1).symm)
end Go.AmT
