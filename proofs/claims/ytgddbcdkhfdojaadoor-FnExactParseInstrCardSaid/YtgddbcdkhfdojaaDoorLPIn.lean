/- Functions that the law FnExactParseInstr reaches, each as a plain Lean function, and that each does what that says. No condition. -/
import Derived.Test.YtgddbcdkhfdojaaDoorPTxtJ
namespace Go.AmT
open Go Go.Am Go.Proofs
set_option linter.unusedVariables false
set_option maxRecDepth 100000
def tys5 : List (Nat × TInfo) := [(3, ⟨false, 1, 8, [.int .i64 0], .int .i64, 0, some I, [], false⟩),
  (4, ⟨false, 1, 1, [.bool false], .bool, 0, some .bool, [], false⟩),
  (9, ⟨false, 1, 16, [.str []], .str, 0, some .str, [], false⟩),
  (25, ⟨true, 4, 32, [.int .i64 0, .int .i64 0, .int .i64 0, .int .i64 0], .struct, 0, some tInstr, [(0, 3), (1, 3), (2, 3), (3, 3)], false⟩)]
theorem tys5_ok : (tys5.all fun p => tokB Tryd.prog p.1 p.2) = true := by kernel_rfl

def law.las : List (Nat × LA) := []
noncomputable def law.f (n : Nat) (a0 : List UInt8) : Option (Bool × Unit) := br (decide (1048576 < (a0.length : Int))) (some (true, ())) ((sParseInstr.f n a0).bind fun r1 => (iParseInstr.f n a0).bind fun r2 => (eqInstr.f n r2.1 r1.1).bind fun r3 => br (!r3.1) (some (false, ())) (br (!decide (r2.2.1 = r1.2.1)) (some (false, ())) (some (true, ()))))
noncomputable def law.mng (n : Nat) : Mng := ⟨[.val .str], [.val .bool], fun x => law.f n x.1⟩
noncomputable def law.cfg (n : Nat) : Cfg := ⟨tys5, [(22, sParseInstr.mng n), (23, iParseInstr.mng n), (24, eqInstr.mng n)], [], []⟩
theorem law.eq : ∀ (n : Nat) (a0 : List UInt8), runF (law.cfg n) n Tryd.f6 (annOf Tryd.f6 law.las) [.val .str] [.val .bool] (a0, ()) = law.f n a0 := by
  intros
  kernel_rfl
theorem law.sound (n : Nat) : Sound Tryd.prog 6 (law.mng n) := runF_sound (fn := Tryd.f6) (m := law.mng n) (c := law.cfg n) (regOK mixed (opOK (.of (c := law.cfg n) ⟨⟨sParseInstr.sound n, sParseInstr.gof⟩, ⟨⟨iParseInstr.sound n, iParseInstr.gof⟩, ⟨⟨eqInstr.sound n, eqInstr.gof⟩, trivial⟩⟩⟩) (.of (c := law.cfg n) trivial)) (tysOK tys5_ok)) (tysOK tys5_ok) Tryd.func6 (fun x => (law.eq n x.1).symm)
end Go.AmT
