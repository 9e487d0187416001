/- Functions that the law FnExactParseProgram reaches, each as a plain Lean function, and that each does what that says. No condition. -/
import Derived.Test.YtgddbcdkhfdojaaDoorPTxtI
namespace Go.AmT
open Go Go.Am Go.Proofs
set_option linter.unusedVariables false
set_option maxRecDepth 100000
def tys5 : List (Nat × TInfo) := [(3, ⟨false, 1, 8, [.int .i64 0], .int .i64, 0, some I, [], false⟩),
  (9, ⟨false, 1, 16, [.str []], .str, 0, some .str, [], false⟩),
  (25, ⟨true, 4, 32, [.int .i64 0, .int .i64 0, .int .i64 0, .int .i64 0], .struct, 0, some tInstr, [(0, 3), (1, 3), (2, 3), (3, 3)], false⟩),
  (33, ⟨false, 1, 24, [.nil], .slice, 25, some (.sl tInstr), [], false⟩),
  (35, ⟨true, 3, 40, [.int .i64 0, .int .i64 0, .nil], .struct, 0, some tProgram, [(0, 3), (1, 3), (2, 33)], false⟩),
  (72, ⟨false, 1, 24, [.nil], .slice, 9, some (.sl .str), [], false⟩)]
theorem tys5_ok : (tys5.all fun p => tokB Tryd.prog p.1 p.2) = true := by kernel_rfl

def fmtProgram.las : List (Nat × LA) := [(7, ⟨[(3, .str), (20, .int .i64)], [], [18, 19], []⟩)]
noncomputable def fmtProgram.f (n : Nat) (a0 : Program) : Option ((List UInt8) × Unit) := (sIsProgram.f n a0).bind fun r1 => br (!r1.1) (some ([], ())) ((l1Number.f n a0.1).bind fun r2 => chk (r2.1.length + ([59] : List UInt8).length < maxS) ((l1Number.f n a0.2.1).bind fun r3 => chk ((r2.1 ++ ([59] : List UInt8)).length + r3.1.length < maxS) (iter (α := ((List UInt8) × (Int × Unit))) n (fun ih11 x10 => br (decide (x10.2.1 < (a0.2.2.length : Int))) (chk (0 ≤ x10.2.1 ∧ x10.2.1 < (a0.2.2.length : Int)) (let v12 := (a0.2.2.getD x10.2.1.toNat zInstr); chk (x10.1.length + ([59] : List UInt8).length < maxS) ((fmtInstr.f n v12).bind fun r13 => chk ((x10.1 ++ ([59] : List UInt8)).length + r13.1.length < maxS) (ih11 (((x10.1 ++ ([59] : List UInt8)) ++ r13.1), ((w64 (x10.2.1 + 1)), ())))))) (some (x10.1, ()))) (((r2.1 ++ ([59] : List UInt8)) ++ r3.1), (0, ())))))
noncomputable def fmtProgram.mng (n : Nat) : Mng := ⟨[.val tProgram], [.val .str], fun x => fmtProgram.f n x.1⟩
noncomputable def fmtProgram.cfg (n : Nat) : Cfg := ⟨tys5, [(43, sIsProgram.mng n), (9, fmtInstr.mng n)], [(37, l1Number.mng n)], []⟩
theorem fmtProgram.eq : ∀ (n : Nat) (a0 : Program), runF (fmtProgram.cfg n) n Tryd.f13 (annOf Tryd.f13 fmtProgram.las) [.val tProgram] [.val .str] (a0, ()) = fmtProgram.f n a0 := by
  intros
  kernel_rfl
theorem fmtProgram.gof : GoF Tryd.prog 13 := ⟨_, Tryd.func13, by kernel_rfl, by kernel_rfl⟩
theorem fmtProgram.sound (n : Nat) : Sound Tryd.prog 13 (fmtProgram.mng n) := runF_sound (fn := Tryd.f13) (m := fmtProgram.mng n) (c := fmtProgram.cfg n) (regOK mixed (opOK (.of (c := fmtProgram.cfg n) ⟨⟨sIsProgram.sound n, sIsProgram.gof⟩, ⟨⟨fmtInstr.sound n, fmtInstr.gof⟩, trivial⟩⟩) (.of (c := fmtProgram.cfg n) ⟨⟨l1Number.sound n, l1Number.gof⟩, trivial⟩)) (tysOK tys5_ok)) (tysOK tys5_ok) Tryd.func13 (fun x => (fmtProgram.eq n x.1).symm)

end Go.AmT
