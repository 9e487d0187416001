/- Functions that the law FnExactParseNetwork reaches, each as a plain Lean function, and that each does what that says. No condition. -/
import Derived.Test.YtgddbcdkhfdojaaGreatDoorPTxtI
namespace Go.AmT
open Go Go.Am Go.Proofs
set_option linter.unusedVariables false
set_option maxRecDepth 100000
def tys5 : List (Nat × TInfo) := [(3, ⟨false, 1, 8, [.int .i64 0], .int .i64, 0, some I, [], false⟩),
  (9, ⟨false, 1, 16, [.str []], .str, 0, some .str, [], false⟩),
  (60, ⟨false, 1, 24, [.nil], .slice, 72, some (.sl tInstr), [], false⟩),
  (62, ⟨true, 3, 40, [.int .i64 0, .int .i64 0, .nil], .struct, 0, some tProgram, [(0, 3), (1, 3), (2, 60)], false⟩),
  (72, ⟨true, 4, 32, [.int .i64 0, .int .i64 0, .int .i64 0, .int .i64 0], .struct, 0, some tInstr, [(0, 3), (1, 3), (2, 3), (3, 3)], false⟩),
  (77, ⟨false, 1, 24, [.nil], .slice, 9, some (.sl .str), [], false⟩)]
theorem tys5_ok : (tys5.all fun p => tokB Tryz.prog p.1 p.2) = true := by kernel_rfl

def fmtProgram.las : List (Nat × LA) := [(7, ⟨[(3, .str), (20, .int .i64)], [], [18, 19], []⟩)]
noncomputable def fmtProgram.f (n : Nat) (a0 : Program) : Option ((List UInt8) × Unit) := (sIsProgram.f n a0).bind fun r1 => br (!r1.1) (some ([], ())) ((l1Number.f n a0.1).bind fun r2 => chk (r2.1.length + ([59] : List UInt8).length < maxS) ((l1Number.f n a0.2.1).bind fun r3 => chk ((r2.1 ++ ([59] : List UInt8)).length + r3.1.length < maxS) (iter (α := ((List UInt8) × (Int × Unit))) n (fun ih11 x10 => br (decide (x10.2.1 < (a0.2.2.length : Int))) (chk (0 ≤ x10.2.1 ∧ x10.2.1 < (a0.2.2.length : Int)) (let v12 := (a0.2.2.getD x10.2.1.toNat zInstr); chk (x10.1.length + ([59] : List UInt8).length < maxS) ((fmtInstr.f n v12).bind fun r13 => chk ((x10.1 ++ ([59] : List UInt8)).length + r13.1.length < maxS) (ih11 (((x10.1 ++ ([59] : List UInt8)) ++ r13.1), ((w64 (x10.2.1 + 1)), ())))))) (some (x10.1, ()))) (((r2.1 ++ ([59] : List UInt8)) ++ r3.1), (0, ())))))
noncomputable def fmtProgram.mng (n : Nat) : Mng := ⟨[.val tProgram], [.val .str], fun x => fmtProgram.f n x.1⟩
noncomputable def fmtProgram.cfg (n : Nat) : Cfg := ⟨tys5, [(95, sIsProgram.mng n), (97, fmtInstr.mng n)], [(96, l1Number.mng n)], []⟩
theorem fmtProgram.eq : ∀ (n : Nat) (a0 : Program), runF (fmtProgram.cfg n) n Tryz.f38 (annOf Tryz.f38 fmtProgram.las) [.val tProgram] [.val .str] (a0, ()) = fmtProgram.f n a0 := by
  intros
  kernel_rfl
theorem fmtProgram.gof : GoF Tryz.prog 38 := ⟨_, Tryz.func38, by kernel_rfl, by kernel_rfl⟩
theorem fmtProgram.sound (n : Nat) : Sound Tryz.prog 38 (fmtProgram.mng n) := runF_sound (fn := Tryz.f38) (m := fmtProgram.mng n) (c := fmtProgram.cfg n) (regOK mixed (opOK (.of (c := fmtProgram.cfg n) ⟨⟨sIsProgram.sound n, sIsProgram.gof⟩, ⟨⟨fmtInstr.sound n, fmtInstr.gof⟩, trivial⟩⟩) (.of (c := fmtProgram.cfg n) ⟨⟨l1Number.sound n, l1Number.gof⟩, trivial⟩)) (tysOK tys5_ok)) (tysOK tys5_ok) Tryz.func38 (fun x => (fmtProgram.eq n x.1).symm)

def iFmtProgram.las : List (Nat × LA) := [(7, ⟨[(3, .own 1000 .str), (19, .int .i64)], [(1000, .row true .str)], [17, 18], []⟩)]
noncomputable def iFmtProgram.f (n : Nat) (a0 : Program) : Option ((List UInt8) × Unit) := (iIsProgram.f n a0).bind fun r1 => br (!r1.1) (some ([], ())) ((itoaC.f n a0.1).bind fun r2 => (itoaC.f n a0.2.1).bind fun r3 => iter (α := (Int × (List (List UInt8)) × Unit)) n (fun ih11 x10 => br (decide (x10.1 < (a0.2.2.length : Int))) (chk (0 ≤ x10.1 ∧ x10.1 < (a0.2.2.length : Int)) (let v12 := (a0.2.2.getD x10.1.toNat zInstr); (iFmtInstr.f n v12).bind fun r13 => chk ((x10.2.1.length + ([r13.1] : List (List UInt8)).length) * 16 ≤ maxB) (ih11 ((w64 (x10.1 + 1)), ((x10.2.1 ++ [r13.1]), ()))))) ((joinC.f n x10.2.1 ([59] : List UInt8)).bind fun r14 => some (r14.1, ()))) (0, ([r2.1, r3.1], ())))
noncomputable def iFmtProgram.mng (n : Nat) : Mng := ⟨[.val tProgram], [.val .str], fun x => iFmtProgram.f n x.1⟩
noncomputable def iFmtProgram.cfg (n : Nat) : Cfg := ⟨tys5, [(90, iIsProgram.mng n), (81, itoaC.mng n), (36, iFmtInstr.mng n), (89, joinC.mng n)], [], []⟩
theorem iFmtProgram.eq : ∀ (n : Nat) (a0 : Program), runF (iFmtProgram.cfg n) n Tryz.f34 (annOf Tryz.f34 iFmtProgram.las) [.val tProgram] [.val .str] (a0, ()) = iFmtProgram.f n a0 := by
  intros
  kernel_rfl
theorem iFmtProgram.gof : GoF Tryz.prog 34 := ⟨_, Tryz.func34, by kernel_rfl, by kernel_rfl⟩
theorem iFmtProgram.sound (n : Nat) : Sound Tryz.prog 34 (iFmtProgram.mng n) := runF_sound (fn := Tryz.f34) (m := iFmtProgram.mng n) (c := iFmtProgram.cfg n) (regOK mixed (opOK (.of (c := iFmtProgram.cfg n) ⟨⟨iIsProgram.sound n, iIsProgram.gof⟩, ⟨⟨itoaC.sound n, itoaC.gof⟩, ⟨⟨iFmtInstr.sound n, iFmtInstr.gof⟩, ⟨⟨joinC.sound n, joinC.gof⟩, trivial⟩⟩⟩⟩) (.of (c := iFmtProgram.cfg n) trivial)) (tysOK tys5_ok)) (tysOK tys5_ok) Tryz.func34 (fun x => (iFmtProgram.eq n x.1).symm)
end Go.AmT
