/- Functions that the law FnCounted reaches, each as a plain Lean function, and that each does what that says. No condition. -/
import Derived.Test.YtgepghodhnmhjaaPLeast
namespace Go.AmT
open Go Go.Am Go.Proofs
set_option linter.unusedVariables false
set_option maxRecDepth 100000
def tys14 : List (Nat × TInfo) := [(3, ⟨false, 1, 8, [.int .i64 0], .int .i64, 0, some I, [], false⟩),
  (9, ⟨false, 1, 16, [.str []], .str, 0, some .str, [], false⟩),
  (69, ⟨false, 1, 24, [.nil], .slice, 129, some (.sl tInstr), [], false⟩),
  (71, ⟨true, 3, 40, [.int .i64 0, .int .i64 0, .nil], .struct, 0, some tProgram, [(0, 3), (1, 3), (2, 69)], false⟩),
  (129, ⟨true, 4, 32, [.int .i64 0, .int .i64 0, .int .i64 0, .int .i64 0], .struct, 0, some tInstr, [(0, 3), (1, 3), (2, 3), (3, 3)], false⟩)]
theorem tys14_ok : (tys14.all fun p => tokB Try.prog p.1 p.2) = true := by kernel_rfl

def iSampleProgram3.las : List (Nat × LA) := []
def iSampleProgram3.la : LA := ⟨[(0, .int .i64), (1, .int .i64), (2, .own 0 tInstr)], [(0, .row true tInstr)], [], []⟩
def iSampleProgram3.lb : LA := ⟨[(0, .agg [.int .i64, .int .i64, .own 1000 tInstr])], [(1000, .row true tInstr)], [], []⟩
noncomputable def iSampleProgram3.f (n : Nat) (a0 : Int) (a1 : Int) (a2 : List Instr) : Option (Int × (Int × (List Instr) × Unit)) := chk ((a2.length + ([(8, (0, (0, 0)))] : List Instr).length) * 32 ≤ maxB) (some (a0, (a1, ((a2 ++ [(8, (0, (0, 0)))]), ()))))
noncomputable def iSampleProgram3.mng (n : Nat) : LMng := ⟨iSampleProgram3.la, iSampleProgram3.lb, fun x => iSampleProgram3.f n x.1 x.2.1 x.2.2.1⟩
noncomputable def iSampleProgram3.cfg (n : Nat) : Cfg := ⟨tys14, [], [], []⟩
theorem iSampleProgram3.eq : ∀ (n : Nat) (a0 : Int) (a1 : Int) (a2 : List Instr) (mp : Mp), LMng.run (iSampleProgram3.cfg n) n Try.f118 (annOf Try.f118 iSampleProgram3.las) iSampleProgram3.la iSampleProgram3.lb (a0, (a1, (a2, mp))) = iSampleProgram3.f n a0 a1 a2 := by
  intros
  kernel_rfl
theorem iSampleProgram3.gof : GoF Try.prog 118 := ⟨_, Try.func118, by kernel_rfl, by kernel_rfl⟩
theorem iSampleProgram3.sound (n : Nat) : LSound Try.prog 118 (iSampleProgram3.mng n) := runL_sound (fn := Try.f118) (M := iSampleProgram3.mng n) (c := iSampleProgram3.cfg n) (regOK mixed (opOK (.of (c := iSampleProgram3.cfg n) trivial) (.of (c := iSampleProgram3.cfg n) trivial)) (tysOK tys14_ok)) (tysOK tys14_ok) Try.func118 (fun x => (iSampleProgram3.eq n x.1 x.2.1 x.2.2.1 x.2.2.2).symm)

def iSampleProgram1.las : List (Nat × LA) := []
noncomputable def iSampleProgram1.f (n : Nat) (a0 : Int) (a1 : Int) : Option (Instr × Unit) := some ((1, (a0, (a1, 0))), ())
noncomputable def iSampleProgram1.mng (n : Nat) : Mng := ⟨[.val I, .val I], [.val tInstr], fun x => iSampleProgram1.f n x.1 x.2.1⟩
noncomputable def iSampleProgram1.cfg (n : Nat) : Cfg := ⟨tys14, [], [], []⟩
theorem iSampleProgram1.eq : ∀ (n : Nat) (a0 : Int) (a1 : Int), runF (iSampleProgram1.cfg n) n Try.f116 (annOf Try.f116 iSampleProgram1.las) [.val I, .val I] [.val tInstr] (a0, (a1, ())) = iSampleProgram1.f n a0 a1 := by
  intros
  kernel_rfl
theorem iSampleProgram1.gof : GoF Try.prog 116 := ⟨_, Try.func116, by kernel_rfl, by kernel_rfl⟩
theorem iSampleProgram1.sound (n : Nat) : Sound Try.prog 116 (iSampleProgram1.mng n) := runF_sound (fn := Try.f116) (m := iSampleProgram1.mng n) (c := iSampleProgram1.cfg n) (regOK mixed (opOK (.of (c := iSampleProgram1.cfg n) trivial) (.of (c := iSampleProgram1.cfg n) trivial)) (tysOK tys14_ok)) (tysOK tys14_ok) Try.func116 (fun x => (iSampleProgram1.eq n x.1 x.2.1).symm)

def iSampleProgram2.las : List (Nat × LA) := []
noncomputable def iSampleProgram2.f (n : Nat) (a0 : Int) (a1 : Int) : Option (Instr × Unit) := some ((2, (a0, (a1, 0))), ())
noncomputable def iSampleProgram2.mng (n : Nat) : Mng := ⟨[.val I, .val I], [.val tInstr], fun x => iSampleProgram2.f n x.1 x.2.1⟩
noncomputable def iSampleProgram2.cfg (n : Nat) : Cfg := ⟨tys14, [], [], []⟩
theorem iSampleProgram2.eq : ∀ (n : Nat) (a0 : Int) (a1 : Int), runF (iSampleProgram2.cfg n) n Try.f117 (annOf Try.f117 iSampleProgram2.las) [.val I, .val I] [.val tInstr] (a0, (a1, ())) = iSampleProgram2.f n a0 a1 := by
  intros
  kernel_rfl
theorem iSampleProgram2.gof : GoF Try.prog 117 := ⟨_, Try.func117, by kernel_rfl, by kernel_rfl⟩
theorem iSampleProgram2.sound (n : Nat) : Sound Try.prog 117 (iSampleProgram2.mng n) := runF_sound (fn := Try.f117) (m := iSampleProgram2.mng n) (c := iSampleProgram2.cfg n) (regOK mixed (opOK (.of (c := iSampleProgram2.cfg n) trivial) (.of (c := iSampleProgram2.cfg n) trivial)) (tysOK tys14_ok)) (tysOK tys14_ok) Try.func117 (fun x => (iSampleProgram2.eq n x.1 x.2.1).symm)

def iSampleProgram.las : List (Nat × LA) := []
noncomputable def iSampleProgram.f (n : Nat) (a0 : List UInt8) : Option (Program × Unit) := br (decide (a0 = ([116, 104, 114, 111, 117, 103, 104] : List UInt8))) ((iSampleProgram1.f n 0 0).bind fun r1 => (iSampleProgram2.f n 0 0).bind fun r2 => (iSampleProgram3.f n 1 1 ([r1.1, r2.1] : List Instr)).bind fun r3 => some ((r3.1, (r3.2.1, r3.2.2.1)), ())) (br (decide (a0 = ([99, 111, 112, 121] : List UInt8))) ((iSampleProgram1.f n 0 0).bind fun r4 => (iSampleProgram2.f n 0 0).bind fun r5 => (iSampleProgram2.f n 0 1).bind fun r6 => (iSampleProgram3.f n 1 2 ([r4.1, r5.1, r6.1] : List Instr)).bind fun r7 => some ((r7.1, (r7.2.1, r7.2.2.1)), ())) (br (decide (a0 = ([115, 105, 110, 107] : List UInt8))) ((iSampleProgram1.f n 0 0).bind fun r8 => (iSampleProgram3.f n 1 0 ([r8.1] : List Instr)).bind fun r9 => some ((r9.1, (r9.2.1, r9.2.2.1)), ())) (br (decide (a0 = ([97, 100, 100] : List UInt8))) ((iSampleProgram1.f n 0 0).bind fun r10 => (iSampleProgram1.f n 1 1).bind fun r11 => (iSampleProgram2.f n 0 0).bind fun r12 => (iSampleProgram3.f n 2 1 ([r10.1, r11.1, (4, (0, (0, 1))), r12.1] : List Instr)).bind fun r13 => some ((r13.1, (r13.2.1, r13.2.2.1)), ())) (br (decide (a0 = ([97, 108, 116, 101, 114, 110, 97, 116, 101] : List UInt8))) ((iSampleProgram1.f n 0 0).bind fun r14 => (iSampleProgram2.f n 0 0).bind fun r15 => (iSampleProgram1.f n 0 1).bind fun r16 => (iSampleProgram2.f n 0 0).bind fun r17 => (iSampleProgram3.f n 2 1 ([r14.1, r15.1, r16.1, r17.1] : List Instr)).bind fun r18 => some ((r18.1, (r18.2.1, r18.2.2.1)), ())) (br (decide (a0 = ([115, 112, 108, 105, 116] : List UInt8))) ((iSampleProgram1.f n 0 0).bind fun r19 => (iSampleProgram2.f n 0 0).bind fun r20 => (iSampleProgram1.f n 0 0).bind fun r21 => (iSampleProgram2.f n 0 1).bind fun r22 => (iSampleProgram3.f n 1 2 ([r19.1, r20.1, r21.1, r22.1] : List Instr)).bind fun r23 => some ((r23.1, (r23.2.1, r23.2.2.1)), ())) (br (decide (a0 = ([115, 117, 109, 115] : List UInt8))) ((iSampleProgram1.f n 1 0).bind fun r24 => (iSampleProgram2.f n 0 0).bind fun r25 => (iSampleProgram3.f n 1 1 ([r24.1, (4, (0, (0, 1))), r25.1] : List Instr)).bind fun r26 => some ((r26.1, (r26.2.1, r26.2.2.1)), ())) (br (decide (a0 = ([115, 116, 101, 112, 115] : List UInt8))) ((iSampleProgram1.f n 1 0).bind fun r27 => (iSampleProgram2.f n 2 0).bind fun r28 => (iSampleProgram3.f n 1 1 ([r27.1, (5, (2, (1, 0))), r28.1, (3, (3, (0, 0))), (4, (0, (1, 3)))] : List Instr)).bind fun r29 => some ((r29.1, (r29.2.1, r29.2.2.1)), ())) (br (decide (a0 = ([116, 119, 105, 99, 101] : List UInt8))) ((iSampleProgram1.f n 0 0).bind fun r30 => (iSampleProgram2.f n 0 0).bind fun r31 => (iSampleProgram2.f n 0 0).bind fun r32 => (iSampleProgram3.f n 1 1 ([r30.1, r31.1, r32.1] : List Instr)).bind fun r33 => some ((r33.1, (r33.2.1, r33.2.2.1)), ())) (br (decide (a0 = ([99, 111, 117, 110, 116] : List UInt8))) ((iSampleProgram2.f n 0 0).bind fun r34 => (iSampleProgram3.f n 0 1 ([r34.1, (3, (1, (1, 0))), (4, (0, (0, 1)))] : List Instr)).bind fun r35 => some ((r35.1, (r35.2.1, r35.2.2.1)), ())) (br (decide (a0 = ([112, 105, 99, 107] : List UInt8))) ((iSampleProgram1.f n 0 0).bind fun r36 => (iSampleProgram1.f n 1 2).bind fun r37 => (iSampleProgram1.f n 1 1).bind fun r38 => (iSampleProgram2.f n 1 0).bind fun r39 => (iSampleProgram3.f n 3 1 ([r36.1, (9, (0, (4, 0))), r37.1, (8, (0, (5, 0))), r38.1, r39.1] : List Instr)).bind fun r40 => some ((r40.1, (r40.2.1, r40.2.2.1)), ())) (some ((0, (0, [])), ()))))))))))))
noncomputable def iSampleProgram.mng (n : Nat) : Mng := ⟨[.val .str], [.val tProgram], fun x => iSampleProgram.f n x.1⟩
noncomputable def iSampleProgram.cfg (n : Nat) : Cfg := ⟨tys14, [(116, iSampleProgram1.mng n), (117, iSampleProgram2.mng n)], [(118, iSampleProgram3.mng n)], []⟩
theorem iSampleProgram.eq : ∀ (n : Nat) (a0 : List UInt8), runF (iSampleProgram.cfg n) n Try.f52 (annOf Try.f52 iSampleProgram.las) [.val .str] [.val tProgram] (a0, ()) = iSampleProgram.f n a0 := by
  intros
  kernel_rfl
theorem iSampleProgram.gof : GoF Try.prog 52 := ⟨_, Try.func52, by kernel_rfl, by kernel_rfl⟩
theorem iSampleProgram.sound (n : Nat) : Sound Try.prog 52 (iSampleProgram.mng n) := runF_sound (fn := Try.f52) (m := iSampleProgram.mng n) (c := iSampleProgram.cfg n) (regOK mixed (opOK (.of (c := iSampleProgram.cfg n) ⟨⟨iSampleProgram1.sound n, iSampleProgram1.gof⟩, ⟨⟨iSampleProgram2.sound n, iSampleProgram2.gof⟩, trivial⟩⟩) (.of (c := iSampleProgram.cfg n) ⟨⟨iSampleProgram3.sound n, iSampleProgram3.gof⟩, trivial⟩)) (tysOK tys14_ok)) (tysOK tys14_ok) Try.func52 (fun x => (iSampleProgram.eq n x.1).symm)
end Go.AmT
