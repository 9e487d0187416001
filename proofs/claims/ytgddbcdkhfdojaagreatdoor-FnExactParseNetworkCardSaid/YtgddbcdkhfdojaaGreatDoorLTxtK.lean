/- Functions that the law FnExactParseNetwork reaches, each as a plain Lean function, and that each does what that says. No condition. -/
import Derived.Test.YtgddbcdkhfdojaaGreatDoorPTxtJ
import Derived.Test.YtgddbcdkhfdojaaGreatDoorPTxtP
namespace Go.AmT
open Go Go.Am Go.Proofs
set_option linter.unusedVariables false
set_option maxRecDepth 100000
def tys6 : List (Nat × TInfo) := [(3, ⟨false, 1, 8, [.int .i64 0], .int .i64, 0, some I, [], false⟩),
  (9, ⟨false, 1, 16, [.str []], .str, 0, some .str, [], false⟩),
  (60, ⟨false, 1, 24, [.nil], .slice, 72, some (.sl tInstr), [], false⟩),
  (62, ⟨true, 3, 40, [.int .i64 0, .int .i64 0, .nil], .struct, 0, some tProgram, [(0, 3), (1, 3), (2, 60)], false⟩),
  (72, ⟨true, 4, 32, [.int .i64 0, .int .i64 0, .int .i64 0, .int .i64 0], .struct, 0, some tInstr, [(0, 3), (1, 3), (2, 3), (3, 3)], false⟩),
  (77, ⟨false, 1, 24, [.nil], .slice, 9, some (.sl .str), [], false⟩)]
theorem tys6_ok : (tys6.all fun p => tokB Tryz.prog p.1 p.2) = true := by kernel_rfl

def iParseProgram.las : List (Nat × LA) := [(10, ⟨[(9, .vptr 1000 0), (40, .int .i64)], [(1000, .cells [] [.int .i64, .int .i64, .own 1001 tInstr]), (1001, .row true tInstr)], [2, 6, 8, 38, 39], []⟩), (21, ⟨[(69, .bool)], [], [2, 9], []⟩)]
noncomputable def iParseProgram.f (n : Nat) (a0 : List UInt8) : Option (Program × (Bool × Unit)) := (splitC.f n a0 ([59] : List UInt8)).bind fun r1 => br (decide ((r1.1.length : Int) < 3)) (some ((0, (0, [])), (false, ()))) (chk ((0 : Int) ≤ 0 ∧ (0 : Int) < (r1.1.length : Int)) ((iNumber.f n (r1.1.getD 0 [])).bind fun r2 => chk ((0 : Int) ≤ 1 ∧ (1 : Int) < (r1.1.length : Int)) ((iNumber.f n (r1.1.getD 1 [])).bind fun r3 => chk ((0 : Int) ≤ 2 ∧ (2 : Int) ≤ (r1.1.length : Int) ∧ (r1.1.length : Int) ≤ (r1.1.length : Int)) (iter (α := (Int × (Int × (Int × (List Instr) × Unit)))) n (fun ih30 x29 => br (decide (x29.1 < (((r1.1.take (r1.1.length : Int).toNat).drop 2).length : Int))) (chk (0 ≤ x29.1 ∧ x29.1 < (((r1.1.take (r1.1.length : Int).toNat).drop 2).length : Int)) (let v31 := (((r1.1.take (r1.1.length : Int).toNat).drop 2).getD x29.1.toNat []); (iParseInstr.f n v31).bind fun r32 => br (!r32.2.1) (some ((0, (0, [])), (false, ()))) (chk ((x29.2.2.2.1.length + ([r32.1] : List Instr).length) * 32 ≤ maxB) (ih30 ((w64 (x29.1 + 1)), (x29.2.1, (x29.2.2.1, ((x29.2.2.2.1 ++ [r32.1]), ())))))))) (cut (α := (Bool × Unit)) (br (!r2.2.1) (some (.inr (true, ()))) (br (!r3.2.1) (some (.inr (true, ()))) ((iIsProgram.f n (x29.2.1, (x29.2.2.1, x29.2.2.2.1))).bind fun r35 => some (.inr ((!r35.1), ()))))) fun y34 => br y34.1 (some ((0, (0, [])), (false, ()))) (some ((x29.2.1, (x29.2.2.1, x29.2.2.2.1)), (true, ()))))) (0, (r2.1, (r3.1, ([], ()))))))))
noncomputable def iParseProgram.mng (n : Nat) : Mng := ⟨[.val .str], [.val tProgram, .val .bool], fun x => iParseProgram.f n x.1⟩
noncomputable def iParseProgram.cfg (n : Nat) : Cfg := ⟨tys6, [(61, splitC.mng n), (62, iNumber.mng n), (35, iParseInstr.mng n), (90, iIsProgram.mng n)], [], []⟩
theorem iParseProgram.eq : ∀ (n : Nat) (a0 : List UInt8), runF (iParseProgram.cfg n) n Tryz.f33 (annOf Tryz.f33 iParseProgram.las) [.val .str] [.val tProgram, .val .bool] (a0, ()) = iParseProgram.f n a0 := by
  intros
  kernel_rfl
theorem iParseProgram.gof : GoF Tryz.prog 33 := ⟨_, Tryz.func33, by kernel_rfl, by kernel_rfl⟩
theorem iParseProgram.sound (n : Nat) : Sound Tryz.prog 33 (iParseProgram.mng n) := runF_sound (fn := Tryz.f33) (m := iParseProgram.mng n) (c := iParseProgram.cfg n) (regOK mixed (opOK (.of (c := iParseProgram.cfg n) ⟨⟨splitC.sound n, splitC.gof⟩, ⟨⟨iNumber.sound n, iNumber.gof⟩, ⟨⟨iParseInstr.sound n, iParseInstr.gof⟩, ⟨⟨iIsProgram.sound n, iIsProgram.gof⟩, trivial⟩⟩⟩⟩) (.of (c := iParseProgram.cfg n) trivial)) (tysOK tys6_ok)) (tysOK tys6_ok) Tryz.func33 (fun x => (iParseProgram.eq n x.1).symm)

def sParseProgram.las : List (Nat × LA) := [(10, ⟨[(5, .vptr 1000 0), (37, .int .i64)], [(1000, .cells [] [.int .i64, .int .i64, .own 1001 tInstr]), (1001, .row true tInstr)], [0, 2, 35, 36], []⟩), (21, ⟨[(64, .bool)], [], [2, 5], []⟩)]
noncomputable def sParseProgram.f (n : Nat) (a0 : List UInt8) : Option (Program × (Bool × Unit)) := (l1Split.f n a0 59).bind fun r1 => (sL1In.f n (r1.1.length : Int) 3 26).bind fun r2 => br (!r2.1) (some ((0, (0, [])), (false, ()))) (chk ((0 : Int) ≤ 0 ∧ (0 : Int) < (r1.1.length : Int)) ((l1Read.f n (r1.1.getD 0 [])).bind fun r3 => chk ((0 : Int) ≤ 1 ∧ (1 : Int) < (r1.1.length : Int)) ((l1Read.f n (r1.1.getD 1 [])).bind fun r4 => chk ((0 : Int) ≤ 2 ∧ (2 : Int) ≤ (r1.1.length : Int) ∧ (r1.1.length : Int) ≤ (r1.1.length : Int)) (iter (α := (Int × (Int × (Int × (List Instr) × Unit)))) n (fun ih32 x31 => br (decide (x31.1 < ((((r1.1.length : Int).toNat - 2) : Nat) : Int))) (chk (0 ≤ x31.1 ∧ x31.1 < ((((r1.1.length : Int).toNat - 2) : Nat) : Int)) ((sParseInstr.f n (r1.1.getD (2 + x31.1.toNat) [])).bind fun r33 => br (!r33.2.1) (some ((0, (0, [])), (false, ()))) (chk ((x31.2.2.2.1.length + ([r33.1] : List Instr).length) * 32 ≤ maxB) (ih32 ((w64 (x31.1 + 1)), (x31.2.1, (x31.2.2.1, ((x31.2.2.2.1 ++ [r33.1]), ())))))))) (cut (α := (Bool × Unit)) ((sIsProgram.f n (x31.2.1, (x31.2.2.1, x31.2.2.2.1))).bind fun r37 => br (!r37.1) (some (.inr (true, ()))) ((fmtProgram.f n (x31.2.1, (x31.2.2.1, x31.2.2.2.1))).bind fun r38 => some (.inr ((!decide (r38.1 = a0)), ())))) fun y36 => br y36.1 (some ((0, (0, [])), (false, ()))) (some ((x31.2.1, (x31.2.2.1, x31.2.2.2.1)), (true, ()))))) (0, (r3.1, (r4.1, ([], ()))))))))
noncomputable def sParseProgram.mng (n : Nat) : Mng := ⟨[.val .str], [.val tProgram, .val .bool], fun x => sParseProgram.f n x.1⟩
noncomputable def sParseProgram.cfg (n : Nat) : Cfg := ⟨tys6, [(40, l1Split.mng n), (101, sL1In.mng n), (102, sParseInstr.mng n), (95, sIsProgram.mng n), (38, fmtProgram.mng n)], [(99, l1Read.mng n)], []⟩
theorem sParseProgram.eq : ∀ (n : Nat) (a0 : List UInt8), runF (sParseProgram.cfg n) n Tryz.f42 (annOf Tryz.f42 sParseProgram.las) [.val .str] [.val tProgram, .val .bool] (a0, ()) = sParseProgram.f n a0 := by
  intros
  kernel_rfl
theorem sParseProgram.gof : GoF Tryz.prog 42 := ⟨_, Tryz.func42, by kernel_rfl, by kernel_rfl⟩
theorem sParseProgram.sound (n : Nat) : Sound Tryz.prog 42 (sParseProgram.mng n) := runF_sound (fn := Tryz.f42) (m := sParseProgram.mng n) (c := sParseProgram.cfg n) (regOK mixed (opOK (.of (c := sParseProgram.cfg n) ⟨⟨l1Split.sound n, l1Split.gof⟩, ⟨⟨sL1In.sound n, sL1In.gof⟩, ⟨⟨sParseInstr.sound n, sParseInstr.gof⟩, ⟨⟨sIsProgram.sound n, sIsProgram.gof⟩, ⟨⟨fmtProgram.sound n, fmtProgram.gof⟩, trivial⟩⟩⟩⟩⟩) (.of (c := sParseProgram.cfg n) ⟨⟨l1Read.sound n, l1Read.gof⟩, trivial⟩)) (tysOK tys6_ok)) (tysOK tys6_ok) Tryz.func42 (fun x => (sParseProgram.eq n x.1).symm)
end Go.AmT
