/- Functions that the law FnCounted reaches, each as a plain Lean function, and that each does what that says. No condition. -/
import Derived.Test.YtgepghodhnmhjaaPBoundR
namespace Go.AmT
open Go Go.Am Go.Proofs
set_option linter.unusedVariables false
set_option maxRecDepth 100000
def tys18 : List (Nat × TInfo) := [(3, ⟨false, 1, 8, [.int .i64 0], .int .i64, 0, some I, [], false⟩),
  (22, ⟨false, 1, 24, [.nil], .slice, 5, some (.sl U8), [], false⟩),
  (23, ⟨false, 1, 24, [.nil], .slice, 71, some (.sl tProgram), [], false⟩),
  (24, ⟨false, 1, 24, [.nil], .slice, 53, some (.sl tLink), [], false⟩),
  (26, ⟨true, 2, 48, [.nil, .nil], .struct, 0, some tNetwork, [(0, 23), (1, 24)], false⟩),
  (31, ⟨false, 1, 24, [.nil], .slice, 37, some (.sl IS), [], false⟩),
  (33, ⟨true, 4, 80, [.nil, .nil, .nil, .int .i64 0], .struct, 0, some tState, [(0, 30), (1, 31), (2, 31), (3, 3)], false⟩),
  (37, ⟨false, 1, 24, [.nil], .slice, 3, some IS, [], false⟩),
  (53, ⟨true, 5, 56, [.int .i64 0, .int .i64 0, .int .i64 0, .int .i64 0, .nil], .struct, 0, some tLink, [(0, 3), (1, 3), (2, 3), (3, 3), (4, 37)], false⟩),
  (71, ⟨true, 3, 40, [.int .i64 0, .int .i64 0, .nil], .struct, 0, some tProgram, [(0, 3), (1, 3), (2, 69)], false⟩)]
theorem tys18_ok : (tys18.all fun p => tokB Try.prog p.1 p.2) = true := by kernel_rfl

def law.las : List (Nat × LA) := [(7, ⟨[(46, .bool)], [], [3, 7], []⟩), (13, ⟨[(9, .int .i64), (52, .int .i64)], [], [3, 7, 50, 51], []⟩)]
noncomputable def law.f (n : Nat) (a0 : List Int) : Option (Bool × Unit) := br (decide (1048576 < (a0.length : Int))) (some (true, ())) ((iSampleProgram.f n ([99, 111, 117, 110, 116] : List UInt8)).bind fun r1 => (iSampleProgram.f n ([115, 117, 109, 115] : List UInt8)).bind fun r2 => (iLeast.f n ([r1.1, r2.1], [(0, (0, (1, (0, [])))), (1, (0, ((-1), (0, []))))])).bind fun r3 => (iStartState.f n ([r1.1, r2.1], [(0, (0, (1, (0, [])))), (1, (0, ((-1), (0, []))))])).bind fun r4 => (makeSchedO.f n a0 ([r1.1, r2.1], [(0, (0, (1, (0, [])))), (1, (0, ((-1), (0, []))))]) 300).bind fun r5 => (iRunSchedule.f n ([r1.1, r2.1], [(0, (0, (1, (0, [])))), (1, (0, ((-1), (0, []))))]) r4.1 r5.1).bind fun r6 => cut (α := (Bool × Unit)) (br r3.2.2.1 (some (.inr (true, ()))) ((sIsState.f n ([r1.1, r2.1], [(0, (0, (1, (0, [])))), (1, (0, ((-1), (0, []))))]) r6.1).bind fun r9 => some (.inr ((!r9.1), ())))) fun y8 => br y8.1 (some (false, ())) (chk ((0 : Int) ≤ 0 ∧ (0 : Int) < (r6.1.2.2.1.length : Int)) (iter (α := (Int × (Int × Unit))) n (fun ih35 x34 => br (decide (x34.2.1 < ((r6.1.2.2.1.getD 0 []).length : Int))) (chk (0 ≤ x34.2.1 ∧ x34.2.1 < ((r6.1.2.2.1.getD 0 []).length : Int)) (br (!decide (((r6.1.2.2.1.getD 0 []).getD x34.2.1.toNat 0) = x34.2.1)) (some (false, ())) (chk ((0 : Int) ≤ 1 ∧ (1 : Int) < (r6.1.2.2.1.length : Int)) (br (decide (x34.2.1 < ((r6.1.2.2.1.getD 1 []).length : Int))) (chk ((0 : Int) ≤ 1 ∧ (1 : Int) < (r6.1.2.2.1.length : Int)) (chk (0 ≤ x34.2.1 ∧ x34.2.1 < ((r6.1.2.2.1.getD 1 []).length : Int)) (br (!decide (((r6.1.2.2.1.getD 1 []).getD x34.2.1.toNat 0) = (w64 (x34.1 + x34.2.1)))) (some (false, ())) (ih35 ((w64 (x34.1 + x34.2.1)), ((w64 (x34.2.1 + 1)), ())))))) (ih35 ((w64 (x34.1 + x34.2.1)), ((w64 (x34.2.1 + 1)), ()))))))) ((iRunBounded.f n ([r1.1, r2.1], [(0, (0, (1, (0, [])))), (1, (0, ((-1), (0, []))))]) r6.1 ([1, 0] : List Int) 600).bind fun r36 => chk ((0 : Int) ≤ 1 ∧ (1 : Int) < (r6.1.2.2.1.length : Int)) (chk ((0 : Int) ≤ 0 ∧ (0 : Int) < (r6.1.2.2.1.length : Int)) (br (decide (((r6.1.2.2.1.getD 1 []).length : Int) ≤ ((r6.1.2.2.1.getD 0 []).length : Int))) ((sIsState.f n ([r1.1, r2.1], [(0, (0, (1, (0, [])))), (1, (0, ((-1), (0, []))))]) r36.1).bind fun r37 => br r37.1 (br (decide (r36.2.1 = 3)) (chk ((0 : Int) ≤ 1 ∧ (1 : Int) < (r36.1.2.2.1.length : Int)) (chk ((0 : Int) ≤ 1 ∧ (1 : Int) < (r6.1.2.2.1.length : Int)) (some ((decide (((r6.1.2.2.1.getD 1 []).length : Int) < ((r36.1.2.2.1.getD 1 []).length : Int))), ())))) (some (false, ()))) (some (false, ()))) (some (false, ())))))) (0, (0, ())))))
noncomputable def law.mng (n : Nat) : Mng := ⟨[.val (.sl U8)], [.val .bool], fun x => law.f n x.1⟩
noncomputable def law.cfg (n : Nat) : Cfg := ⟨tys18, [(52, iSampleProgram.mng n), (42, iLeast.mng n), (53, iStartState.mng n), (26, makeSchedO.mng n), (27, iRunSchedule.mng n), (31, sIsState.mng n), (17, iRunBounded.mng n)], [], []⟩
theorem law.eq : ∀ (n : Nat) (a0 : List Int), runF (law.cfg n) n Try.f13 (annOf Try.f13 law.las) [.val (.sl U8)] [.val .bool] (a0, ()) = law.f n a0 := by
  intros
  kernel_rfl
theorem law.sound (n : Nat) : Sound Try.prog 13 (law.mng n) := runF_sound (fn := Try.f13) (m := law.mng n) (c := law.cfg n) (regOK mixed (opOK (.of (c := law.cfg n) ⟨⟨iSampleProgram.sound n, iSampleProgram.gof⟩, ⟨⟨iLeast.sound n, iLeast.gof⟩, ⟨⟨iStartState.sound n, iStartState.gof⟩, ⟨⟨makeSchedO.sound n, makeSchedO.gof⟩, ⟨⟨iRunSchedule.sound n, iRunSchedule.gof⟩, ⟨⟨sIsState.sound n, sIsState.gof⟩, ⟨⟨iRunBounded.sound n, iRunBounded.gof⟩, trivial⟩⟩⟩⟩⟩⟩⟩) (.of (c := law.cfg n) trivial)) (tysOK tys18_ok)) (tysOK tys18_ok) Try.func13 (fun x => (law.eq n x.1).symm)
end Go.AmT
