/- Functions that the law FnCounted reaches, each as a plain Lean function, and that each does what that says. No condition. -/
import Derived.Test.YtgepghodhnmhjaaLSmp
import Derived.Test.YtgepghodhnmhjaaPLeast
import Derived.Test.YtgepghodhnmhjaaPCpS
namespace Go.AmT
open Go Go.Am Go.Proofs
set_option linter.unusedVariables false
set_option maxRecDepth 100000
def tys15 : List (Nat × TInfo) := [(3, ⟨false, 1, 8, [.int .i64 0], .int .i64, 0, some I, [], false⟩),
  (26, ⟨true, 2, 48, [.nil, .nil], .struct, 0, some tNetwork, [(0, 23), (1, 24)], false⟩),
  (30, ⟨false, 1, 24, [.nil], .slice, 89, some (.sl tActor), [], false⟩),
  (31, ⟨false, 1, 24, [.nil], .slice, 37, some (.sl IS), [], false⟩),
  (33, ⟨true, 4, 80, [.nil, .nil, .nil, .int .i64 0], .struct, 0, some tState, [(0, 30), (1, 31), (2, 31), (3, 3)], false⟩),
  (37, ⟨false, 1, 24, [.nil], .slice, 3, some IS, [], false⟩),
  (85, ⟨true, 9, 200, [.nil, .nil, .nil, .nil, .nil, .int .i64 0, .nil, .nil, .nil], .struct, 0, some tRun, [(0, 26), (2, 33), (6, 31), (7, 31), (8, 37)], false⟩)]
theorem tys15_ok : (tys15.all fun p => tokB Try.prog p.1 p.2) = true := by kernel_rfl

def iRunSchedule.las : List (Nat × LA) := [(7, ⟨[(8, .vptr 1000 0), (9, .int .i64), (22, .int .i64)], [(1000, .cells [] [.sh tProgram, .sh tLink, .own 1001 tActor, .own 1002 IS, .own 1003 IS, .int .i64, .own 1004 IS, .own 1005 IS, .osh I]), (1001, .row true tActor), (1002, .row true IS), (1003, .row true IS), (1004, .row true IS), (1005, .row true IS)], [6, 20, 21], []⟩), (12, ⟨[(33, .bool)], [], [6, 8, 9, 11, 20, 21, 22], []⟩)]
noncomputable def iRunSchedule.f (n : Nat) (a0 : Network) (a1 : State) (a2 : List Int) : Option (State × (Int × Unit)) := (iIsState.f n a0 a1).bind fun r1 => br (!r1.1) (some (([], ([], ([], 0))), (0, ()))) ((newRun.f n a0.1 a0.2 a1.1 a1.2.1 a1.2.2.1 a1.2.2.2 (none : Option (List Int))).bind fun r2 => iter (α := (Int × (Int × (List Program) × (List Link) × (Int × (Option (List Int)) × (List Actor) × (List (List Int)) × (List (List Int)) × (List (List Int)) × (List (List Int)) × Unit)))) n (fun ih33 x32 => br (decide (x32.2.1 < (a2.length : Int))) (chk (0 ≤ x32.2.1 ∧ x32.2.1 < (a2.length : Int)) (let v34 := (a2.getD x32.2.1.toNat 0); cut (α := (Bool × Unit)) ((isProcess.f n ((x32.2.2.1, x32.2.2.2.1), ((x32.2.2.2.2.2.2.1, (x32.2.2.2.2.2.2.2.1, (x32.2.2.2.2.2.2.2.2.1, x32.2.2.2.2.1))), (x32.2.2.2.2.2.2.2.2.2.1, (x32.2.2.2.2.2.2.2.2.2.2.1, x32.2.2.2.2.2.1)))) v34).bind fun r36 => br r36.1 ((can.f n ((x32.2.2.1, x32.2.2.2.1), ((x32.2.2.2.2.2.2.1, (x32.2.2.2.2.2.2.2.1, (x32.2.2.2.2.2.2.2.2.1, x32.2.2.2.2.1))), (x32.2.2.2.2.2.2.2.2.2.1, (x32.2.2.2.2.2.2.2.2.2.2.1, x32.2.2.2.2.2.1)))) v34).bind fun r37 => some (.inr (r37.1, ()))) (some (.inr (false, ())))) fun y35 => br y35.1 ((runStep.f n v34 x32.2.2.1 x32.2.2.2.1 x32.2.2.2.2.1 x32.2.2.2.2.2.1 x32.2.2.2.2.2.2.1 x32.2.2.2.2.2.2.2.1 x32.2.2.2.2.2.2.2.2.1 x32.2.2.2.2.2.2.2.2.2.1 x32.2.2.2.2.2.2.2.2.2.2.1).bind fun r38 => ih33 ((w64 (x32.1 + 1)), ((w64 (x32.2.1 + 1)), (r38.1, (r38.2.1, (r38.2.2.1, (r38.2.2.2.1, (r38.2.2.2.2.1, (r38.2.2.2.2.2.1, (r38.2.2.2.2.2.2.1, (r38.2.2.2.2.2.2.2.1, (r38.2.2.2.2.2.2.2.2.1, ())))))))))))) (ih33 (x32.1, ((w64 (x32.2.1 + 1)), (x32.2.2.1, (x32.2.2.2.1, (x32.2.2.2.2.1, (x32.2.2.2.2.2.1, (x32.2.2.2.2.2.2.1, (x32.2.2.2.2.2.2.2.1, (x32.2.2.2.2.2.2.2.2.1, (x32.2.2.2.2.2.2.2.2.2.1, (x32.2.2.2.2.2.2.2.2.2.2.1, ())))))))))))))) (some ((x32.2.2.2.2.2.2.1, (x32.2.2.2.2.2.2.2.1, (x32.2.2.2.2.2.2.2.2.1, x32.2.2.2.2.1))), (x32.1, ())))) (0, (0, (r2.1, (r2.2.1, (r2.2.2.1, (r2.2.2.2.1, (r2.2.2.2.2.1, (r2.2.2.2.2.2.1, (r2.2.2.2.2.2.2.1, (r2.2.2.2.2.2.2.2.1, (r2.2.2.2.2.2.2.2.2.1, ()))))))))))))
noncomputable def iRunSchedule.mng (n : Nat) : Mng := ⟨[.val tNetwork, .val tState, .val IS], [.val tState, .val I], fun x => iRunSchedule.f n x.1 x.2.1 x.2.2.1⟩
noncomputable def iRunSchedule.cfg (n : Nat) : Cfg := ⟨tys15, [(68, iIsState.mng n), (80, isProcess.mng n), (71, can.mng n)], [(69, newRun.mng n), (72, runStep.mng n)], []⟩
theorem iRunSchedule.eq : ∀ (n : Nat) (a0 : Network) (a1 : State) (a2 : List Int), runF (iRunSchedule.cfg n) n Try.f27 (annOf Try.f27 iRunSchedule.las) [.val tNetwork, .val tState, .val IS] [.val tState, .val I] (a0, (a1, (a2, ()))) = iRunSchedule.f n a0 a1 a2 := by
  intros
  kernel_rfl
theorem iRunSchedule.gof : GoF Try.prog 27 := ⟨_, Try.func27, by kernel_rfl, by kernel_rfl⟩
theorem iRunSchedule.sound (n : Nat) : Sound Try.prog 27 (iRunSchedule.mng n) := runF_sound (fn := Try.f27) (m := iRunSchedule.mng n) (c := iRunSchedule.cfg n) (regOK mixed (opOK (.of (c := iRunSchedule.cfg n) ⟨⟨iIsState.sound n, iIsState.gof⟩, ⟨⟨isProcess.sound n, isProcess.gof⟩, ⟨⟨can.sound n, can.gof⟩, trivial⟩⟩⟩) (.of (c := iRunSchedule.cfg n) ⟨⟨newRun.sound n, newRun.gof⟩, ⟨⟨runStep.sound n, runStep.gof⟩, trivial⟩⟩)) (tysOK tys15_ok)) (tysOK tys15_ok) Try.func27 (fun x => (iRunSchedule.eq n x.1 x.2.1 x.2.2.1).symm)
end Go.AmT
