/- Functions that the law FnScheduled reaches, each as a plain Lean function, and that each does what that says. No condition. -/
import Derived.Test.YtgepghodhnmhjaaPFmtS
namespace Go.AmT
open Go Go.Am Go.Proofs
set_option linter.unusedVariables false
set_option maxRecDepth 100000
def tys15 : List (Nat × TInfo) := [(3, ⟨false, 1, 8, [.int .i64 0], .int .i64, 0, some I, [], false⟩),
  (26, ⟨true, 2, 48, [.nil, .nil], .struct, 0, some tNetwork, [(0, 23), (1, 24)], false⟩),
  (30, ⟨false, 1, 24, [.nil], .slice, 89, some (.sl tActor), [], false⟩),
  (31, ⟨false, 1, 24, [.nil], .slice, 37, some (.sl IS), [], false⟩),
  (33, ⟨true, 4, 80, [.nil, .nil, .nil, .int .i64 0], .struct, 0, some tState, [(0, 30), (1, 31), (2, 31), (3, 3)], false⟩),
  (85, ⟨true, 9, 200, [.nil, .nil, .nil, .nil, .nil, .int .i64 0, .nil, .nil, .nil], .struct, 0, some tRun, [(0, 26), (2, 33), (6, 31), (7, 31), (8, 37)], false⟩)]
theorem tys15_ok : (tys15.all fun p => tokB Try.prog p.1 p.2) = true := by kernel_rfl

def iCanStep.las : List (Nat × LA) := []
noncomputable def iCanStep.f (n : Nat) (a0 : Network) (a1 : State) (a2 : Int) : Option (Bool × Unit) := (iIsState.f n a0 a1).bind fun r1 => br (!r1.1) (some (false, ())) ((newRun.f n a0.1 a0.2 a1.1 a1.2.1 a1.2.2.1 a1.2.2.2 (none : Option (List Int))).bind fun r2 => (isProcess.f n ((r2.1, r2.2.1), ((r2.2.2.2.2.1, (r2.2.2.2.2.2.1, (r2.2.2.2.2.2.2.1, r2.2.2.1))), (r2.2.2.2.2.2.2.2.1, (r2.2.2.2.2.2.2.2.2.1, r2.2.2.2.1)))) a2).bind fun r3 => br r3.1 ((can.f n ((r2.1, r2.2.1), ((r2.2.2.2.2.1, (r2.2.2.2.2.2.1, (r2.2.2.2.2.2.2.1, r2.2.2.1))), (r2.2.2.2.2.2.2.2.1, (r2.2.2.2.2.2.2.2.2.1, r2.2.2.2.1)))) a2).bind fun r4 => some (r4.1, ())) (some (false, ())))
noncomputable def iCanStep.mng (n : Nat) : Mng := ⟨[.val tNetwork, .val tState, .val I], [.val .bool], fun x => iCanStep.f n x.1 x.2.1 x.2.2.1⟩
noncomputable def iCanStep.cfg (n : Nat) : Cfg := ⟨tys15, [(68, iIsState.mng n), (80, isProcess.mng n), (71, can.mng n)], [(69, newRun.mng n)], []⟩
theorem iCanStep.eq : ∀ (n : Nat) (a0 : Network) (a1 : State) (a2 : Int), runF (iCanStep.cfg n) n Try.f81 (annOf Try.f81 iCanStep.las) [.val tNetwork, .val tState, .val I] [.val .bool] (a0, (a1, (a2, ()))) = iCanStep.f n a0 a1 a2 := by
  intros
  kernel_rfl
theorem iCanStep.gof : GoF Try.prog 81 := ⟨_, Try.func81, by kernel_rfl, by kernel_rfl⟩
theorem iCanStep.sound (n : Nat) : Sound Try.prog 81 (iCanStep.mng n) := runF_sound (fn := Try.f81) (m := iCanStep.mng n) (c := iCanStep.cfg n) (regOK mixed (opOK (.of (c := iCanStep.cfg n) ⟨⟨iIsState.sound n, iIsState.gof⟩, ⟨⟨isProcess.sound n, isProcess.gof⟩, ⟨⟨can.sound n, can.gof⟩, trivial⟩⟩⟩) (.of (c := iCanStep.cfg n) ⟨⟨newRun.sound n, newRun.gof⟩, trivial⟩)) (tysOK tys15_ok)) (tysOK tys15_ok) Try.func81 (fun x => (iCanStep.eq n x.1 x.2.1 x.2.2.1).symm)

def iStepN.las : List (Nat × LA) := []
noncomputable def iStepN.f (n : Nat) (a0 : Network) (a1 : State) (a2 : Int) : Option (State × (Bool × Unit)) := (iCanStep.f n a0 a1 a2).bind fun r1 => br (!r1.1) (some (([], ([], ([], 0))), (false, ()))) ((newRun.f n a0.1 a0.2 a1.1 a1.2.1 a1.2.2.1 a1.2.2.2 (none : Option (List Int))).bind fun r2 => (runStep.f n a2 r2.1 r2.2.1 r2.2.2.1 r2.2.2.2.1 r2.2.2.2.2.1 r2.2.2.2.2.2.1 r2.2.2.2.2.2.2.1 r2.2.2.2.2.2.2.2.1 r2.2.2.2.2.2.2.2.2.1).bind fun r3 => some ((r3.2.2.2.2.1, (r3.2.2.2.2.2.1, (r3.2.2.2.2.2.2.1, r3.2.2.1))), (true, ())))
noncomputable def iStepN.mng (n : Nat) : Mng := ⟨[.val tNetwork, .val tState, .val I], [.val tState, .val .bool], fun x => iStepN.f n x.1 x.2.1 x.2.2.1⟩
noncomputable def iStepN.cfg (n : Nat) : Cfg := ⟨tys15, [(81, iCanStep.mng n)], [(69, newRun.mng n), (72, runStep.mng n)], []⟩
theorem iStepN.eq : ∀ (n : Nat) (a0 : Network) (a1 : State) (a2 : Int), runF (iStepN.cfg n) n Try.f28 (annOf Try.f28 iStepN.las) [.val tNetwork, .val tState, .val I] [.val tState, .val .bool] (a0, (a1, (a2, ()))) = iStepN.f n a0 a1 a2 := by
  intros
  kernel_rfl
theorem iStepN.gof : GoF Try.prog 28 := ⟨_, Try.func28, by kernel_rfl, by kernel_rfl⟩
theorem iStepN.sound (n : Nat) : Sound Try.prog 28 (iStepN.mng n) := runF_sound (fn := Try.f28) (m := iStepN.mng n) (c := iStepN.cfg n) (regOK mixed (opOK (.of (c := iStepN.cfg n) ⟨⟨iCanStep.sound n, iCanStep.gof⟩, trivial⟩) (.of (c := iStepN.cfg n) ⟨⟨newRun.sound n, newRun.gof⟩, ⟨⟨runStep.sound n, runStep.gof⟩, trivial⟩⟩)) (tysOK tys15_ok)) (tysOK tys15_ok) Try.func28 (fun x => (iStepN.eq n x.1 x.2.1 x.2.2.1).symm)
end Go.AmT
