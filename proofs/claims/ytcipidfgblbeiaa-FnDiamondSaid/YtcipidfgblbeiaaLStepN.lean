/- Functions that the law FnDiamond reaches, each as a plain Lean function, and that each does what that says. No condition. -/
import Derived.Test.YtcipidfgblbeiaaPFmtS
namespace Go.AmT
open Go Go.Am Go.Proofs
set_option linter.unusedVariables false
set_option maxRecDepth 100000
def tys14 : List (Nat × TInfo) := [(3, ⟨false, 1, 8, [.int .i64 0], .int .i64, 0, some I, [], false⟩),
  (33, ⟨true, 2, 48, [.nil, .nil], .struct, 0, some tNetwork, [(0, 30), (1, 31)], false⟩),
  (45, ⟨false, 1, 24, [.nil], .slice, 60, some (.sl tActor), [], false⟩),
  (46, ⟨false, 1, 24, [.nil], .slice, 27, some (.sl IS), [], false⟩),
  (48, ⟨true, 4, 80, [.nil, .nil, .nil, .int .i64 0], .struct, 0, some tState, [(0, 45), (1, 46), (2, 46), (3, 3)], false⟩),
  (83, ⟨true, 9, 200, [.nil, .nil, .nil, .nil, .nil, .int .i64 0, .nil, .nil, .nil], .struct, 0, some tRun, [(0, 33), (2, 48), (6, 46), (7, 46), (8, 27)], false⟩)]
theorem tys14_ok : (tys14.all fun p => tokB Try.prog p.1 p.2) = true := by kernel_rfl

def iCanStep.las : List (Nat × LA) := []
noncomputable def iCanStep.f (n : Nat) (a0 : Network) (a1 : State) (a2 : Int) : Option (Bool × Unit) := (iIsState.f n a0 a1).bind fun r1 => br (!r1.1) (some (false, ())) ((newRun.f n a0.1 a0.2 a1.1 a1.2.1 a1.2.2.1 a1.2.2.2 (none : Option (List Int))).bind fun r2 => (isProcess.f n ((r2.1, r2.2.1), ((r2.2.2.2.2.1, (r2.2.2.2.2.2.1, (r2.2.2.2.2.2.2.1, r2.2.2.1))), (r2.2.2.2.2.2.2.2.1, (r2.2.2.2.2.2.2.2.2.1, r2.2.2.2.1)))) a2).bind fun r3 => br r3.1 ((can.f n ((r2.1, r2.2.1), ((r2.2.2.2.2.1, (r2.2.2.2.2.2.1, (r2.2.2.2.2.2.2.1, r2.2.2.1))), (r2.2.2.2.2.2.2.2.1, (r2.2.2.2.2.2.2.2.2.1, r2.2.2.2.1)))) a2).bind fun r4 => some (r4.1, ())) (some (false, ())))
noncomputable def iCanStep.mng (n : Nat) : Mng := ⟨[.val tNetwork, .val tState, .val I], [.val .bool], fun x => iCanStep.f n x.1 x.2.1 x.2.2.1⟩
noncomputable def iCanStep.cfg (n : Nat) : Cfg := ⟨tys14, [(63, iIsState.mng n), (64, isProcess.mng n), (65, can.mng n)], [(45, newRun.mng n)], []⟩
theorem iCanStep.eq : ∀ (n : Nat) (a0 : Network) (a1 : State) (a2 : Int), runF (iCanStep.cfg n) n Try.f23 (annOf Try.f23 iCanStep.las) [.val tNetwork, .val tState, .val I] [.val .bool] (a0, (a1, (a2, ()))) = iCanStep.f n a0 a1 a2 := by
  intros
  kernel_rfl
theorem iCanStep.gof : GoF Try.prog 23 := ⟨_, Try.func23, by kernel_rfl, by kernel_rfl⟩
theorem iCanStep.sound (n : Nat) : Sound Try.prog 23 (iCanStep.mng n) := runF_sound (fn := Try.f23) (m := iCanStep.mng n) (c := iCanStep.cfg n) (regOK mixed (opOK (.of (c := iCanStep.cfg n) ⟨⟨iIsState.sound n, iIsState.gof⟩, ⟨⟨isProcess.sound n, isProcess.gof⟩, ⟨⟨can.sound n, can.gof⟩, trivial⟩⟩⟩) (.of (c := iCanStep.cfg n) ⟨⟨newRun.sound n, newRun.gof⟩, trivial⟩)) (tysOK tys14_ok)) (tysOK tys14_ok) Try.func23 (fun x => (iCanStep.eq n x.1 x.2.1 x.2.2.1).symm)

def sCanStep.las : List (Nat × LA) := []
noncomputable def sCanStep.f (n : Nat) (a0 : Network) (a1 : State) (a2 : Int) : Option (Bool × Unit) := (sIsState.f n a0 a1).bind fun r1 => br r1.1 ((sL3Has.f n a0 a2).bind fun r2 => br r2.1 ((sL5Can.f n a0 a1 a2).bind fun r3 => some (r3.1, ())) (some (false, ()))) (some (false, ()))
noncomputable def sCanStep.mng (n : Nat) : Mng := ⟨[.val tNetwork, .val tState, .val I], [.val .bool], fun x => sCanStep.f n x.1 x.2.1 x.2.2.1⟩
noncomputable def sCanStep.cfg (n : Nat) : Cfg := ⟨tys14, [(31, sIsState.mng n), (62, sL3Has.mng n), (40, sL5Can.mng n)], [], []⟩
theorem sCanStep.eq : ∀ (n : Nat) (a0 : Network) (a1 : State) (a2 : Int), runF (sCanStep.cfg n) n Try.f25 (annOf Try.f25 sCanStep.las) [.val tNetwork, .val tState, .val I] [.val .bool] (a0, (a1, (a2, ()))) = sCanStep.f n a0 a1 a2 := by
  intros
  kernel_rfl
theorem sCanStep.gof : GoF Try.prog 25 := ⟨_, Try.func25, by kernel_rfl, by kernel_rfl⟩
theorem sCanStep.sound (n : Nat) : Sound Try.prog 25 (sCanStep.mng n) := runF_sound (fn := Try.f25) (m := sCanStep.mng n) (c := sCanStep.cfg n) (regOK mixed (opOK (.of (c := sCanStep.cfg n) ⟨⟨sIsState.sound n, sIsState.gof⟩, ⟨⟨sL3Has.sound n, sL3Has.gof⟩, ⟨⟨sL5Can.sound n, sL5Can.gof⟩, trivial⟩⟩⟩) (.of (c := sCanStep.cfg n) trivial)) (tysOK tys14_ok)) (tysOK tys14_ok) Try.func25 (fun x => (sCanStep.eq n x.1 x.2.1 x.2.2.1).symm)

def iStepN.las : List (Nat × LA) := []
noncomputable def iStepN.f (n : Nat) (a0 : Network) (a1 : State) (a2 : Int) : Option (State × (Bool × Unit)) := (iCanStep.f n a0 a1 a2).bind fun r1 => br (!r1.1) (some (([], ([], ([], 0))), (false, ()))) ((newRun.f n a0.1 a0.2 a1.1 a1.2.1 a1.2.2.1 a1.2.2.2 (none : Option (List Int))).bind fun r2 => (runStep.f n a2 r2.1 r2.2.1 r2.2.2.1 r2.2.2.2.1 r2.2.2.2.2.1 r2.2.2.2.2.2.1 r2.2.2.2.2.2.2.1 r2.2.2.2.2.2.2.2.1 r2.2.2.2.2.2.2.2.2.1).bind fun r3 => some ((r3.2.2.2.2.1, (r3.2.2.2.2.2.1, (r3.2.2.2.2.2.2.1, r3.2.2.1))), (true, ())))
noncomputable def iStepN.mng (n : Nat) : Mng := ⟨[.val tNetwork, .val tState, .val I], [.val tState, .val .bool], fun x => iStepN.f n x.1 x.2.1 x.2.2.1⟩
noncomputable def iStepN.cfg (n : Nat) : Cfg := ⟨tys14, [(23, iCanStep.mng n)], [(45, newRun.mng n), (82, runStep.mng n)], []⟩
theorem iStepN.eq : ∀ (n : Nat) (a0 : Network) (a1 : State) (a2 : Int), runF (iStepN.cfg n) n Try.f35 (annOf Try.f35 iStepN.las) [.val tNetwork, .val tState, .val I] [.val tState, .val .bool] (a0, (a1, (a2, ()))) = iStepN.f n a0 a1 a2 := by
  intros
  kernel_rfl
theorem iStepN.gof : GoF Try.prog 35 := ⟨_, Try.func35, by kernel_rfl, by kernel_rfl⟩
theorem iStepN.sound (n : Nat) : Sound Try.prog 35 (iStepN.mng n) := runF_sound (fn := Try.f35) (m := iStepN.mng n) (c := iStepN.cfg n) (regOK mixed (opOK (.of (c := iStepN.cfg n) ⟨⟨iCanStep.sound n, iCanStep.gof⟩, trivial⟩) (.of (c := iStepN.cfg n) ⟨⟨newRun.sound n, newRun.gof⟩, ⟨⟨runStep.sound n, runStep.gof⟩, trivial⟩⟩)) (tysOK tys14_ok)) (tysOK tys14_ok) Try.func35 (fun x => (iStepN.eq n x.1 x.2.1 x.2.2.1).symm)
end Go.AmT
