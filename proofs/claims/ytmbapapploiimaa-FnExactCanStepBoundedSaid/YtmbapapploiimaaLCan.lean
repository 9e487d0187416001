/- Functions that the law FnExactCanStepBounded reaches, each as a plain Lean function, and that each does what that says. No condition. -/
import Derived.Test.YtmbapapploiimaaPBnd
namespace Go.AmT
open Go Go.Am Go.Proofs
set_option linter.unusedVariables false
set_option maxRecDepth 100000
def tys5 : List (Nat × TInfo) := [(3, ⟨false, 1, 8, [.int .i64 0], .int .i64, 0, some I, [], false⟩),
  (4, ⟨false, 1, 1, [.bool false], .bool, 0, some .bool, [], false⟩),
  (25, ⟨true, 2, 48, [.nil, .nil], .struct, 0, some tNetwork, [(0, 22), (1, 23)], false⟩),
  (26, ⟨false, 1, 24, [.nil], .slice, 3, some IS, [], false⟩),
  (29, ⟨false, 1, 24, [.nil], .slice, 100, some (.sl tProgram), [], false⟩),
  (32, ⟨true, 2, 48, [.nil, .nil], .struct, 0, some tNetwork, [(0, 29), (1, 30)], false⟩),
  (49, ⟨true, 4, 80, [.nil, .nil, .nil, .int .i64 0], .struct, 0, some tState, [(0, 46), (1, 47), (2, 47), (3, 3)], false⟩),
  (56, ⟨true, 4, 80, [.nil, .nil, .nil, .int .i64 0], .struct, 0, some tState, [(0, 54), (1, 47), (2, 47), (3, 3)], false⟩)]
theorem tys5_ok : (tys5.all fun p => tokB Try.prog p.1 p.2) = true := by kernel_rfl

def sL3Has.las : List (Nat × LA) := []
noncomputable def sL3Has.f (n : Nat) (a0 : Network) (a1 : Int) : Option (Bool × Unit) := br (decide (0 ≤ a1)) (some ((decide (a1 < (a0.1.length : Int))), ())) (some (false, ()))
noncomputable def sL3Has.mng (n : Nat) : Mng := ⟨[.val tNetwork, .val I], [.val .bool], fun x => sL3Has.f n x.1 x.2.1⟩
noncomputable def sL3Has.cfg (n : Nat) : Cfg := ⟨tys5, [], [], []⟩
theorem sL3Has.eq : ∀ (n : Nat) (a0 : Network) (a1 : Int), runF (sL3Has.cfg n) n Try.f66 (annOf Try.f66 sL3Has.las) [.val tNetwork, .val I] [.val .bool] (a0, (a1, ())) = sL3Has.f n a0 a1 := by
  intros
  kernel_rfl
theorem sL3Has.gof : GoF Try.prog 66 := ⟨_, Try.func66, by kernel_rfl, by kernel_rfl⟩
theorem sL3Has.sound (n : Nat) : Sound Try.prog 66 (sL3Has.mng n) := runF_sound (fn := Try.f66) (m := sL3Has.mng n) (c := sL3Has.cfg n) (regOK mixed (opOK (.of (c := sL3Has.cfg n) trivial) (.of (c := sL3Has.cfg n) trivial)) (tysOK tys5_ok)) (tysOK tys5_ok) Try.func66 (fun x => (sL3Has.eq n x.1 x.2.1).symm)

def sCanStepBounded.las : List (Nat × LA) := []
noncomputable def sCanStepBounded.f (n : Nat) (a0 : Network) (a1 : State) (a2 : List Int) (a3 : Int) : Option (Bool × Unit) := (sL6Valid.f n a0 a1 a2).bind fun r1 => br r1.1 ((sL3Has.f n a0 a3).bind fun r2 => br r2.1 ((sL6Can.f n a0 a1 a2 a3).bind fun r3 => some (r3.1, ())) (some (false, ()))) (some (false, ()))
noncomputable def sCanStepBounded.mng (n : Nat) : Mng := ⟨[.val tNetwork, .val tState, .val IS, .val I], [.val .bool], fun x => sCanStepBounded.f n x.1 x.2.1 x.2.2.1 x.2.2.2.1⟩
noncomputable def sCanStepBounded.cfg (n : Nat) : Cfg := ⟨tys5, [(82, sL6Valid.mng n), (66, sL3Has.mng n), (99, sL6Can.mng n)], [], []⟩
theorem sCanStepBounded.eq : ∀ (n : Nat) (a0 : Network) (a1 : State) (a2 : List Int) (a3 : Int), runF (sCanStepBounded.cfg n) n Try.f47 (annOf Try.f47 sCanStepBounded.las) [.val tNetwork, .val tState, .val IS, .val I] [.val .bool] (a0, (a1, (a2, (a3, ())))) = sCanStepBounded.f n a0 a1 a2 a3 := by
  intros
  kernel_rfl
theorem sCanStepBounded.gof : GoF Try.prog 47 := ⟨_, Try.func47, by kernel_rfl, by kernel_rfl⟩
theorem sCanStepBounded.sound (n : Nat) : Sound Try.prog 47 (sCanStepBounded.mng n) := runF_sound (fn := Try.f47) (m := sCanStepBounded.mng n) (c := sCanStepBounded.cfg n) (regOK mixed (opOK (.of (c := sCanStepBounded.cfg n) ⟨⟨sL6Valid.sound n, sL6Valid.gof⟩, ⟨⟨sL3Has.sound n, sL3Has.gof⟩, ⟨⟨sL6Can.sound n, sL6Can.gof⟩, trivial⟩⟩⟩) (.of (c := sCanStepBounded.cfg n) trivial)) (tysOK tys5_ok)) (tysOK tys5_ok) Try.func47 (fun x => (sCanStepBounded.eq n x.1 x.2.1 x.2.2.1 x.2.2.2.1).symm)

def iCan.las : List (Nat × LA) := []
noncomputable def iCan.f (n : Nat) (a0 : Network) (a1 : State) (a2 : List Int) (a3 : Int) : Option (Bool × Unit) := (iBounded.f n a0 a1 a2).bind fun r1 => br (!r1.1) (some (false, ())) ((boundedRun.f n a0.1 a0.2 a1.1 a1.2.1 a1.2.2.1 a1.2.2.2 a2).bind fun r2 => (isProcess.f n ((r2.1, r2.2.1), ((r2.2.2.2.2.1, (r2.2.2.2.2.2.1, (r2.2.2.2.2.2.2.1, r2.2.2.1))), (r2.2.2.2.2.2.2.2.1, (r2.2.2.2.2.2.2.2.2.1, r2.2.2.2.1)))) a3).bind fun r3 => br r3.1 ((may.f n ((r2.1, r2.2.1), ((r2.2.2.2.2.1, (r2.2.2.2.2.2.1, (r2.2.2.2.2.2.2.1, r2.2.2.1))), (r2.2.2.2.2.2.2.2.1, (r2.2.2.2.2.2.2.2.2.1, r2.2.2.2.1)))) a3).bind fun r4 => some (r4.1, ())) (some (false, ())))
noncomputable def iCan.mng (n : Nat) : Mng := ⟨[.val tNetwork, .val tState, .val IS, .val I], [.val .bool], fun x => iCan.f n x.1 x.2.1 x.2.2.1 x.2.2.2.1⟩
noncomputable def iCan.cfg (n : Nat) : Cfg := ⟨tys5, [(102, iBounded.mng n), (104, isProcess.mng n), (105, may.mng n)], [(103, boundedRun.mng n)], []⟩
theorem iCan.eq : ∀ (n : Nat) (a0 : Network) (a1 : State) (a2 : List Int) (a3 : Int), runF (iCan.cfg n) n Try.f49 (annOf Try.f49 iCan.las) [.val tNetwork, .val tState, .val IS, .val I] [.val .bool] (a0, (a1, (a2, (a3, ())))) = iCan.f n a0 a1 a2 a3 := by
  intros
  kernel_rfl
theorem iCan.gof : GoF Try.prog 49 := ⟨_, Try.func49, by kernel_rfl, by kernel_rfl⟩
theorem iCan.sound (n : Nat) : Sound Try.prog 49 (iCan.mng n) := runF_sound (fn := Try.f49) (m := iCan.mng n) (c := iCan.cfg n) (regOK mixed (opOK (.of (c := iCan.cfg n) ⟨⟨iBounded.sound n, iBounded.gof⟩, ⟨⟨isProcess.sound n, isProcess.gof⟩, ⟨⟨may.sound n, may.gof⟩, trivial⟩⟩⟩) (.of (c := iCan.cfg n) ⟨⟨boundedRun.sound n, boundedRun.gof⟩, trivial⟩)) (tysOK tys5_ok)) (tysOK tys5_ok) Try.func49 (fun x => (iCan.eq n x.1 x.2.1 x.2.2.1 x.2.2.2.1).symm)

def law.las : List (Nat × LA) := []
noncomputable def law.f (n : Nat) (a0 : Network) (a1 : State) (a2 : List Int) (a3 : Int) : Option (Bool × Unit) := br (decide (1048576 < (a2.length : Int))) (some (true, ())) ((szNetwork.f n a0 1048576).bind fun r1 => br (decide (r1.1 < 0)) (some (true, ())) ((szState.f n a1 r1.1).bind fun r2 => br (decide (r2.1 < 0)) (some (true, ())) ((toNetwork.f n a0).bind fun r3 => (toState.f n a1).bind fun r4 => (toIntS.f n a2).bind fun r5 => (sCanStepBounded.f n r3.1 r4.1 r5.1 a3).bind fun r6 => (toNetwork.f n a0).bind fun r7 => (toState.f n a1).bind fun r8 => (toIntS.f n a2).bind fun r9 => (iCan.f n r7.1 r8.1 r9.1 a3).bind fun r10 => br (!decide (r10.1 = r6.1)) (some (false, ())) ((toNetwork.f n a0).bind fun r11 => (eqNetwork.f n r7.1 r11.1).bind fun r12 => br (!r12.1) (some (false, ())) ((toState.f n a1).bind fun r13 => (eqState.f n r8.1 r13.1).bind fun r14 => br (!r14.1) (some (false, ())) ((toIntS.f n a2).bind fun r15 => (eqIntS.f n r9.1 r15.1).bind fun r16 => br (!r16.1) (some (false, ())) (some (true, ()))))))))
noncomputable def law.mng (n : Nat) : Mng := ⟨[.val tNetwork, .val tState, .val IS, .val I], [.val .bool], fun x => law.f n x.1 x.2.1 x.2.2.1 x.2.2.2.1⟩
noncomputable def law.cfg (n : Nat) : Cfg := ⟨tys5, [(14, szNetwork.mng n), (46, szState.mng n), (16, toNetwork.mng n), (48, toState.mng n), (17, toIntS.mng n), (47, sCanStepBounded.mng n), (49, iCan.mng n), (19, eqNetwork.mng n), (50, eqState.mng n), (20, eqIntS.mng n)], [], []⟩
theorem law.eq : ∀ (n : Nat) (a0 : Network) (a1 : State) (a2 : List Int) (a3 : Int), runF (law.cfg n) n Try.f11 (annOf Try.f11 law.las) [.val tNetwork, .val tState, .val IS, .val I] [.val .bool] (a0, (a1, (a2, (a3, ())))) = law.f n a0 a1 a2 a3 := by
  intros
  kernel_rfl
theorem law.gof : GoF Try.prog 11 := ⟨_, Try.func11, by kernel_rfl, by kernel_rfl⟩
theorem law.sound (n : Nat) : Sound Try.prog 11 (law.mng n) := runF_sound (fn := Try.f11) (m := law.mng n) (c := law.cfg n) (regOK mixed (opOK (.of (c := law.cfg n) ⟨⟨szNetwork.sound n, szNetwork.gof⟩, ⟨⟨szState.sound n, szState.gof⟩, ⟨⟨toNetwork.sound n, toNetwork.gof⟩, ⟨⟨toState.sound n, toState.gof⟩, ⟨⟨toIntS.sound n, toIntS.gof⟩, ⟨⟨sCanStepBounded.sound n, sCanStepBounded.gof⟩, ⟨⟨iCan.sound n, iCan.gof⟩, ⟨⟨eqNetwork.sound n, eqNetwork.gof⟩, ⟨⟨eqState.sound n, eqState.gof⟩, ⟨⟨eqIntS.sound n, eqIntS.gof⟩, trivial⟩⟩⟩⟩⟩⟩⟩⟩⟩⟩) (.of (c := law.cfg n) trivial)) (tysOK tys5_ok)) (tysOK tys5_ok) Try.func11 (fun x => (law.eq n x.1 x.2.1 x.2.2.1 x.2.2.2.1).symm)
end Go.AmT
