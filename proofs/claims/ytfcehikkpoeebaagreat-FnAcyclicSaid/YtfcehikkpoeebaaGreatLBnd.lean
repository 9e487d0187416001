/- Functions that the law FnAcyclic reaches, each as a plain Lean function, and that each does what that says. No condition. -/
import Derived.Test.YtfcehikkpoeebaaGreatPRun
namespace Go.AmT
open Go Go.Am Go.Proofs
set_option linter.unusedVariables false
set_option maxRecDepth 100000
def tys7 : List (Nat × TInfo) := [(3, ⟨false, 1, 8, [.int .i64 0], .int .i64, 0, some I, [], false⟩),
  (26, ⟨true, 2, 48, [.nil, .nil], .struct, 0, some tNetwork, [(0, 23), (1, 24)], false⟩),
  (40, ⟨false, 1, 24, [.nil], .slice, 3, some IS, [], false⟩),
  (45, ⟨true, 4, 80, [.nil, .nil, .nil, .int .i64 0], .struct, 0, some tState, [(0, 43), (1, 29), (2, 29), (3, 3)], false⟩)]
theorem tys7_ok : (tys7.all fun p => tokB Tryz.prog p.1 p.2) = true := by kernel_rfl

def iBounded.las : List (Nat × LA) := []
noncomputable def iBounded.f (n : Nat) (a0 : Network) (a1 : State) (a2 : List Int) : Option (Bool × Unit) := (iIsState.f n a0 a1).bind fun r1 => br r1.1 ((iAre.f n a0 a2).bind fun r2 => some (r2.1, ())) (some (false, ()))
noncomputable def iBounded.mng (n : Nat) : Mng := ⟨[.val tNetwork, .val tState, .val IS], [.val .bool], fun x => iBounded.f n x.1 x.2.1 x.2.2.1⟩
noncomputable def iBounded.cfg (n : Nat) : Cfg := ⟨tys7, [(62, iIsState.mng n), (63, iAre.mng n)], [], []⟩
theorem iBounded.eq : ∀ (n : Nat) (a0 : Network) (a1 : State) (a2 : List Int), runF (iBounded.cfg n) n Tryz.f32 (annOf Tryz.f32 iBounded.las) [.val tNetwork, .val tState, .val IS] [.val .bool] (a0, (a1, (a2, ()))) = iBounded.f n a0 a1 a2 := by
  intros
  kernel_rfl
theorem iBounded.gof : GoF Tryz.prog 32 := ⟨_, Tryz.func32, by kernel_rfl, by kernel_rfl⟩
theorem iBounded.sound (n : Nat) : Sound Tryz.prog 32 (iBounded.mng n) := runF_sound (fn := Tryz.f32) (m := iBounded.mng n) (c := iBounded.cfg n) (regOK mixed (opOK (.of (c := iBounded.cfg n) ⟨⟨iIsState.sound n, iIsState.gof⟩, ⟨⟨iAre.sound n, iAre.gof⟩, trivial⟩⟩) (.of (c := iBounded.cfg n) trivial)) (tysOK tys7_ok)) (tysOK tys7_ok) Tryz.func32 (fun x => (iBounded.eq n x.1 x.2.1 x.2.2.1).symm)

def boundedRun.las : List (Nat × LA) := []
def boundedRun.la : LA := ⟨[(0, .agg [.sh tProgram, .sh tLink]), (1, .agg [.sh tActor, .sh IS, .sh IS, .int .i64]), (2, .sh I)], [], [], []⟩
def boundedRun.lb : LA := ⟨[(0, .vptr 1000 0)], [(1000, .cells [] [.sh tProgram, .sh tLink, .own 1001 tActor, .own 1002 IS, .own 1003 IS, .int .i64, .own 1004 IS, .own 1005 IS, .osh I]), (1001, .row true tActor), (1002, .row true IS), (1003, .row true IS), (1004, .row true IS), (1005, .row true IS)], [], []⟩
noncomputable def boundedRun.f (n : Nat) (a0 : List Program) (a1 : List Link) (a2 : List Actor) (a3 : List (List Int)) (a4 : List (List Int)) (a5 : Int) (a6 : List Int) : Option ((List Program) × (List Link) × (Int × (Option (List Int)) × (List Actor) × (List (List Int)) × (List (List Int)) × (List (List Int)) × (List (List Int)) × Unit)) := chk (a6.length * 8 ≤ maxB) ((newRun.f n a0 a1 a2 a3 a4 a5 ((some a6) : Option (List Int))).bind fun r1 => some (r1.1, (r1.2.1, (r1.2.2.1, (r1.2.2.2.1, (r1.2.2.2.2.1, (r1.2.2.2.2.2.1, (r1.2.2.2.2.2.2.1, (r1.2.2.2.2.2.2.2.1, (r1.2.2.2.2.2.2.2.2.1, ()))))))))))
noncomputable def boundedRun.mng (n : Nat) : LMng := ⟨boundedRun.la, boundedRun.lb, fun x => boundedRun.f n x.1 x.2.1 x.2.2.1 x.2.2.2.1 x.2.2.2.2.1 x.2.2.2.2.2.1 x.2.2.2.2.2.2.1⟩
noncomputable def boundedRun.cfg (n : Nat) : Cfg := ⟨tys7, [], [(64, newRun.mng n)], [27]⟩
theorem boundedRun.eq : ∀ (n : Nat) (a0 : List Program) (a1 : List Link) (a2 : List Actor) (a3 : List (List Int)) (a4 : List (List Int)) (a5 : Int) (a6 : List Int) (mp : Mp), LMng.run (boundedRun.cfg n) n Tryz.f33 (annOf Tryz.f33 boundedRun.las) boundedRun.la boundedRun.lb (a0, (a1, (a2, (a3, (a4, (a5, (a6, mp))))))) = boundedRun.f n a0 a1 a2 a3 a4 a5 a6 := by
  intros
  kernel_rfl
theorem boundedRun.gof : GoF Tryz.prog 33 := ⟨_, Tryz.func33, by kernel_rfl, by kernel_rfl⟩
theorem boundedRun.sound (n : Nat) : LSound Tryz.prog 33 (boundedRun.mng n) := runL_sound (fn := Tryz.f33) (M := boundedRun.mng n) (c := boundedRun.cfg n) (regOK mixed (opOK (.of (c := boundedRun.cfg n) trivial) (.of (c := boundedRun.cfg n) ⟨⟨newRun.sound n, newRun.gof⟩, trivial⟩)) (tysOK tys7_ok)) (tysOK tys7_ok) Tryz.func33 (fun x => (boundedRun.eq n x.1 x.2.1 x.2.2.1 x.2.2.2.1 x.2.2.2.2.1 x.2.2.2.2.2.1 x.2.2.2.2.2.2.1 x.2.2.2.2.2.2.2).symm)
end Go.AmT
