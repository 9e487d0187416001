/- Functions that the law FnPeaks reaches, each as a plain Lean function, and that each does what that says. No condition. -/
import Derived.Test.YtcipidfgblbeiaaPPeaks0
namespace Go.AmT
open Go Go.Am Go.Proofs
set_option linter.unusedVariables false
set_option maxRecDepth 100000
def tys14 : List (Nat × TInfo) := [(3, ⟨false, 1, 8, [.int .i64 0], .int .i64, 0, some I, [], false⟩),
  (33, ⟨true, 2, 48, [.nil, .nil], .struct, 0, some tNetwork, [(0, 30), (1, 31)], false⟩),
  (45, ⟨false, 1, 24, [.nil], .slice, 60, some (.sl tActor), [], false⟩),
  (46, ⟨false, 1, 24, [.nil], .slice, 27, some (.sl IS), [], false⟩),
  (48, ⟨true, 4, 80, [.nil, .nil, .nil, .int .i64 0], .struct, 0, some tState, [(0, 45), (1, 46), (2, 46), (3, 3)], false⟩),
  (83, ⟨true, 9, 200, [.nil, .nil, .nil, .nil, .nil, .int .i64 0, .nil, .nil, .nil], .struct, 0, some tRun, [(0, 33), (2, 48), (6, 46), (7, 46), (8, 27)], false⟩)]
theorem tys14_ok : (tys14.all fun p => tokB Try.prog p.1 p.2) = true := by kernel_rfl

def iRunTurns.las : List (Nat × LA) := []
noncomputable def iRunTurns.f (n : Nat) (a0 : Network) (a1 : State) (a2 : Int) : Option (State × (Bool × Unit)) := (iIsState.f n a0 a1).bind fun r1 => br (!r1.1) (some (([], ([], ([], 0))), (false, ()))) ((newRun.f n a0.1 a0.2 a1.1 a1.2.1 a1.2.2.1 a1.2.2.2 (none : Option (List Int))).bind fun r2 => (turns.f n a2 r2.1 r2.2.1 r2.2.2.1 r2.2.2.2.1 r2.2.2.2.2.1 r2.2.2.2.2.2.1 r2.2.2.2.2.2.2.1 r2.2.2.2.2.2.2.2.1 r2.2.2.2.2.2.2.2.2.1).bind fun r3 => (quiet.f n ((r3.1, r3.2.1), ((r3.2.2.2.2.1, (r3.2.2.2.2.2.1, (r3.2.2.2.2.2.2.1, r3.2.2.1))), (r3.2.2.2.2.2.2.2.1, (r3.2.2.2.2.2.2.2.2.1, r3.2.2.2.1))))).bind fun r4 => some ((r3.2.2.2.2.1, (r3.2.2.2.2.2.1, (r3.2.2.2.2.2.2.1, r3.2.2.1))), (r4.1, ())))
noncomputable def iRunTurns.mng (n : Nat) : Mng := ⟨[.val tNetwork, .val tState, .val I], [.val tState, .val .bool], fun x => iRunTurns.f n x.1 x.2.1 x.2.2.1⟩
noncomputable def iRunTurns.cfg (n : Nat) : Cfg := ⟨tys14, [(63, iIsState.mng n), (49, quiet.mng n)], [(45, newRun.mng n), (48, turns.mng n)], []⟩
theorem iRunTurns.eq : ∀ (n : Nat) (a0 : Network) (a1 : State) (a2 : Int), runF (iRunTurns.cfg n) n Try.f29 (annOf Try.f29 iRunTurns.las) [.val tNetwork, .val tState, .val I] [.val tState, .val .bool] (a0, (a1, (a2, ()))) = iRunTurns.f n a0 a1 a2 := by
  intros
  kernel_rfl
theorem iRunTurns.gof : GoF Try.prog 29 := ⟨_, Try.func29, by kernel_rfl, by kernel_rfl⟩
theorem iRunTurns.sound (n : Nat) : Sound Try.prog 29 (iRunTurns.mng n) := runF_sound (fn := Try.f29) (m := iRunTurns.mng n) (c := iRunTurns.cfg n) (regOK mixed (opOK (.of (c := iRunTurns.cfg n) ⟨⟨iIsState.sound n, iIsState.gof⟩, ⟨⟨quiet.sound n, quiet.gof⟩, trivial⟩⟩) (.of (c := iRunTurns.cfg n) ⟨⟨newRun.sound n, newRun.gof⟩, ⟨⟨turns.sound n, turns.gof⟩, trivial⟩⟩)) (tysOK tys14_ok)) (tysOK tys14_ok) Try.func29 (fun x => (iRunTurns.eq n x.1 x.2.1 x.2.2.1).symm)
end Go.AmT
