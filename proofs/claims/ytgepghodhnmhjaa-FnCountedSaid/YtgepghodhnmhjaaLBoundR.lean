/- Functions that the law FnCounted reaches, each as a plain Lean function, and that each does what that says. No condition. -/
import Derived.Test.YtgepghodhnmhjaaPStk
namespace Go.AmT
open Go Go.Am Go.Proofs
set_option linter.unusedVariables false
set_option maxRecDepth 100000
def tys17 : List (Nat × TInfo) := [(3, ⟨false, 1, 8, [.int .i64 0], .int .i64, 0, some I, [], false⟩),
  (26, ⟨true, 2, 48, [.nil, .nil], .struct, 0, some tNetwork, [(0, 23), (1, 24)], false⟩),
  (30, ⟨false, 1, 24, [.nil], .slice, 89, some (.sl tActor), [], false⟩),
  (31, ⟨false, 1, 24, [.nil], .slice, 37, some (.sl IS), [], false⟩),
  (33, ⟨true, 4, 80, [.nil, .nil, .nil, .int .i64 0], .struct, 0, some tState, [(0, 30), (1, 31), (2, 31), (3, 3)], false⟩),
  (85, ⟨true, 9, 200, [.nil, .nil, .nil, .nil, .nil, .int .i64 0, .nil, .nil, .nil], .struct, 0, some tRun, [(0, 26), (2, 33), (6, 31), (7, 31), (8, 37)], false⟩)]
theorem tys17_ok : (tys17.all fun p => tokB Try.prog p.1 p.2) = true := by kernel_rfl

def iBound.las : List (Nat × LA) := []
noncomputable def iBound.f (n : Nat) (a0 : Run) : Option (Int × Unit) := (quiet.f n a0).bind fun r1 => br r1.1 (some (1, ())) ((stuck.f n a0).bind fun r2 => br r2.1 (some (2, ())) (some (3, ())))
noncomputable def iBound.mng (n : Nat) : Mng := ⟨[.psh tRun], [.val I], fun x => iBound.f n x.1⟩
noncomputable def iBound.cfg (n : Nat) : Cfg := ⟨tys17, [(70, quiet.mng n), (88, stuck.mng n)], [], []⟩
theorem iBound.eq : ∀ (n : Nat) (a0 : Run), runF (iBound.cfg n) n Try.f65 (annOf Try.f65 iBound.las) [.psh tRun] [.val I] (a0, ()) = iBound.f n a0 := by
  intros
  kernel_rfl
theorem iBound.gof : GoF Try.prog 65 := ⟨_, Try.func65, by kernel_rfl, by kernel_rfl⟩
theorem iBound.sound (n : Nat) : Sound Try.prog 65 (iBound.mng n) := runF_sound (fn := Try.f65) (m := iBound.mng n) (c := iBound.cfg n) (regOK mixed (opOK (.of (c := iBound.cfg n) ⟨⟨quiet.sound n, quiet.gof⟩, ⟨⟨stuck.sound n, stuck.gof⟩, trivial⟩⟩) (.of (c := iBound.cfg n) trivial)) (tysOK tys17_ok)) (tysOK tys17_ok) Try.func65 (fun x => (iBound.eq n x.1).symm)

def iRunBounded.las : List (Nat × LA) := []
noncomputable def iRunBounded.f (n : Nat) (a0 : Network) (a1 : State) (a2 : List Int) (a3 : Int) : Option (State × (Int × Unit)) := (iBounded.f n a0 a1 a2).bind fun r1 => br (!r1.1) (some (([], ([], ([], 0))), (0, ()))) ((boundedRun.f n a0.1 a0.2 a1.1 a1.2.1 a1.2.2.1 a1.2.2.2 a2).bind fun r2 => (turns.f n a3 r2.1 r2.2.1 r2.2.2.1 r2.2.2.2.1 r2.2.2.2.2.1 r2.2.2.2.2.2.1 r2.2.2.2.2.2.2.1 r2.2.2.2.2.2.2.2.1 r2.2.2.2.2.2.2.2.2.1).bind fun r3 => (iBound.f n ((r3.1, r3.2.1), ((r3.2.2.2.2.1, (r3.2.2.2.2.2.1, (r3.2.2.2.2.2.2.1, r3.2.2.1))), (r3.2.2.2.2.2.2.2.1, (r3.2.2.2.2.2.2.2.2.1, r3.2.2.2.1))))).bind fun r4 => some ((r3.2.2.2.2.1, (r3.2.2.2.2.2.1, (r3.2.2.2.2.2.2.1, r3.2.2.1))), (r4.1, ())))
noncomputable def iRunBounded.mng (n : Nat) : Mng := ⟨[.val tNetwork, .val tState, .val IS, .val I], [.val tState, .val I], fun x => iRunBounded.f n x.1 x.2.1 x.2.2.1 x.2.2.2.1⟩
noncomputable def iRunBounded.cfg (n : Nat) : Cfg := ⟨tys17, [(61, iBounded.mng n), (65, iBound.mng n)], [(62, boundedRun.mng n), (63, turns.mng n)], []⟩
theorem iRunBounded.eq : ∀ (n : Nat) (a0 : Network) (a1 : State) (a2 : List Int) (a3 : Int), runF (iRunBounded.cfg n) n Try.f17 (annOf Try.f17 iRunBounded.las) [.val tNetwork, .val tState, .val IS, .val I] [.val tState, .val I] (a0, (a1, (a2, (a3, ())))) = iRunBounded.f n a0 a1 a2 a3 := by
  intros
  kernel_rfl
theorem iRunBounded.gof : GoF Try.prog 17 := ⟨_, Try.func17, by kernel_rfl, by kernel_rfl⟩
theorem iRunBounded.sound (n : Nat) : Sound Try.prog 17 (iRunBounded.mng n) := runF_sound (fn := Try.f17) (m := iRunBounded.mng n) (c := iRunBounded.cfg n) (regOK mixed (opOK (.of (c := iRunBounded.cfg n) ⟨⟨iBounded.sound n, iBounded.gof⟩, ⟨⟨iBound.sound n, iBound.gof⟩, trivial⟩⟩) (.of (c := iRunBounded.cfg n) ⟨⟨boundedRun.sound n, boundedRun.gof⟩, ⟨⟨turns.sound n, turns.gof⟩, trivial⟩⟩)) (tysOK tys17_ok)) (tysOK tys17_ok) Try.func17 (fun x => (iRunBounded.eq n x.1 x.2.1 x.2.2.1 x.2.2.2.1).symm)
end Go.AmT
