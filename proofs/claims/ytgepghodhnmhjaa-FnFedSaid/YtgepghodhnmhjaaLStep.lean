/- Functions that the law FnFed reaches, each as a plain Lean function, and that each does what that says. No condition. -/
import Derived.Test.YtgepghodhnmhjaaPRun
namespace Go.AmT
open Go Go.Am Go.Proofs
set_option linter.unusedVariables false
set_option maxRecDepth 100000
def tys6 : List (Nat × TInfo) := [(3, ⟨false, 1, 8, [.int .i64 0], .int .i64, 0, some I, [], false⟩),
  (23, ⟨false, 1, 24, [.nil], .slice, 71, some (.sl tProgram), [], false⟩),
  (26, ⟨true, 2, 48, [.nil, .nil], .struct, 0, some tNetwork, [(0, 23), (1, 24)], false⟩),
  (30, ⟨false, 1, 24, [.nil], .slice, 89, some (.sl tActor), [], false⟩),
  (31, ⟨false, 1, 24, [.nil], .slice, 37, some (.sl IS), [], false⟩),
  (33, ⟨true, 4, 80, [.nil, .nil, .nil, .int .i64 0], .struct, 0, some tState, [(0, 30), (1, 31), (2, 31), (3, 3)], false⟩),
  (37, ⟨false, 1, 24, [.nil], .slice, 3, some IS, [], false⟩),
  (69, ⟨false, 1, 24, [.nil], .slice, 129, some (.sl tInstr), [], false⟩),
  (71, ⟨true, 3, 40, [.int .i64 0, .int .i64 0, .nil], .struct, 0, some tProgram, [(0, 3), (1, 3), (2, 69)], false⟩),
  (85, ⟨true, 9, 200, [.nil, .nil, .nil, .nil, .nil, .int .i64 0, .nil, .nil, .nil], .struct, 0, some tRun, [(0, 26), (2, 33), (6, 31), (7, 31), (8, 37)], false⟩),
  (89, ⟨true, 2, 32, [.int .i64 0, .nil], .struct, 0, some tActor, [(0, 3), (1, 37)], false⟩),
  (129, ⟨true, 4, 32, [.int .i64 0, .int .i64 0, .int .i64 0, .int .i64 0], .struct, 0, some tInstr, [(0, 3), (1, 3), (2, 3), (3, 3)], false⟩)]
theorem tys6_ok : (tys6.all fun p => tokB Try.prog p.1 p.2) = true := by kernel_rfl

def sL1Copy.las : List (Nat × LA) := []
noncomputable def sL1Copy.f (n : Nat) (a0 : List Int) : Option ((List Int) × Unit) := chk ((([] : List Int).length + a0.length) * 8 ≤ maxB) (some ((([] : List Int) ++ a0), ()))
noncomputable def sL1Copy.mng (n : Nat) : Mng := ⟨[.val IS], [.val IS], fun x => sL1Copy.f n x.1⟩
noncomputable def sL1Copy.cfg (n : Nat) : Cfg := ⟨tys6, [], [], []⟩
theorem sL1Copy.eq : ∀ (n : Nat) (a0 : List Int), runF (sL1Copy.cfg n) n Try.f130 (annOf Try.f130 sL1Copy.las) [.val IS] [.val IS] (a0, ()) = sL1Copy.f n a0 := by
  intros
  kernel_rfl
theorem sL1Copy.gof : GoF Try.prog 130 := ⟨_, Try.func130, by kernel_rfl, by kernel_rfl⟩
theorem sL1Copy.sound (n : Nat) : Sound Try.prog 130 (sL1Copy.mng n) := runF_sound (fn := Try.f130) (m := sL1Copy.mng n) (c := sL1Copy.cfg n) (regOK mixed (opOK (.of (c := sL1Copy.cfg n) trivial) (.of (c := sL1Copy.cfg n) trivial)) (tysOK tys6_ok)) (tysOK tys6_ok) Try.func130 (fun x => (sL1Copy.eq n x.1).symm)

end Go.AmT
