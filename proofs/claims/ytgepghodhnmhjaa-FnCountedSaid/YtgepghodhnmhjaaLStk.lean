/- Functions that the law FnCounted reaches, each as a plain Lean function, and that each does what that says. No condition. -/
import Derived.Test.YtgepghodhnmhjaaPRunS
import Derived.Test.YtgepghodhnmhjaaPStart
namespace Go.AmT
open Go Go.Am Go.Proofs
set_option linter.unusedVariables false
set_option maxRecDepth 100000
def tys16 : List (Nat × TInfo) := [(3, ⟨false, 1, 8, [.int .i64 0], .int .i64, 0, some I, [], false⟩),
  (23, ⟨false, 1, 24, [.nil], .slice, 71, some (.sl tProgram), [], false⟩),
  (26, ⟨true, 2, 48, [.nil, .nil], .struct, 0, some tNetwork, [(0, 23), (1, 24)], false⟩),
  (85, ⟨true, 9, 200, [.nil, .nil, .nil, .nil, .nil, .int .i64 0, .nil, .nil, .nil], .struct, 0, some tRun, [(0, 26), (2, 33), (6, 31), (7, 31), (8, 37)], false⟩)]
theorem tys16_ok : (tys16.all fun p => tokB Try.prog p.1 p.2) = true := by kernel_rfl

def stuck.las : List (Nat × LA) := [(3, ⟨[(10, .int .i64)], [], [0, 9], []⟩)]
noncomputable def stuck.f (n : Nat) (a0 : Run) : Option (Bool × Unit) := iter (α := (Int × Unit)) n (fun ih6 x5 => br (decide (x5.1 < (a0.1.1.length : Int))) ((may.f n a0 x5.1).bind fun r7 => br r7.1 (some (false, ())) (ih6 ((w64 (x5.1 + 1)), ()))) (some (true, ()))) (0, ())
noncomputable def stuck.mng (n : Nat) : Mng := ⟨[.psh tRun], [.val .bool], fun x => stuck.f n x.1⟩
noncomputable def stuck.cfg (n : Nat) : Cfg := ⟨tys16, [(93, may.mng n)], [], []⟩
theorem stuck.eq : ∀ (n : Nat) (a0 : Run), runF (stuck.cfg n) n Try.f88 (annOf Try.f88 stuck.las) [.psh tRun] [.val .bool] (a0, ()) = stuck.f n a0 := by
  intros
  kernel_rfl
theorem stuck.gof : GoF Try.prog 88 := ⟨_, Try.func88, by kernel_rfl, by kernel_rfl⟩
theorem stuck.sound (n : Nat) : Sound Try.prog 88 (stuck.mng n) := runF_sound (fn := Try.f88) (m := stuck.mng n) (c := stuck.cfg n) (regOK mixed (opOK (.of (c := stuck.cfg n) ⟨⟨may.sound n, may.gof⟩, trivial⟩) (.of (c := stuck.cfg n) trivial)) (tysOK tys16_ok)) (tysOK tys16_ok) Try.func88 (fun x => (stuck.eq n x.1).symm)
end Go.AmT
