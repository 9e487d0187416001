/- Functions that the law FnDemand reaches, each as a plain Lean function, and that each does what that says. No condition. -/
import Derived.Test.YtgepghodhnmhjaaPStep
import Derived.Test.YtgepghodhnmhjaaPTurns
import Derived.Test.YtgepghodhnmhjaaPBnd
namespace Go.AmT
open Go Go.Am Go.Proofs
set_option linter.unusedVariables false
set_option maxRecDepth 100000
def tys8 : List (Nat × TInfo) := [(3, ⟨false, 1, 8, [.int .i64 0], .int .i64, 0, some I, [], false⟩),
  (23, ⟨false, 1, 24, [.nil], .slice, 71, some (.sl tProgram), [], false⟩),
  (26, ⟨true, 2, 48, [.nil, .nil], .struct, 0, some tNetwork, [(0, 23), (1, 24)], false⟩),
  (33, ⟨true, 4, 80, [.nil, .nil, .nil, .int .i64 0], .struct, 0, some tState, [(0, 30), (1, 31), (2, 31), (3, 3)], false⟩),
  (85, ⟨true, 9, 200, [.nil, .nil, .nil, .nil, .nil, .int .i64 0, .nil, .nil, .nil], .struct, 0, some tRun, [(0, 26), (2, 33), (6, 31), (7, 31), (8, 37)], false⟩)]
theorem tys8_ok : (tys8.all fun p => tokB Try.prog p.1 p.2) = true := by kernel_rfl

def sL5First.las : List (Nat × LA) := [(3, ⟨[(9, .int .i64)], [], [2, 3, 8], []⟩)]
noncomputable def sL5First.f (n : Nat) (a0 : Network) (a1 : State) : Option (Int × Unit) := iter (α := (Int × Unit)) n (fun ih11 x10 => br (decide (x10.1 < (a0.1.length : Int))) ((sL5Can.f n a0 a1 x10.1).bind fun r12 => br r12.1 (some (x10.1, ())) (ih11 ((w64 (x10.1 + 1)), ()))) (some ((-1), ()))) (0, ())
noncomputable def sL5First.mng (n : Nat) : Mng := ⟨[.val tNetwork, .val tState], [.val I], fun x => sL5First.f n x.1 x.2.1⟩
noncomputable def sL5First.cfg (n : Nat) : Cfg := ⟨tys8, [(75, sL5Can.mng n)], [], []⟩
theorem sL5First.eq : ∀ (n : Nat) (a0 : Network) (a1 : State), runF (sL5First.cfg n) n Try.f78 (annOf Try.f78 sL5First.las) [.val tNetwork, .val tState] [.val I] (a0, (a1, ())) = sL5First.f n a0 a1 := by
  intros
  kernel_rfl
theorem sL5First.gof : GoF Try.prog 78 := ⟨_, Try.func78, by kernel_rfl, by kernel_rfl⟩
theorem sL5First.sound (n : Nat) : Sound Try.prog 78 (sL5First.mng n) := runF_sound (fn := Try.f78) (m := sL5First.mng n) (c := sL5First.cfg n) (regOK mixed (opOK (.of (c := sL5First.cfg n) ⟨⟨sL5Can.sound n, sL5Can.gof⟩, trivial⟩) (.of (c := sL5First.cfg n) trivial)) (tysOK tys8_ok)) (tysOK tys8_ok) Try.func78 (fun x => (sL5First.eq n x.1 x.2.1).symm)

end Go.AmT
