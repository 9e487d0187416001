/- Functions that the law FnScheduled reaches, each as a plain Lean function, and that each does what that says. No condition. -/
import Derived.Test.YtgepghodhnmhjaaPTurnS
namespace Go.AmT
open Go Go.Am Go.Proofs
set_option linter.unusedVariables false
set_option maxRecDepth 100000
def tys10 : List (Nat × TInfo) := [(3, ⟨false, 1, 8, [.int .i64 0], .int .i64, 0, some I, [], false⟩),
  (23, ⟨false, 1, 24, [.nil], .slice, 71, some (.sl tProgram), [], false⟩),
  (26, ⟨true, 2, 48, [.nil, .nil], .struct, 0, some tNetwork, [(0, 23), (1, 24)], false⟩),
  (30, ⟨false, 1, 24, [.nil], .slice, 89, some (.sl tActor), [], false⟩),
  (31, ⟨false, 1, 24, [.nil], .slice, 37, some (.sl IS), [], false⟩),
  (33, ⟨true, 4, 80, [.nil, .nil, .nil, .int .i64 0], .struct, 0, some tState, [(0, 30), (1, 31), (2, 31), (3, 3)], false⟩),
  (37, ⟨false, 1, 24, [.nil], .slice, 3, some IS, [], false⟩),
  (89, ⟨true, 2, 32, [.int .i64 0, .nil], .struct, 0, some tActor, [(0, 3), (1, 37)], false⟩)]
theorem tys10_ok : (tys10.all fun p => tokB Try.prog p.1 p.2) = true := by kernel_rfl

def sL3Has.las : List (Nat × LA) := []
noncomputable def sL3Has.f (n : Nat) (a0 : Network) (a1 : Int) : Option (Bool × Unit) := br (decide (0 ≤ a1)) (some ((decide (a1 < (a0.1.length : Int))), ())) (some (false, ()))
noncomputable def sL3Has.mng (n : Nat) : Mng := ⟨[.val tNetwork, .val I], [.val .bool], fun x => sL3Has.f n x.1 x.2.1⟩
noncomputable def sL3Has.cfg (n : Nat) : Cfg := ⟨tys10, [], [], []⟩
theorem sL3Has.eq : ∀ (n : Nat) (a0 : Network) (a1 : Int), runF (sL3Has.cfg n) n Try.f74 (annOf Try.f74 sL3Has.las) [.val tNetwork, .val I] [.val .bool] (a0, (a1, ())) = sL3Has.f n a0 a1 := by
  intros
  kernel_rfl
theorem sL3Has.gof : GoF Try.prog 74 := ⟨_, Try.func74, by kernel_rfl, by kernel_rfl⟩
theorem sL3Has.sound (n : Nat) : Sound Try.prog 74 (sL3Has.mng n) := runF_sound (fn := Try.f74) (m := sL3Has.mng n) (c := sL3Has.cfg n) (regOK mixed (opOK (.of (c := sL3Has.cfg n) trivial) (.of (c := sL3Has.cfg n) trivial)) (tysOK tys10_ok)) (tysOK tys10_ok) Try.func74 (fun x => (sL3Has.eq n x.1 x.2.1).symm)
end Go.AmT
