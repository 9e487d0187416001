/- Functions that the law FnAcyclic reaches, each as a plain Lean function, and that each does what that says. No condition. -/
import Derived.Test.YtfcehikkpoeebaaGreatPCpS
namespace Go.AmT
open Go Go.Am Go.Proofs
set_option linter.unusedVariables false
set_option maxRecDepth 100000
def tys11 : List (Nat × TInfo) := [(3, ⟨false, 1, 8, [.int .i64 0], .int .i64, 0, some I, [], false⟩),
  (23, ⟨false, 1, 24, [.nil], .slice, 35, some (.sl tProgram), [], false⟩),
  (26, ⟨true, 2, 48, [.nil, .nil], .struct, 0, some tNetwork, [(0, 23), (1, 24)], false⟩),
  (73, ⟨true, 9, 200, [.nil, .nil, .nil, .nil, .nil, .int .i64 0, .nil, .nil, .nil], .struct, 0, some tRun, [(0, 26), (2, 45), (6, 29), (7, 29), (8, 40)], false⟩)]
theorem tys11_ok : (tys11.all fun p => tokB Tryz.prog p.1 p.2) = true := by kernel_rfl

def stuck.las : List (Nat × LA) := [(3, ⟨[(10, .int .i64)], [], [0, 9], []⟩)]
noncomputable def stuck.f (n : Nat) (a0 : Run) : Option (Bool × Unit) := iter (α := (Int × Unit)) n (fun ih6 x5 => br (decide (x5.1 < (a0.1.1.length : Int))) ((may.f n a0 x5.1).bind fun r7 => br r7.1 (some (false, ())) (ih6 ((w64 (x5.1 + 1)), ()))) (some (true, ()))) (0, ())
noncomputable def stuck.mng (n : Nat) : Mng := ⟨[.psh tRun], [.val .bool], fun x => stuck.f n x.1⟩
noncomputable def stuck.cfg (n : Nat) : Cfg := ⟨tys11, [(65, may.mng n)], [], []⟩
theorem stuck.eq : ∀ (n : Nat) (a0 : Run), runF (stuck.cfg n) n Tryz.f68 (annOf Tryz.f68 stuck.las) [.psh tRun] [.val .bool] (a0, ()) = stuck.f n a0 := by
  intros
  kernel_rfl
theorem stuck.gof : GoF Tryz.prog 68 := ⟨_, Tryz.func68, by kernel_rfl, by kernel_rfl⟩
theorem stuck.sound (n : Nat) : Sound Tryz.prog 68 (stuck.mng n) := runF_sound (fn := Tryz.f68) (m := stuck.mng n) (c := stuck.cfg n) (regOK mixed (opOK (.of (c := stuck.cfg n) ⟨⟨may.sound n, may.gof⟩, trivial⟩) (.of (c := stuck.cfg n) trivial)) (tysOK tys11_ok)) (tysOK tys11_ok) Tryz.func68 (fun x => (stuck.eq n x.1).symm)
end Go.AmT
