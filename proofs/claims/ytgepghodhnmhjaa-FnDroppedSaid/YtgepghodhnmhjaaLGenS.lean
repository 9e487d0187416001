/- Functions that the law FnDropped reaches, each as a plain Lean function, and that each does what that says. No condition. -/
import Derived.Test.YtgepghodhnmhjaaPGen
namespace Go.AmT
open Go Go.Am Go.Proofs
set_option linter.unusedVariables false
set_option maxRecDepth 100000
def tys12 : List (Nat × TInfo) := [(3, ⟨false, 1, 8, [.int .i64 0], .int .i64, 0, some I, [], false⟩),
  (5, ⟨false, 1, 1, [.int .u8 0], .int .u8, 0, some U8, [], false⟩),
  (22, ⟨false, 1, 24, [.nil], .slice, 5, some (.sl U8), [], false⟩),
  (23, ⟨false, 1, 24, [.nil], .slice, 71, some (.sl tProgram), [], false⟩),
  (24, ⟨false, 1, 24, [.nil], .slice, 53, some (.sl tLink), [], false⟩),
  (26, ⟨true, 2, 48, [.nil, .nil], .struct, 0, some tNetwork, [(0, 23), (1, 24)], false⟩),
  (33, ⟨true, 4, 80, [.nil, .nil, .nil, .int .i64 0], .struct, 0, some tState, [(0, 30), (1, 31), (2, 31), (3, 3)], false⟩),
  (37, ⟨false, 1, 24, [.nil], .slice, 3, some IS, [], false⟩),
  (53, ⟨true, 5, 56, [.int .i64 0, .int .i64 0, .int .i64 0, .int .i64 0, .nil], .struct, 0, some tLink, [(0, 3), (1, 3), (2, 3), (3, 3), (4, 37)], false⟩)]
theorem tys12_ok : (tys12.all fun p => tokB Try.prog p.1 p.2) = true := by kernel_rfl

def lawAt.las : List (Nat × LA) := []
noncomputable def lawAt.f (n : Nat) (a0 : List Int) (a1 : Int) : Option (Int × Unit) := br (decide (a1 < (a0.length : Int))) (chk (0 ≤ a1 ∧ a1 < (a0.length : Int)) (some ((w64 ((a0.getD a1.toNat 0))), ()))) (some (((w64 ((w64 (a1 * 37)) + (w64 ((a0.length : Int) * 11)))).tmod 256), ()))
noncomputable def lawAt.mng (n : Nat) : Mng := ⟨[.val (.sl U8), .val I], [.val I], fun x => lawAt.f n x.1 x.2.1⟩
noncomputable def lawAt.cfg (n : Nat) : Cfg := ⟨tys12, [], [], []⟩
theorem lawAt.eq : ∀ (n : Nat) (a0 : List Int) (a1 : Int), runF (lawAt.cfg n) n Try.f36 (annOf Try.f36 lawAt.las) [.val (.sl U8), .val I] [.val I] (a0, (a1, ())) = lawAt.f n a0 a1 := by
  intros
  kernel_rfl
theorem lawAt.gof : GoF Try.prog 36 := ⟨_, Try.func36, by kernel_rfl, by kernel_rfl⟩
theorem lawAt.sound (n : Nat) : Sound Try.prog 36 (lawAt.mng n) := runF_sound (fn := Try.f36) (m := lawAt.mng n) (c := lawAt.cfg n) (regOK mixed (opOK (.of (c := lawAt.cfg n) trivial) (.of (c := lawAt.cfg n) trivial)) (tysOK tys12_ok)) (tysOK tys12_ok) Try.func36 (fun x => (lawAt.eq n x.1 x.2.1).symm)
end Go.AmT
