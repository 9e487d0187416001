/- Functions that the law FnDropped reaches, each as a plain Lean function, and that each does what that says. No condition. -/
import Derived.Test.YtgepghodhnmhjaaPCap
namespace Go.AmT
open Go Go.Am Go.Proofs
set_option linter.unusedVariables false
set_option maxRecDepth 100000
abbrev tActor : Ty := (.pair I IS)
abbrev tState : Ty := (.pair (.sl tActor) (.pair (.sl IS) (.pair (.sl IS) I)))
abbrev Actor : Type := Int × List Int
def zActor : Actor := (0, [])
abbrev State : Type := List Actor × (List (List Int) × (List (List Int) × Int))
def tys2 : List (Nat × TInfo) := [(3, ⟨false, 1, 8, [.int .i64 0], .int .i64, 0, some I, [], false⟩),
  (23, ⟨false, 1, 24, [.nil], .slice, 71, some (.sl tProgram), [], false⟩),
  (24, ⟨false, 1, 24, [.nil], .slice, 53, some (.sl tLink), [], false⟩),
  (26, ⟨true, 2, 48, [.nil, .nil], .struct, 0, some tNetwork, [(0, 23), (1, 24)], false⟩),
  (30, ⟨false, 1, 24, [.nil], .slice, 89, some (.sl tActor), [], false⟩),
  (31, ⟨false, 1, 24, [.nil], .slice, 37, some (.sl IS), [], false⟩),
  (33, ⟨true, 4, 80, [.nil, .nil, .nil, .int .i64 0], .struct, 0, some tState, [(0, 30), (1, 31), (2, 31), (3, 3)], false⟩),
  (37, ⟨false, 1, 24, [.nil], .slice, 3, some IS, [], false⟩),
  (53, ⟨true, 5, 56, [.int .i64 0, .int .i64 0, .int .i64 0, .int .i64 0, .nil], .struct, 0, some tLink, [(0, 3), (1, 3), (2, 3), (3, 3), (4, 37)], false⟩),
  (69, ⟨false, 1, 24, [.nil], .slice, 129, some (.sl tInstr), [], false⟩),
  (71, ⟨true, 3, 40, [.int .i64 0, .int .i64 0, .nil], .struct, 0, some tProgram, [(0, 3), (1, 3), (2, 69)], false⟩),
  (89, ⟨true, 2, 32, [.int .i64 0, .nil], .struct, 0, some tActor, [(0, 3), (1, 37)], false⟩)]
theorem tys2_ok : (tys2.all fun p => tokB Try.prog p.1 p.2) = true := by kernel_rfl

def sL1Begins.las : List (Nat × LA) := [(6, ⟨[(14, .int .i64)], [], [1, 12, 13], []⟩)]
noncomputable def sL1Begins.f (n : Nat) (a0 : List Int) (a1 : List Int) : Option (Bool × Unit) := br (decide ((a1.length : Int) < (a0.length : Int))) (some (false, ())) (iter (α := (Int × Unit)) n (fun ih6 x5 => br (decide (x5.1 < (a0.length : Int))) (chk (0 ≤ x5.1 ∧ x5.1 < (a0.length : Int)) (chk (0 ≤ x5.1 ∧ x5.1 < (a1.length : Int)) (br (!decide ((a1.getD x5.1.toNat 0) = (a0.getD x5.1.toNat 0))) (some (false, ())) (ih6 ((w64 (x5.1 + 1)), ()))))) (some (true, ()))) (0, ()))
noncomputable def sL1Begins.mng (n : Nat) : Mng := ⟨[.val IS, .val IS], [.val .bool], fun x => sL1Begins.f n x.1 x.2.1⟩
noncomputable def sL1Begins.cfg (n : Nat) : Cfg := ⟨tys2, [], [], []⟩
theorem sL1Begins.eq : ∀ (n : Nat) (a0 : List Int) (a1 : List Int), runF (sL1Begins.cfg n) n Try.f86 (annOf Try.f86 sL1Begins.las) [.val IS, .val IS] [.val .bool] (a0, (a1, ())) = sL1Begins.f n a0 a1 := by
  intros
  kernel_rfl
theorem sL1Begins.gof : GoF Try.prog 86 := ⟨_, Try.func86, by kernel_rfl, by kernel_rfl⟩
theorem sL1Begins.sound (n : Nat) : Sound Try.prog 86 (sL1Begins.mng n) := runF_sound (fn := Try.f86) (m := sL1Begins.mng n) (c := sL1Begins.cfg n) (regOK mixed (opOK (.of (c := sL1Begins.cfg n) trivial) (.of (c := sL1Begins.cfg n) trivial)) (tysOK tys2_ok)) (tysOK tys2_ok) Try.func86 (fun x => (sL1Begins.eq n x.1 x.2.1).symm)

def equalI.las : List (Nat × LA) := [(6, ⟨[(13, .int .i64)], [], [0, 1, 12], []⟩)]
noncomputable def equalI.f (n : Nat) (a0 : List Int) (a1 : List Int) : Option (Bool × Unit) := br (!decide ((a0.length : Int) = (a1.length : Int))) (some (false, ())) (iter (α := (Int × Unit)) n (fun ih6 x5 => br (decide (x5.1 < (a0.length : Int))) (chk (0 ≤ x5.1 ∧ x5.1 < (a0.length : Int)) (chk (0 ≤ x5.1 ∧ x5.1 < (a1.length : Int)) (br (!decide ((a0.getD x5.1.toNat 0) = (a1.getD x5.1.toNat 0))) (some (false, ())) (ih6 ((w64 (x5.1 + 1)), ()))))) (some (true, ()))) (0, ()))
noncomputable def equalI.mng (n : Nat) : Mng := ⟨[.val IS, .val IS], [.val .bool], fun x => equalI.f n x.1 x.2.1⟩
noncomputable def equalI.cfg (n : Nat) : Cfg := ⟨tys2, [], [], []⟩
theorem equalI.eq : ∀ (n : Nat) (a0 : List Int) (a1 : List Int), runF (equalI.cfg n) n Try.f133 (annOf Try.f133 equalI.las) [.val IS, .val IS] [.val .bool] (a0, (a1, ())) = equalI.f n a0 a1 := by
  intros
  kernel_rfl
theorem equalI.gof : GoF Try.prog 133 := ⟨_, Try.func133, by kernel_rfl, by kernel_rfl⟩
theorem equalI.sound (n : Nat) : Sound Try.prog 133 (equalI.mng n) := runF_sound (fn := Try.f133) (m := equalI.mng n) (c := equalI.cfg n) (regOK mixed (opOK (.of (c := equalI.cfg n) trivial) (.of (c := equalI.cfg n) trivial)) (tysOK tys2_ok)) (tysOK tys2_ok) Try.func133 (fun x => (equalI.eq n x.1 x.2.1).symm)

end Go.AmT
