/- Functions that the law FnJoined reaches, each as a plain Lean function, and that each does what that says. No condition. -/
import Derived.Test.YtgepghodhnmhjaaGreatPStep
namespace Go.AmT
open Go Go.Am Go.Proofs
set_option linter.unusedVariables false
set_option maxRecDepth 100000
def tys4 : List (Nat × TInfo) := [(3, ⟨false, 1, 8, [.int .i64 0], .int .i64, 0, some I, [], false⟩),
  (24, ⟨false, 1, 24, [.nil], .slice, 50, some (.sl tLink), [], false⟩),
  (26, ⟨true, 2, 48, [.nil, .nil], .struct, 0, some tNetwork, [(0, 23), (1, 24)], false⟩),
  (31, ⟨false, 1, 24, [.nil], .slice, 36, some (.sl IS), [], false⟩),
  (36, ⟨false, 1, 24, [.nil], .slice, 3, some IS, [], false⟩),
  (47, ⟨true, 3, 40, [.int .i64 0, .int .i64 0, .nil], .struct, 0, some tProgram, [(0, 3), (1, 3), (2, 45)], false⟩),
  (50, ⟨true, 5, 56, [.int .i64 0, .int .i64 0, .int .i64 0, .int .i64 0, .nil], .struct, 0, some tLink, [(0, 3), (1, 3), (2, 3), (3, 3), (4, 36)], false⟩),
  (100, ⟨true, 2, 32, [.int .i64 0, .nil], .struct, 0, some tActor, [(0, 3), (1, 36)], false⟩)]
theorem tys4_ok : (tys4.all fun p => tokB Tryz.prog p.1 p.2) = true := by kernel_rfl

def sL4Tokens.las : List (Nat × LA) := [(4, ⟨[(3, .own 1000 IS), (10, .int .i64)], [(1000, .row true IS)], [8, 9], []⟩)]
noncomputable def sL4Tokens.f (n : Nat) (a0 : Network) : Option ((List (List Int)) × Unit) := iter (α := (Int × (List (List Int)) × Unit)) n (fun ih7 x6 => br (decide (x6.1 < (a0.2.length : Int))) (chk (0 ≤ x6.1 ∧ x6.1 < (a0.2.length : Int)) (let v8 := (a0.2.getD x6.1.toNat zLink); (sL1Copy.f n v8.2.2.2.2).bind fun r9 => chk ((x6.2.1.length + ([r9.1] : List (List Int)).length) * 24 ≤ maxB) (ih7 ((w64 (x6.1 + 1)), ((x6.2.1 ++ [r9.1]), ()))))) (some (x6.2.1, ()))) (0, ([], ()))
noncomputable def sL4Tokens.mng (n : Nat) : Mng := ⟨[.val tNetwork], [.val (.sl IS)], fun x => sL4Tokens.f n x.1⟩
noncomputable def sL4Tokens.cfg (n : Nat) : Cfg := ⟨tys4, [(51, sL1Copy.mng n)], [], []⟩
theorem sL4Tokens.eq : ∀ (n : Nat) (a0 : Network), runF (sL4Tokens.cfg n) n Tryz.f25 (annOf Tryz.f25 sL4Tokens.las) [.val tNetwork] [.val (.sl IS)] (a0, ()) = sL4Tokens.f n a0 := by
  intros
  kernel_rfl
theorem sL4Tokens.gof : GoF Tryz.prog 25 := ⟨_, Tryz.func25, by kernel_rfl, by kernel_rfl⟩
theorem sL4Tokens.sound (n : Nat) : Sound Tryz.prog 25 (sL4Tokens.mng n) := runF_sound (fn := Tryz.f25) (m := sL4Tokens.mng n) (c := sL4Tokens.cfg n) (regOK mixed (opOK (.of (c := sL4Tokens.cfg n) ⟨⟨sL1Copy.sound n, sL1Copy.gof⟩, trivial⟩) (.of (c := sL4Tokens.cfg n) trivial)) (tysOK tys4_ok)) (tysOK tys4_ok) Tryz.func25 (fun x => (sL4Tokens.eq n x.1).symm)

def iNewActor.las : List (Nat × LA) := []
noncomputable def iNewActor.f (n : Nat) (a0 : Program) : Option (Actor × Unit) := (iIsProgram.f n a0).bind fun r1 => br (!r1.1) (some ((0, []), ())) (chk (4 = 4 ∧ 0 ≤ 4 ∧ 4 * (8 : Int) ≤ (maxB : Int)) (some ((0, (List.replicate 4 (0 : Int))), ())))
noncomputable def iNewActor.mng (n : Nat) : Mng := ⟨[.val tProgram], [.val tActor], fun x => iNewActor.f n x.1⟩
noncomputable def iNewActor.cfg (n : Nat) : Cfg := ⟨tys4, [(43, iIsProgram.mng n)], [], []⟩
theorem iNewActor.eq : ∀ (n : Nat) (a0 : Program), runF (iNewActor.cfg n) n Tryz.f75 (annOf Tryz.f75 iNewActor.las) [.val tProgram] [.val tActor] (a0, ()) = iNewActor.f n a0 := by
  intros
  kernel_rfl
theorem iNewActor.gof : GoF Tryz.prog 75 := ⟨_, Tryz.func75, by kernel_rfl, by kernel_rfl⟩
theorem iNewActor.sound (n : Nat) : Sound Tryz.prog 75 (iNewActor.mng n) := runF_sound (fn := Tryz.f75) (m := iNewActor.mng n) (c := iNewActor.cfg n) (regOK mixed (opOK (.of (c := iNewActor.cfg n) ⟨⟨iIsProgram.sound n, iIsProgram.gof⟩, trivial⟩) (.of (c := iNewActor.cfg n) trivial)) (tysOK tys4_ok)) (tysOK tys4_ok) Tryz.func75 (fun x => (iNewActor.eq n x.1).symm)
end Go.AmT
