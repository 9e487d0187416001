/- Functions that the law FnDiamond reaches, each as a plain Lean function, and that each does what that says. No condition. -/
import Derived.Test.YtcipidfgblbeiaaPStepN
namespace Go.AmT
open Go Go.Am Go.Proofs
set_option linter.unusedVariables false
set_option maxRecDepth 100000
def tys15 : List (Nat × TInfo) := [(3, ⟨false, 1, 8, [.int .i64 0], .int .i64, 0, some I, [], false⟩),
  (4, ⟨false, 1, 1, [.bool false], .bool, 0, some .bool, [], false⟩),
  (30, ⟨false, 1, 24, [.nil], .slice, 54, some (.sl tProgram), [], false⟩),
  (33, ⟨true, 2, 48, [.nil, .nil], .struct, 0, some tNetwork, [(0, 30), (1, 31)], false⟩),
  (43, ⟨false, 1, 24, [.nil], .slice, 5, some (.sl U8), [], false⟩),
  (48, ⟨true, 4, 80, [.nil, .nil, .nil, .int .i64 0], .struct, 0, some tState, [(0, 45), (1, 46), (2, 46), (3, 3)], false⟩)]
theorem tys15_ok : (tys15.all fun p => tokB Try.prog p.1 p.2) = true := by kernel_rfl

def law.las : List (Nat × LA) := [(8, ⟨[(27, .int .i64)], [], [3, 4, 26], []⟩), (18, ⟨[(6, .int .i64)], [], [3, 4, 5, 26, 27], []⟩), (22, ⟨[(55, .bool)], [], [3, 4, 5, 6, 26, 27], []⟩)]
noncomputable def law.f (n : Nat) (a0 : List Int) : Option (Bool × Unit) := br (decide (1048576 < (a0.length : Int))) (some (true, ())) ((makeNetwork.f n a0 6).bind fun r1 => (fresh.f n a0 3).bind fun r2 => (makeState.f n r2.1 r1.1 200).bind fun r3 => iter (α := (Int × Unit)) n (fun ih47 x46 => br (decide (x46.1 < (r1.1.1.length : Int))) ((iCanStep.f n r1.1 r3.1 x46.1).bind fun r48 => (sCanStep.f n r1.1 r3.1 x46.1).bind fun r49 => br (!decide (r48.1 = r49.1)) (some (false, ())) (iter (α := (Int × Unit)) n (fun ih71 x70 => br (decide (x70.1 < x46.1)) (cut (α := (Bool × Unit)) ((iCanStep.f n r1.1 r3.1 x46.1).bind fun r75 => br (!r75.1) (some (.inr (true, ()))) ((iCanStep.f n r1.1 r3.1 x70.1).bind fun r76 => some (.inr ((!r76.1), ())))) fun y74 => br y74.1 (ih71 ((w64 (x70.1 + 1)), ())) ((iStepN.f n r1.1 r3.1 x46.1).bind fun r77 => (iStepN.f n r1.1 r3.1 x70.1).bind fun r78 => (iStepN.f n r1.1 r77.1 x70.1).bind fun r79 => (iStepN.f n r1.1 r78.1 x46.1).bind fun r80 => br (!r77.2.1) (some (false, ())) (br (!r78.2.1) (some (false, ())) (br (!r79.2.1) (some (false, ())) (br (!r80.2.1) (some (false, ())) ((statesB.f n r1.1 r79.1 r80.1).bind fun r81 => br (!r81.1) (some (false, ())) (br (!decide (r79.1.2.2.2 = (w64 (r3.1.2.2.2 + 2)))) (some (false, ())) (ih71 ((w64 (x70.1 + 1)), ()))))))))) (ih47 ((w64 (x46.1 + 1)), ()))) (0, ()))) (some (true, ()))) (0, ()))
noncomputable def law.mng (n : Nat) : Mng := ⟨[.val (.sl U8)], [.val .bool], fun x => law.f n x.1⟩
noncomputable def law.cfg (n : Nat) : Cfg := ⟨tys15, [(19, makeNetwork.mng n), (21, fresh.mng n), (20, makeState.mng n), (23, iCanStep.mng n), (25, sCanStep.mng n), (35, iStepN.mng n), (34, statesB.mng n)], [], []⟩
theorem law.eq : ∀ (n : Nat) (a0 : List Int), runF (law.cfg n) n Try.f7 (annOf Try.f7 law.las) [.val (.sl U8)] [.val .bool] (a0, ()) = law.f n a0 := by
  intros
  kernel_rfl
theorem law.sound (n : Nat) : Sound Try.prog 7 (law.mng n) := runF_sound (fn := Try.f7) (m := law.mng n) (c := law.cfg n) (regOK mixed (opOK (.of (c := law.cfg n) ⟨⟨makeNetwork.sound n, makeNetwork.gof⟩, ⟨⟨fresh.sound n, fresh.gof⟩, ⟨⟨makeState.sound n, makeState.gof⟩, ⟨⟨iCanStep.sound n, iCanStep.gof⟩, ⟨⟨sCanStep.sound n, sCanStep.gof⟩, ⟨⟨iStepN.sound n, iStepN.gof⟩, ⟨⟨statesB.sound n, statesB.gof⟩, trivial⟩⟩⟩⟩⟩⟩⟩) (.of (c := law.cfg n) trivial)) (tysOK tys15_ok)) (tysOK tys15_ok) Try.func7 (fun x => (law.eq n x.1).symm)
end Go.AmT
