/- Functions that the law FnUniform reaches, each as a plain Lean function, and that each does what that says. No condition. -/
import Derived.Test.YtgepghodhnmhjaaPLstU
namespace Go.AmT
open Go Go.Am Go.Proofs
set_option linter.unusedVariables false
set_option maxRecDepth 100000
def tys17 : List (Nat × TInfo) := [(3, ⟨false, 1, 8, [.int .i64 0], .int .i64, 0, some I, [], false⟩),
  (22, ⟨false, 1, 24, [.nil], .slice, 5, some (.sl U8), [], false⟩),
  (26, ⟨true, 2, 48, [.nil, .nil], .struct, 0, some tNetwork, [(0, 23), (1, 24)], false⟩),
  (33, ⟨true, 4, 80, [.nil, .nil, .nil, .int .i64 0], .struct, 0, some tState, [(0, 30), (1, 31), (2, 31), (3, 3)], false⟩)]
theorem tys17_ok : (tys17.all fun p => tokB Try.prog p.1 p.2) = true := by kernel_rfl

def law.las : List (Nat × LA) := [(10, ⟨[(38, .bool)], [], [3, 4], []⟩), (15, ⟨[(65, .bool)], [], [3, 4], []⟩)]
noncomputable def law.f (n : Nat) (a0 : List Int) : Option (Bool × Unit) := br (decide (1048576 < (a0.length : Int))) (some (true, ())) ((makeNetwork.f n a0 4).bind fun r1 => (iLeastUniform.f n r1.1 8 3000).bind fun r2 => br (!r2.2.1) ((sLeastUniform.f n r1.1 8 3000).bind fun r4 => some ((!r4.2.1), ())) (cut (α := (Bool × Unit)) (br (decide (r2.1 < 0)) (some (.inr (true, ()))) (some (.inr ((decide (8 < r2.1)), ())))) fun y5 => br y5.1 (some (false, ())) ((sStartState.f n r1.1).bind fun r6 => (iUni.f n r1.1 r2.1).bind fun r7 => (iRunBounded.f n r1.1 r6.1 r7.1 3000).bind fun r8 => (sStartState.f n r1.1).bind fun r9 => (iUni.f n r1.1 (w64 (r2.1 + 1))).bind fun r10 => (iRunBounded.f n r1.1 r9.1 r10.1 3000).bind fun r11 => cut (α := (Bool × Unit)) (br (!decide (r8.2.1 = 1)) (some (.inr (true, ()))) (some (.inr ((!decide (r11.2.1 = 1)), ())))) fun y12 => br y12.1 (some (false, ())) (br (decide (r2.1 = 0)) (some (true, ())) ((sStartState.f n r1.1).bind fun r13 => (iUni.f n r1.1 (w64 (r2.1 - 1))).bind fun r14 => (iRunBounded.f n r1.1 r13.1 r14.1 3000).bind fun r15 => some ((!decide (r15.2.1 = 1)), ()))))))
noncomputable def law.mng (n : Nat) : Mng := ⟨[.val (.sl U8)], [.val .bool], fun x => law.f n x.1⟩
noncomputable def law.cfg (n : Nat) : Cfg := ⟨tys17, [(14, makeNetwork.mng n), (15, iLeastUniform.mng n), (16, sLeastUniform.mng n), (18, sStartState.mng n), (19, iUni.mng n), (17, iRunBounded.mng n)], [], []⟩
theorem law.eq : ∀ (n : Nat) (a0 : List Int), runF (law.cfg n) n Try.f3 (annOf Try.f3 law.las) [.val (.sl U8)] [.val .bool] (a0, ()) = law.f n a0 := by
  intros
  kernel_rfl
theorem law.gof : GoF Try.prog 3 := ⟨_, Try.func3, by kernel_rfl, by kernel_rfl⟩
theorem law.sound (n : Nat) : Sound Try.prog 3 (law.mng n) := runF_sound (fn := Try.f3) (m := law.mng n) (c := law.cfg n) (regOK mixed (opOK (.of (c := law.cfg n) ⟨⟨makeNetwork.sound n, makeNetwork.gof⟩, ⟨⟨iLeastUniform.sound n, iLeastUniform.gof⟩, ⟨⟨sLeastUniform.sound n, sLeastUniform.gof⟩, ⟨⟨sStartState.sound n, sStartState.gof⟩, ⟨⟨iUni.sound n, iUni.gof⟩, ⟨⟨iRunBounded.sound n, iRunBounded.gof⟩, trivial⟩⟩⟩⟩⟩⟩) (.of (c := law.cfg n) trivial)) (tysOK tys17_ok)) (tysOK tys17_ok) Try.func3 (fun x => (law.eq n x.1).symm)
end Go.AmT
