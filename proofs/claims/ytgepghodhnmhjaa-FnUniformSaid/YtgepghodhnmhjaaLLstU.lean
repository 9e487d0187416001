/- Functions that the law FnUniform reaches, each as a plain Lean function, and that each does what that says. No condition. -/
import Derived.Test.YtgepghodhnmhjaaPGenS
namespace Go.AmT
open Go Go.Am Go.Proofs
set_option linter.unusedVariables false
set_option maxRecDepth 100000
def tys16 : List (Nat × TInfo) := [(3, ⟨false, 1, 8, [.int .i64 0], .int .i64, 0, some I, [], false⟩),
  (26, ⟨true, 2, 48, [.nil, .nil], .struct, 0, some tNetwork, [(0, 23), (1, 24)], false⟩),
  (33, ⟨true, 4, 80, [.nil, .nil, .nil, .int .i64 0], .struct, 0, some tState, [(0, 30), (1, 31), (2, 31), (3, 3)], false⟩)]
theorem tys16_ok : (tys16.all fun p => tokB Try.prog p.1 p.2) = true := by kernel_rfl

def sLeastUniform.las : List (Nat × LA) := [(1, ⟨[(18, .bool)], [], [1, 2, 3], []⟩), (6, ⟨[(8, .int .i64)], [], [1, 2, 3], []⟩)]
noncomputable def sLeastUniform.f (n : Nat) (a0 : Network) (a1 : Int) (a2 : Int) : Option (Int × (Bool × Unit)) := cut (α := (Bool × Unit)) ((sIsNetwork.f n a0).bind fun r4 => br (!r4.1) (some (.inr (true, ()))) ((sL1In.f n a1 0 50).bind fun r5 => some (.inr ((!r5.1), ())))) fun y3 => br y3.1 (some (0, (false, ()))) (iter (α := (Int × Unit)) n (fun ih15 x14 => br (decide (x14.1 ≤ a1)) ((sStartState.f n a0).bind fun r16 => (sUni.f n a0 x14.1).bind fun r17 => (sL6Run.f n a0.1 a0.2 r16.1.2.2.2 r17.1 a2 r16.1.1 r16.1.2.1 r16.1.2.2.1).bind fun r18 => br (decide (r18.2.1 = 1)) (some (x14.1, (true, ()))) (ih15 ((w64 (x14.1 + 1)), ()))) (some (0, (false, ())))) (0, ()))
noncomputable def sLeastUniform.mng (n : Nat) : Mng := ⟨[.val tNetwork, .val I, .val I], [.val I, .val .bool], fun x => sLeastUniform.f n x.1 x.2.1 x.2.2.1⟩
noncomputable def sLeastUniform.cfg (n : Nat) : Cfg := ⟨tys16, [(45, sIsNetwork.mng n), (58, sL1In.mng n), (18, sStartState.mng n), (60, sUni.mng n)], [(59, sL6Run.mng n)], []⟩
theorem sLeastUniform.eq : ∀ (n : Nat) (a0 : Network) (a1 : Int) (a2 : Int), runF (sLeastUniform.cfg n) n Try.f16 (annOf Try.f16 sLeastUniform.las) [.val tNetwork, .val I, .val I] [.val I, .val .bool] (a0, (a1, (a2, ()))) = sLeastUniform.f n a0 a1 a2 := by
  intros
  kernel_rfl
theorem sLeastUniform.gof : GoF Try.prog 16 := ⟨_, Try.func16, by kernel_rfl, by kernel_rfl⟩
theorem sLeastUniform.sound (n : Nat) : Sound Try.prog 16 (sLeastUniform.mng n) := runF_sound (fn := Try.f16) (m := sLeastUniform.mng n) (c := sLeastUniform.cfg n) (regOK mixed (opOK (.of (c := sLeastUniform.cfg n) ⟨⟨sIsNetwork.sound n, sIsNetwork.gof⟩, ⟨⟨sL1In.sound n, sL1In.gof⟩, ⟨⟨sStartState.sound n, sStartState.gof⟩, ⟨⟨sUni.sound n, sUni.gof⟩, trivial⟩⟩⟩⟩) (.of (c := sLeastUniform.cfg n) ⟨⟨sL6Run.sound n, sL6Run.gof⟩, trivial⟩)) (tysOK tys16_ok)) (tysOK tys16_ok) Try.func16 (fun x => (sLeastUniform.eq n x.1 x.2.1 x.2.2.1).symm)

def iLeastUniform.las : List (Nat × LA) := [(1, ⟨[(21, .bool)], [], [1, 2, 3], []⟩), (6, ⟨[(8, .int .i64)], [], [1, 2, 3], []⟩)]
noncomputable def iLeastUniform.f (n : Nat) (a0 : Network) (a1 : Int) (a2 : Int) : Option (Int × (Bool × Unit)) := cut (α := (Bool × Unit)) ((iIsNetwork.f n a0).bind fun r3 => br (!r3.1) (some (.inr (true, ()))) (br (decide (a1 < 0)) (some (.inr (true, ()))) (some (.inr ((decide (50 < a1)), ()))))) fun y2 => br y2.1 (some (0, (false, ()))) (iter (α := (Int × Unit)) n (fun ih13 x12 => br (decide (x12.1 ≤ a1)) ((iStartState.f n a0).bind fun r14 => (iUni.f n a0 x12.1).bind fun r15 => (iRunBounded.f n a0 r14.1 r15.1 a2).bind fun r16 => br (decide (r16.2.1 = 1)) (some (x12.1, (true, ()))) (ih13 ((w64 (x12.1 + 1)), ()))) (some (0, (false, ())))) (0, ()))
noncomputable def iLeastUniform.mng (n : Nat) : Mng := ⟨[.val tNetwork, .val I, .val I], [.val I, .val .bool], fun x => iLeastUniform.f n x.1 x.2.1 x.2.2.1⟩
noncomputable def iLeastUniform.cfg (n : Nat) : Cfg := ⟨tys16, [(57, iIsNetwork.mng n), (53, iStartState.mng n), (19, iUni.mng n), (17, iRunBounded.mng n)], [], []⟩
theorem iLeastUniform.eq : ∀ (n : Nat) (a0 : Network) (a1 : Int) (a2 : Int), runF (iLeastUniform.cfg n) n Try.f15 (annOf Try.f15 iLeastUniform.las) [.val tNetwork, .val I, .val I] [.val I, .val .bool] (a0, (a1, (a2, ()))) = iLeastUniform.f n a0 a1 a2 := by
  intros
  kernel_rfl
theorem iLeastUniform.gof : GoF Try.prog 15 := ⟨_, Try.func15, by kernel_rfl, by kernel_rfl⟩
theorem iLeastUniform.sound (n : Nat) : Sound Try.prog 15 (iLeastUniform.mng n) := runF_sound (fn := Try.f15) (m := iLeastUniform.mng n) (c := iLeastUniform.cfg n) (regOK mixed (opOK (.of (c := iLeastUniform.cfg n) ⟨⟨iIsNetwork.sound n, iIsNetwork.gof⟩, ⟨⟨iStartState.sound n, iStartState.gof⟩, ⟨⟨iUni.sound n, iUni.gof⟩, ⟨⟨iRunBounded.sound n, iRunBounded.gof⟩, trivial⟩⟩⟩⟩) (.of (c := iLeastUniform.cfg n) trivial)) (tysOK tys16_ok)) (tysOK tys16_ok) Try.func15 (fun x => (iLeastUniform.eq n x.1 x.2.1 x.2.2.1).symm)
end Go.AmT
