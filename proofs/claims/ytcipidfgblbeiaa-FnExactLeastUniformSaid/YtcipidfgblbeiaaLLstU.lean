/- Functions that the law FnExactLeastUniform reaches, each as a plain Lean function, and that each does what that says. No condition. -/
import Derived.Test.YtcipidfgblbeiaaPBoundR
import Derived.Test.YtcipidfgblbeiaaPUni
import Derived.Test.YtcipidfgblbeiaaPStart
namespace Go.AmT
open Go Go.Am Go.Proofs
set_option linter.unusedVariables false
set_option maxRecDepth 100000
def tys14 : List (Nat × TInfo) := [(3, ⟨false, 1, 8, [.int .i64 0], .int .i64, 0, some I, [], false⟩),
  (4, ⟨false, 1, 1, [.bool false], .bool, 0, some .bool, [], false⟩),
  (25, ⟨true, 2, 48, [.nil, .nil], .struct, 0, some tNetwork, [(0, 22), (1, 23)], false⟩),
  (33, ⟨true, 2, 48, [.nil, .nil], .struct, 0, some tNetwork, [(0, 30), (1, 31)], false⟩),
  (48, ⟨true, 4, 80, [.nil, .nil, .nil, .int .i64 0], .struct, 0, some tState, [(0, 45), (1, 46), (2, 46), (3, 3)], false⟩)]
theorem tys14_ok : (tys14.all fun p => tokB Try.prog p.1 p.2) = true := by kernel_rfl

def sLeastUniform.las : List (Nat × LA) := [(1, ⟨[(18, .bool)], [], [1, 2, 3], []⟩), (6, ⟨[(8, .int .i64)], [], [1, 2, 3], []⟩)]
noncomputable def sLeastUniform.f (n : Nat) (a0 : Network) (a1 : Int) (a2 : Int) : Option (Int × (Bool × Unit)) := cut (α := (Bool × Unit)) ((sIsNetwork.f n a0).bind fun r4 => br (!r4.1) (some (.inr (true, ()))) ((sL1In.f n a1 0 50).bind fun r5 => some (.inr ((!r5.1), ())))) fun y3 => br y3.1 (some (0, (false, ()))) (iter (α := (Int × Unit)) n (fun ih15 x14 => br (decide (x14.1 ≤ a1)) ((sStartState.f n a0).bind fun r16 => (sUni.f n a0 x14.1).bind fun r17 => (sL6Run.f n a0.1 a0.2 r16.1.2.2.2 r17.1 a2 r16.1.1 r16.1.2.1 r16.1.2.2.1).bind fun r18 => br (decide (r18.2.1 = 1)) (some (x14.1, (true, ()))) (ih15 ((w64 (x14.1 + 1)), ()))) (some (0, (false, ())))) (0, ()))
noncomputable def sLeastUniform.mng (n : Nat) : Mng := ⟨[.val tNetwork, .val I, .val I], [.val I, .val .bool], fun x => sLeastUniform.f n x.1 x.2.1 x.2.2.1⟩
noncomputable def sLeastUniform.cfg (n : Nat) : Cfg := ⟨tys14, [(38, sIsNetwork.mng n), (54, sL1In.mng n), (30, sStartState.mng n), (56, sUni.mng n)], [(55, sL6Run.mng n)], []⟩
theorem sLeastUniform.eq : ∀ (n : Nat) (a0 : Network) (a1 : Int) (a2 : Int), runF (sLeastUniform.cfg n) n Try.f17 (annOf Try.f17 sLeastUniform.las) [.val tNetwork, .val I, .val I] [.val I, .val .bool] (a0, (a1, (a2, ()))) = sLeastUniform.f n a0 a1 a2 := by
  intros
  kernel_rfl
theorem sLeastUniform.gof : GoF Try.prog 17 := ⟨_, Try.func17, by kernel_rfl, by kernel_rfl⟩
theorem sLeastUniform.sound (n : Nat) : Sound Try.prog 17 (sLeastUniform.mng n) := runF_sound (fn := Try.f17) (m := sLeastUniform.mng n) (c := sLeastUniform.cfg n) (regOK mixed (opOK (.of (c := sLeastUniform.cfg n) ⟨⟨sIsNetwork.sound n, sIsNetwork.gof⟩, ⟨⟨sL1In.sound n, sL1In.gof⟩, ⟨⟨sStartState.sound n, sStartState.gof⟩, ⟨⟨sUni.sound n, sUni.gof⟩, trivial⟩⟩⟩⟩) (.of (c := sLeastUniform.cfg n) ⟨⟨sL6Run.sound n, sL6Run.gof⟩, trivial⟩)) (tysOK tys14_ok)) (tysOK tys14_ok) Try.func17 (fun x => (sLeastUniform.eq n x.1 x.2.1 x.2.2.1).symm)

def iLeastUniform.las : List (Nat × LA) := [(1, ⟨[(21, .bool)], [], [1, 2, 3], []⟩), (6, ⟨[(8, .int .i64)], [], [1, 2, 3], []⟩)]
noncomputable def iLeastUniform.f (n : Nat) (a0 : Network) (a1 : Int) (a2 : Int) : Option (Int × (Bool × Unit)) := cut (α := (Bool × Unit)) ((iIsNetwork.f n a0).bind fun r3 => br (!r3.1) (some (.inr (true, ()))) (br (decide (a1 < 0)) (some (.inr (true, ()))) (some (.inr ((decide (50 < a1)), ()))))) fun y2 => br y2.1 (some (0, (false, ()))) (iter (α := (Int × Unit)) n (fun ih13 x12 => br (decide (x12.1 ≤ a1)) ((iStartState.f n a0).bind fun r14 => (iUni.f n a0 x12.1).bind fun r15 => (iRunBounded.f n a0 r14.1 r15.1 a2).bind fun r16 => br (decide (r16.2.1 = 1)) (some (x12.1, (true, ()))) (ih13 ((w64 (x12.1 + 1)), ()))) (some (0, (false, ())))) (0, ()))
noncomputable def iLeastUniform.mng (n : Nat) : Mng := ⟨[.val tNetwork, .val I, .val I], [.val I, .val .bool], fun x => iLeastUniform.f n x.1 x.2.1 x.2.2.1⟩
noncomputable def iLeastUniform.cfg (n : Nat) : Cfg := ⟨tys14, [(44, iIsNetwork.mng n), (46, iStartState.mng n), (57, iUni.mng n), (33, iRunBounded.mng n)], [], []⟩
theorem iLeastUniform.eq : ∀ (n : Nat) (a0 : Network) (a1 : Int) (a2 : Int), runF (iLeastUniform.cfg n) n Try.f18 (annOf Try.f18 iLeastUniform.las) [.val tNetwork, .val I, .val I] [.val I, .val .bool] (a0, (a1, (a2, ()))) = iLeastUniform.f n a0 a1 a2 := by
  intros
  kernel_rfl
theorem iLeastUniform.gof : GoF Try.prog 18 := ⟨_, Try.func18, by kernel_rfl, by kernel_rfl⟩
theorem iLeastUniform.sound (n : Nat) : Sound Try.prog 18 (iLeastUniform.mng n) := runF_sound (fn := Try.f18) (m := iLeastUniform.mng n) (c := iLeastUniform.cfg n) (regOK mixed (opOK (.of (c := iLeastUniform.cfg n) ⟨⟨iIsNetwork.sound n, iIsNetwork.gof⟩, ⟨⟨iStartState.sound n, iStartState.gof⟩, ⟨⟨iUni.sound n, iUni.gof⟩, ⟨⟨iRunBounded.sound n, iRunBounded.gof⟩, trivial⟩⟩⟩⟩) (.of (c := iLeastUniform.cfg n) trivial)) (tysOK tys14_ok)) (tysOK tys14_ok) Try.func18 (fun x => (iLeastUniform.eq n x.1 x.2.1 x.2.2.1).symm)

def law.las : List (Nat × LA) := [(9, ⟨[(42, .bool)], [], [3, 10], []⟩)]
noncomputable def law.f (n : Nat) (a0 : Network) (a1 : Int) (a2 : Int) : Option (Bool × Unit) := (szNetwork.f n a0 1048576).bind fun r1 => br (decide (r1.1 < 0)) (some (true, ())) ((toNetwork.f n a0).bind fun r2 => (sLeastUniform.f n r2.1 a1 a2).bind fun r3 => (toNetwork.f n a0).bind fun r4 => (iLeastUniform.f n r4.1 a1 a2).bind fun r5 => cut (α := (Bool × Unit)) (br (!decide (r5.1 = r3.1)) (some (.inr (true, ()))) (some (.inr ((!decide (r5.2.1 = r3.2.1)), ())))) fun y6 => br y6.1 (some (false, ())) ((toNetwork.f n a0).bind fun r7 => (eqNetwork.f n r4.1 r7.1).bind fun r8 => br (!r8.1) (some (false, ())) (some (true, ()))))
noncomputable def law.mng (n : Nat) : Mng := ⟨[.val tNetwork, .val I, .val I], [.val .bool], fun x => law.f n x.1 x.2.1 x.2.2.1⟩
noncomputable def law.cfg (n : Nat) : Cfg := ⟨tys14, [(8, szNetwork.mng n), (10, toNetwork.mng n), (17, sLeastUniform.mng n), (18, iLeastUniform.mng n), (13, eqNetwork.mng n)], [], []⟩
theorem law.eq : ∀ (n : Nat) (a0 : Network) (a1 : Int) (a2 : Int), runF (law.cfg n) n Try.f4 (annOf Try.f4 law.las) [.val tNetwork, .val I, .val I] [.val .bool] (a0, (a1, (a2, ()))) = law.f n a0 a1 a2 := by
  intros
  kernel_rfl
theorem law.gof : GoF Try.prog 4 := ⟨_, Try.func4, by kernel_rfl, by kernel_rfl⟩
theorem law.sound (n : Nat) : Sound Try.prog 4 (law.mng n) := runF_sound (fn := Try.f4) (m := law.mng n) (c := law.cfg n) (regOK mixed (opOK (.of (c := law.cfg n) ⟨⟨szNetwork.sound n, szNetwork.gof⟩, ⟨⟨toNetwork.sound n, toNetwork.gof⟩, ⟨⟨sLeastUniform.sound n, sLeastUniform.gof⟩, ⟨⟨iLeastUniform.sound n, iLeastUniform.gof⟩, ⟨⟨eqNetwork.sound n, eqNetwork.gof⟩, trivial⟩⟩⟩⟩⟩) (.of (c := law.cfg n) trivial)) (tysOK tys14_ok)) (tysOK tys14_ok) Try.func4 (fun x => (law.eq n x.1 x.2.1 x.2.2.1).symm)
end Go.AmT
