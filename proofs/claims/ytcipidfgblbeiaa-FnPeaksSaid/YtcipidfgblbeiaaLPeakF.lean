/- Functions that the law FnPeaks reaches, each as a plain Lean function, and that each does what that says. No condition. -/
import Derived.Test.YtcipidfgblbeiaaPFmtS
namespace Go.AmT
open Go Go.Am Go.Proofs
set_option linter.unusedVariables false
set_option maxRecDepth 100000
def tys18 : List (Nat × TInfo) := [(3, ⟨false, 1, 8, [.int .i64 0], .int .i64, 0, some I, [], false⟩),
  (4, ⟨false, 1, 1, [.bool false], .bool, 0, some .bool, [], false⟩),
  (27, ⟨false, 1, 24, [.nil], .slice, 3, some IS, [], false⟩),
  (31, ⟨false, 1, 24, [.nil], .slice, 62, some (.sl tLink), [], false⟩),
  (33, ⟨true, 2, 48, [.nil, .nil], .struct, 0, some tNetwork, [(0, 30), (1, 31)], false⟩),
  (43, ⟨false, 1, 24, [.nil], .slice, 5, some (.sl U8), [], false⟩),
  (46, ⟨false, 1, 24, [.nil], .slice, 27, some (.sl IS), [], false⟩),
  (48, ⟨true, 4, 80, [.nil, .nil, .nil, .int .i64 0], .struct, 0, some tState, [(0, 45), (1, 46), (2, 46), (3, 3)], false⟩)]
theorem tys18_ok : (tys18.all fun p => tokB Try.prog p.1 p.2) = true := by kernel_rfl

def law.las : List (Nat × LA) := [(8, ⟨[(57, .bool)], [], [3, 4, 5, 6, 7], []⟩), (14, ⟨[(70, .int .i64)], [], [3, 5, 6, 7, 9, 10, 68, 69], []⟩)]
noncomputable def law.f (n : Nat) (a0 : List Int) : Option (Bool × Unit) := br (decide (1048576 < (a0.length : Int))) (some (true, ())) ((makeNetwork.f n a0 6).bind fun r1 => (lawAt.f n a0 1).bind fun r2 => (iPeaks.f n r1.1 (w64 (r2.1 * 8))).bind fun r3 => (sStartState.f n r1.1).bind fun r4 => (iRunTurns.f n r1.1 r4.1 (w64 (r2.1 * 8))).bind fun r5 => cut (α := (Bool × Unit)) ((sIsState.f n r1.1 r5.1).bind fun r9 => br (!r9.1) (some (.inr (true, ()))) (br (!decide (r3.2.1 = r5.2.1)) (some (.inr (true, ()))) (br (!decide ((r3.1.length : Int) = (r1.1.2.length : Int))) (some (.inr (true, ()))) ((iAre.f n r1.1 r3.1).bind fun r10 => some (.inr ((!r10.1), ())))))) fun y8 => br y8.1 (some (false, ())) ((sStartState.f n r1.1).bind fun r11 => (iRunBounded.f n r1.1 r11.1 r3.1 (w64 (r2.1 * 8))).bind fun r12 => iter (α := (Int × Unit)) n (fun ih31 x30 => br (decide (x30.1 < (r5.1.2.1.length : Int))) (chk (0 ≤ x30.1 ∧ x30.1 < (r5.1.2.1.length : Int)) (chk (0 ≤ x30.1 ∧ x30.1 < (r3.1.length : Int)) (br (decide ((r3.1.getD x30.1.toNat 0) < ((r5.1.2.1.getD x30.1.toNat []).length : Int))) (some (false, ())) (ih31 ((w64 (x30.1 + 1)), ()))))) ((statesB.f n r1.1 r5.1 r12.1).bind fun r32 => br r32.1 (some ((decide ((decide (r12.2.1 = 1)) = r3.2.1)), ())) (some (false, ())))) (0, ())))
noncomputable def law.mng (n : Nat) : Mng := ⟨[.val (.sl U8)], [.val .bool], fun x => law.f n x.1⟩
noncomputable def law.cfg (n : Nat) : Cfg := ⟨tys18, [(19, makeNetwork.mng n), (28, lawAt.mng n), (11, iPeaks.mng n), (30, sStartState.mng n), (29, iRunTurns.mng n), (31, sIsState.mng n), (32, iAre.mng n), (33, iRunBounded.mng n), (34, statesB.mng n)], [], []⟩
theorem law.eq : ∀ (n : Nat) (a0 : List Int), runF (law.cfg n) n Try.f6 (annOf Try.f6 law.las) [.val (.sl U8)] [.val .bool] (a0, ()) = law.f n a0 := by
  intros
  kernel_rfl
theorem law.sound (n : Nat) : Sound Try.prog 6 (law.mng n) := runF_sound (fn := Try.f6) (m := law.mng n) (c := law.cfg n) (regOK mixed (opOK (.of (c := law.cfg n) ⟨⟨makeNetwork.sound n, makeNetwork.gof⟩, ⟨⟨lawAt.sound n, lawAt.gof⟩, ⟨⟨iPeaks.sound n, iPeaks.gof⟩, ⟨⟨sStartState.sound n, sStartState.gof⟩, ⟨⟨iRunTurns.sound n, iRunTurns.gof⟩, ⟨⟨sIsState.sound n, sIsState.gof⟩, ⟨⟨iAre.sound n, iAre.gof⟩, ⟨⟨iRunBounded.sound n, iRunBounded.gof⟩, ⟨⟨statesB.sound n, statesB.gof⟩, trivial⟩⟩⟩⟩⟩⟩⟩⟩⟩) (.of (c := law.cfg n) trivial)) (tysOK tys18_ok)) (tysOK tys18_ok) Try.func6 (fun x => (law.eq n x.1).symm)
end Go.AmT
