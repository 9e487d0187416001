/- Functions that the law FnOneEnd reaches, each as a plain Lean function, and that each does what that says. No condition. -/
import Derived.Test.YtgepghodhnmhjaaPFmtS
namespace Go.AmT
open Go Go.Am Go.Proofs
set_option linter.unusedVariables false
set_option maxRecDepth 100000
def tys16 : List (Nat × TInfo) := [(3, ⟨false, 1, 8, [.int .i64 0], .int .i64, 0, some I, [], false⟩),
  (4, ⟨false, 1, 1, [.bool false], .bool, 0, some .bool, [], false⟩),
  (22, ⟨false, 1, 24, [.nil], .slice, 5, some (.sl U8), [], false⟩),
  (26, ⟨true, 2, 48, [.nil, .nil], .struct, 0, some tNetwork, [(0, 23), (1, 24)], false⟩),
  (33, ⟨true, 4, 80, [.nil, .nil, .nil, .int .i64 0], .struct, 0, some tState, [(0, 30), (1, 31), (2, 31), (3, 3)], false⟩)]
theorem tys16_ok : (tys16.all fun p => tokB Try.prog p.1 p.2) = true := by kernel_rfl

def law.las : List (Nat × LA) := [(14, ⟨[(72, .bool)], [], [3, 5, 6, 10, 11], []⟩)]
noncomputable def law.f (n : Nat) (a0 : List Int) : Option (Bool × Unit) := br (decide (1048576 < (a0.length : Int))) (some (true, ())) ((makeNetwork.f n a0 6).bind fun r1 => (sStartState.f n r1.1).bind fun r2 => (iRunTurns.f n r1.1 r2.1 4000).bind fun r3 => (iRunEager.f n r1.1 r2.1 4000).bind fun r4 => (fresh.f n a0 3).bind fun r5 => (makeState.f n r5.1 r1.1 300).bind fun r6 => (iRunTurns.f n r1.1 r6.1 4000).bind fun r7 => (sRunTurns.f n r1.1 r2.1 4000).bind fun r8 => br (!decide (r3.2.1 = r8.2.1)) (some (false, ())) (cut (α := (Bool × Unit)) (br r3.2.1 (br r4.2.1 (br (decide (r3.1.2.2.2 < 4000)) ((statesB.f n r1.1 r3.1 r4.1).bind fun r12 => some (.inr ((!r12.1), ()))) (br (decide (r4.1.2.2.2 < 4000)) ((statesB.f n r1.1 r3.1 r4.1).bind fun r13 => some (.inr ((!r13.1), ()))) (some (.inr (false, ()))))) (some (.inr (false, ())))) (some (.inr (false, ())))) fun y11 => br y11.1 (some (false, ())) (br (!r3.2.1) (some (true, ())) (br (!r7.2.1) (some (true, ())) ((statesB.f n r1.1 r3.1 r7.1).bind fun r14 => some (r14.1, ()))))))
noncomputable def law.mng (n : Nat) : Mng := ⟨[.val (.sl U8)], [.val .bool], fun x => law.f n x.1⟩
noncomputable def law.cfg (n : Nat) : Cfg := ⟨tys16, [(14, makeNetwork.mng n), (18, sStartState.mng n), (20, iRunTurns.mng n), (21, iRunEager.mng n), (23, fresh.mng n), (22, makeState.mng n), (24, sRunTurns.mng n), (25, statesB.mng n)], [], []⟩
theorem law.eq : ∀ (n : Nat) (a0 : List Int), runF (law.cfg n) n Try.f4 (annOf Try.f4 law.las) [.val (.sl U8)] [.val .bool] (a0, ()) = law.f n a0 := by
  intros
  kernel_rfl
theorem law.sound (n : Nat) : Sound Try.prog 4 (law.mng n) := runF_sound (fn := Try.f4) (m := law.mng n) (c := law.cfg n) (regOK mixed (opOK (.of (c := law.cfg n) ⟨⟨makeNetwork.sound n, makeNetwork.gof⟩, ⟨⟨sStartState.sound n, sStartState.gof⟩, ⟨⟨iRunTurns.sound n, iRunTurns.gof⟩, ⟨⟨iRunEager.sound n, iRunEager.gof⟩, ⟨⟨fresh.sound n, fresh.gof⟩, ⟨⟨makeState.sound n, makeState.gof⟩, ⟨⟨sRunTurns.sound n, sRunTurns.gof⟩, ⟨⟨statesB.sound n, statesB.gof⟩, trivial⟩⟩⟩⟩⟩⟩⟩⟩) (.of (c := law.cfg n) trivial)) (tysOK tys16_ok)) (tysOK tys16_ok) Try.func4 (fun x => (law.eq n x.1).symm)
end Go.AmT
