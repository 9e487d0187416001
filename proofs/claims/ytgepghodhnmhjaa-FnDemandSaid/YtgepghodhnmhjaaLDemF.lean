/- Functions that the law FnDemand reaches, each as a plain Lean function, and that each does what that says. No condition. -/
import Derived.Test.YtgepghodhnmhjaaPBel
namespace Go.AmT
open Go Go.Am Go.Proofs
set_option linter.unusedVariables false
set_option maxRecDepth 100000
def tys17 : List (Nat × TInfo) := [(3, ⟨false, 1, 8, [.int .i64 0], .int .i64, 0, some I, [], false⟩),
  (4, ⟨false, 1, 1, [.bool false], .bool, 0, some .bool, [], false⟩),
  (22, ⟨false, 1, 24, [.nil], .slice, 5, some (.sl U8), [], false⟩),
  (24, ⟨false, 1, 24, [.nil], .slice, 53, some (.sl tLink), [], false⟩),
  (26, ⟨true, 2, 48, [.nil, .nil], .struct, 0, some tNetwork, [(0, 23), (1, 24)], false⟩),
  (31, ⟨false, 1, 24, [.nil], .slice, 37, some (.sl IS), [], false⟩),
  (33, ⟨true, 4, 80, [.nil, .nil, .nil, .int .i64 0], .struct, 0, some tState, [(0, 30), (1, 31), (2, 31), (3, 3)], false⟩),
  (37, ⟨false, 1, 24, [.nil], .slice, 3, some IS, [], false⟩)]
theorem tys17_ok : (tys17.all fun p => tokB Try.prog p.1 p.2) = true := by kernel_rfl

def law.las : List (Nat × LA) := [(13, ⟨[(58, .bool)], [], [3, 4, 5, 6, 7], []⟩), (17, ⟨[(85, .bool)], [], [5, 6, 7, 12, 13], []⟩)]
noncomputable def law.f (n : Nat) (a0 : List Int) : Option (Bool × Unit) := br (decide (1048576 < (a0.length : Int))) (some (true, ())) ((makeNetwork.f n a0 6).bind fun r1 => br (decide ((r1.1.2.length : Int) = 0)) (some (true, ())) ((fresh.f n a0 3).bind fun r2 => (makeState.f n r2.1 r1.1 60).bind fun r3 => (lawAt.f n a0 1).bind fun r4 => if (r1.1.2.length : Int) = 0 then none else (lawAt.f n a0 2).bind fun r5 => (sLeast.f n r1.1).bind fun r6 => (sRunTurns.f n r1.1 r3.1 20000).bind fun r7 => cut (α := (Bool × Unit)) (br (!r6.2.2.1) (some (.inr (true, ()))) (br (!r7.2.1) (some (.inr (true, ()))) (some (.inr ((decide (20000 ≤ r7.1.2.2.2)), ()))))) fun y8 => br y8.1 (some (true, ())) ((iRunDemand.f n r1.1 r3.1 (r4.1.tmod (r1.1.2.length : Int)) (r5.1.tmod 12) 20000).bind fun r9 => cut (α := (Bool × Unit)) ((sIsState.f n r1.1 r9.1).bind fun r14 => br (!r14.1) (some (.inr (true, ()))) ((below.f n r9.1.2.2.1 r6.1).bind fun r15 => br (!r15.1) (some (.inr (true, ()))) ((below.f n r3.1.2.2.1 r9.1.2.2.1).bind fun r16 => some (.inr ((!r16.1), ()))))) fun y13 => br y13.1 (some (false, ())) (chk (0 ≤ (r4.1.tmod (r1.1.2.length : Int)) ∧ (r4.1.tmod (r1.1.2.length : Int)) < (r6.1.length : Int)) (br (decide (r9.2.1 = (decide ((r5.1.tmod 12) ≤ ((r6.1.getD (r4.1.tmod (r1.1.2.length : Int)).toNat []).length : Int))))) (chk (0 ≤ (r4.1.tmod (r1.1.2.length : Int)) ∧ (r4.1.tmod (r1.1.2.length : Int)) < (r9.1.2.2.1.length : Int)) (some ((decide (r9.2.1 = (decide ((r5.1.tmod 12) ≤ ((r9.1.2.2.1.getD (r4.1.tmod (r1.1.2.length : Int)).toNat []).length : Int))))), ()))) (some (false, ())))))))
noncomputable def law.mng (n : Nat) : Mng := ⟨[.val (.sl U8)], [.val .bool], fun x => law.f n x.1⟩
noncomputable def law.cfg (n : Nat) : Cfg := ⟨tys17, [(14, makeNetwork.mng n), (23, fresh.mng n), (22, makeState.mng n), (36, lawAt.mng n), (30, sLeast.mng n), (24, sRunTurns.mng n), (37, iRunDemand.mng n), (31, sIsState.mng n), (34, below.mng n)], [], []⟩
theorem law.eq : ∀ (n : Nat) (a0 : List Int), runF (law.cfg n) n Try.f7 (annOf Try.f7 law.las) [.val (.sl U8)] [.val .bool] (a0, ()) = law.f n a0 := by
  intros
  kernel_rfl
theorem law.sound (n : Nat) : Sound Try.prog 7 (law.mng n) := runF_sound (fn := Try.f7) (m := law.mng n) (c := law.cfg n) (regOK mixed (opOK (.of (c := law.cfg n) ⟨⟨makeNetwork.sound n, makeNetwork.gof⟩, ⟨⟨fresh.sound n, fresh.gof⟩, ⟨⟨makeState.sound n, makeState.gof⟩, ⟨⟨lawAt.sound n, lawAt.gof⟩, ⟨⟨sLeast.sound n, sLeast.gof⟩, ⟨⟨sRunTurns.sound n, sRunTurns.gof⟩, ⟨⟨iRunDemand.sound n, iRunDemand.gof⟩, ⟨⟨sIsState.sound n, sIsState.gof⟩, ⟨⟨below.sound n, below.gof⟩, trivial⟩⟩⟩⟩⟩⟩⟩⟩⟩) (.of (c := law.cfg n) trivial)) (tysOK tys17_ok)) (tysOK tys17_ok) Try.func7 (fun x => (law.eq n x.1).symm)
end Go.AmT
