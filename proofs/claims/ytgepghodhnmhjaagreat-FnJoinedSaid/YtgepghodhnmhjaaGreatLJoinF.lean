/- Functions that the law FnJoined reaches, each as a plain Lean function, and that each does what that says. No condition. -/
import Derived.Test.YtgepghodhnmhjaaGreatPJoin
namespace Go.AmT
open Go Go.Am Go.Proofs
set_option linter.unusedVariables false
set_option maxRecDepth 100000
def tys13 : List (Nat × TInfo) := [(3, ⟨false, 1, 8, [.int .i64 0], .int .i64, 0, some I, [], false⟩),
  (4, ⟨false, 1, 1, [.bool false], .bool, 0, some .bool, [], false⟩),
  (22, ⟨false, 1, 24, [.nil], .slice, 5, some (.sl U8), [], false⟩),
  (23, ⟨false, 1, 24, [.nil], .slice, 47, some (.sl tProgram), [], false⟩),
  (26, ⟨true, 2, 48, [.nil, .nil], .struct, 0, some tNetwork, [(0, 23), (1, 24)], false⟩),
  (31, ⟨false, 1, 24, [.nil], .slice, 36, some (.sl IS), [], false⟩),
  (36, ⟨false, 1, 24, [.nil], .slice, 3, some IS, [], false⟩)]
theorem tys13_ok : (tys13.all fun p => tokB Tryz.prog p.1 p.2) = true := by kernel_rfl

def law.las : List (Nat × LA) := [(13, ⟨[(67, .bool)], [], [0, 5, 9, 12], []⟩), (17, ⟨[(85, .bool)], [], [0, 5, 15], []⟩)]
noncomputable def law.f (n : Nat) (a0 : List Int) : Option (Bool × Unit) := br (decide (1048576 < (a0.length : Int))) (some (true, ())) ((makeNetwork.f n a0 4).bind fun r1 => (fresh.f n a0 3).bind fun r2 => (makeNetwork.f n r2.1 4).bind fun r3 => (iJoin.f n r1.1 r3.1).bind fun r4 => (sJoinNetworks.f n r1.1 r3.1).bind fun r5 => (sLeast.f n r1.1).bind fun r6 => (sLeast.f n r3.1).bind fun r7 => br (!decide (r4.2.1 = r5.2.1)) (some (false, ())) (cut (α := (Bool × Unit)) (br (!r4.2.1) (some (.inr (true, ()))) (br (!r6.2.2.1) (some (.inr (true, ()))) (some (.inr ((!r7.2.2.1), ()))))) fun y8 => br y8.1 (some (true, ())) ((iLeast.f n r4.1).bind fun r9 => cut (α := (Bool × Unit)) (br (!r9.2.2.1) (some (.inr (true, ()))) (chk ((([] : List (List Int)).length + r6.1.length) * 24 ≤ maxB) (chk (((([] : List (List Int)) ++ r6.1).length + r7.1.length) * 24 ≤ maxB) ((makeEqual.f n r9.1 ((([] : List (List Int)) ++ r6.1) ++ r7.1)).bind fun r12 => some (.inr ((!r12.1), ())))))) fun y11 => br y11.1 (some (false, ())) ((fresh.f n a0 5).bind fun r13 => (makeOrder.f n r13.1 (r4.1.1.length : Int)).bind fun r14 => (iPermute.f n r4.1 r14.1).bind fun r15 => (iLeast.f n r15.1).bind fun r16 => br r15.2.1 (br r16.2.2.1 ((makeEqual.f n r16.1 r9.1).bind fun r17 => br r17.1 ((iHasCycle.f n r15.1).bind fun r18 => (iHasCycle.f n r4.1).bind fun r19 => some ((decide (r18.1 = r19.1)), ())) (some (false, ()))) (some (false, ()))) (some (false, ()))))))
noncomputable def law.mng (n : Nat) : Mng := ⟨[.val (.sl U8)], [.val .bool], fun x => law.f n x.1⟩
noncomputable def law.cfg (n : Nat) : Cfg := ⟨tys13, [(4, makeNetwork.mng n), (5, fresh.mng n), (6, iJoin.mng n), (7, sJoinNetworks.mng n), (8, sLeast.mng n), (9, iLeast.mng n), (10, makeEqual.mng n), (12, makeOrder.mng n), (11, iPermute.mng n), (13, iHasCycle.mng n)], [], []⟩
theorem law.eq : ∀ (n : Nat) (a0 : List Int), runF (law.cfg n) n Tryz.f3 (annOf Tryz.f3 law.las) [.val (.sl U8)] [.val .bool] (a0, ()) = law.f n a0 := by
  intros
  kernel_rfl
theorem law.sound (n : Nat) : Sound Tryz.prog 3 (law.mng n) := runF_sound (fn := Tryz.f3) (m := law.mng n) (c := law.cfg n) (regOK mixed (opOK (.of (c := law.cfg n) ⟨⟨makeNetwork.sound n, makeNetwork.gof⟩, ⟨⟨fresh.sound n, fresh.gof⟩, ⟨⟨iJoin.sound n, iJoin.gof⟩, ⟨⟨sJoinNetworks.sound n, sJoinNetworks.gof⟩, ⟨⟨sLeast.sound n, sLeast.gof⟩, ⟨⟨iLeast.sound n, iLeast.gof⟩, ⟨⟨makeEqual.sound n, makeEqual.gof⟩, ⟨⟨makeOrder.sound n, makeOrder.gof⟩, ⟨⟨iPermute.sound n, iPermute.gof⟩, ⟨⟨iHasCycle.sound n, iHasCycle.gof⟩, trivial⟩⟩⟩⟩⟩⟩⟩⟩⟩⟩) (.of (c := law.cfg n) trivial)) (tysOK tys13_ok)) (tysOK tys13_ok) Tryz.func3 (fun x => (law.eq n x.1).symm)
end Go.AmT
