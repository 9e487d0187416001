/- Functions that the law FnScheduled reaches, each as a plain Lean function, and that each does what that says. No condition. -/
import Derived.Test.YtgepghodhnmhjaaPStepN
namespace Go.AmT
open Go Go.Am Go.Proofs
set_option linter.unusedVariables false
set_option maxRecDepth 100000
def tys16 : List (Nat × TInfo) := [(3, ⟨false, 1, 8, [.int .i64 0], .int .i64, 0, some I, [], false⟩),
  (22, ⟨false, 1, 24, [.nil], .slice, 5, some (.sl U8), [], false⟩),
  (26, ⟨true, 2, 48, [.nil, .nil], .struct, 0, some tNetwork, [(0, 23), (1, 24)], false⟩),
  (33, ⟨true, 4, 80, [.nil, .nil, .nil, .int .i64 0], .struct, 0, some tState, [(0, 30), (1, 31), (2, 31), (3, 3)], false⟩),
  (37, ⟨false, 1, 24, [.nil], .slice, 3, some IS, [], false⟩)]
theorem tys16_ok : (tys16.all fun p => tokB Try.prog p.1 p.2) = true := by kernel_rfl

def law.las : List (Nat × LA) := [(11, ⟨[(71, .bool)], [], [3, 4, 5, 7], []⟩), (17, ⟨[(13, .vptr 1000 0), (75, .int .i64)], [(1000, .cells [] [.own 1001 tActor, .own 1002 IS, .own 1003 IS, .int .i64]), (1001, .row true tActor), (1002, .row true IS), (1003, .row true IS)], [3, 7, 73, 74], []⟩)]
noncomputable def law.f (n : Nat) (a0 : List Int) : Option (Bool × Unit) := br (decide (1048576 < (a0.length : Int))) (some (true, ())) ((makeNetwork.f n a0 5).bind fun r1 => (fresh.f n a0 3).bind fun r2 => (makeState.f n r2.1 r1.1 50).bind fun r3 => (fresh.f n a0 5).bind fun r4 => (makeSchedule.f n r4.1 r1.1 40).bind fun r5 => (fresh.f n a0 7).bind fun r6 => (makeSchedule.f n r6.1 r1.1 40).bind fun r7 => (iRunSchedule.f n r1.1 r3.1 r5.1).bind fun r8 => (iRunSchedule.f n r1.1 r8.1 r7.1).bind fun r9 => chk ((([] : List Int).length + r5.1.length) * 8 ≤ maxB) (chk (((([] : List Int) ++ r5.1).length + r7.1.length) * 8 ≤ maxB) ((iRunSchedule.f n r1.1 r3.1 ((([] : List Int) ++ r5.1) ++ r7.1)).bind fun r10 => cut (α := (Bool × Unit)) (br (!decide (r10.2.1 = (w64 (r8.2.1 + r9.2.1)))) (some (.inr (true, ()))) ((statesB.f n r1.1 r9.1 r10.1).bind fun r13 => some (.inr ((!r13.1), ())))) fun y12 => br y12.1 (some (false, ())) (iter (α := (Int × (Int × (List Actor) × (List (List Int)) × (List (List Int)) × Unit))) n (fun ih33 x32 => br (decide (x32.1 < (r5.1.length : Int))) (chk (0 ≤ x32.1 ∧ x32.1 < (r5.1.length : Int)) (let v34 := (r5.1.getD x32.1.toNat 0); (iStepN.f n r1.1 (x32.2.2.1, (x32.2.2.2.1, (x32.2.2.2.2.1, x32.2.1))) v34).bind fun r35 => br r35.2.1 (ih33 ((w64 (x32.1 + 1)), (r35.1.2.2.2, (r35.1.1, (r35.1.2.1, (r35.1.2.2.1, ())))))) (ih33 ((w64 (x32.1 + 1)), (x32.2.1, (x32.2.2.1, (x32.2.2.2.1, (x32.2.2.2.2.1, ())))))))) ((statesB.f n r1.1 (x32.2.2.1, (x32.2.2.2.1, (x32.2.2.2.2.1, x32.2.1))) r8.1).bind fun r36 => some (r36.1, ()))) (0, (r3.1.2.2.2, (r3.1.1, (r3.1.2.1, (r3.1.2.2.1, ())))))))))
noncomputable def law.mng (n : Nat) : Mng := ⟨[.val (.sl U8)], [.val .bool], fun x => law.f n x.1⟩
noncomputable def law.cfg (n : Nat) : Cfg := ⟨tys16, [(14, makeNetwork.mng n), (23, fresh.mng n), (22, makeState.mng n), (26, makeSchedule.mng n), (27, iRunSchedule.mng n), (25, statesB.mng n), (28, iStepN.mng n)], [], []⟩
theorem law.eq : ∀ (n : Nat) (a0 : List Int), runF (law.cfg n) n Try.f5 (annOf Try.f5 law.las) [.val (.sl U8)] [.val .bool] (a0, ()) = law.f n a0 := by
  intros
  kernel_rfl
theorem law.sound (n : Nat) : Sound Try.prog 5 (law.mng n) := runF_sound (fn := Try.f5) (m := law.mng n) (c := law.cfg n) (regOK mixed (opOK (.of (c := law.cfg n) ⟨⟨makeNetwork.sound n, makeNetwork.gof⟩, ⟨⟨fresh.sound n, fresh.gof⟩, ⟨⟨makeState.sound n, makeState.gof⟩, ⟨⟨makeSchedule.sound n, makeSchedule.gof⟩, ⟨⟨iRunSchedule.sound n, iRunSchedule.gof⟩, ⟨⟨statesB.sound n, statesB.gof⟩, ⟨⟨iStepN.sound n, iStepN.gof⟩, trivial⟩⟩⟩⟩⟩⟩⟩) (.of (c := law.cfg n) trivial)) (tysOK tys16_ok)) (tysOK tys16_ok) Try.func5 (fun x => (law.eq n x.1).symm)
end Go.AmT
