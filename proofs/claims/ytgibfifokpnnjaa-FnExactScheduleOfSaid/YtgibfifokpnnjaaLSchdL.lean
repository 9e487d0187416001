/- Functions that the law FnExactScheduleOf reaches, each as a plain Lean function, and that each does what that says. No condition. -/
import Derived.Test.YtgibfifokpnnjaaPSchd
namespace Go.AmT
open Go Go.Am Go.Proofs
set_option linter.unusedVariables false
set_option maxRecDepth 100000
def tys4 : List (Nat × TInfo) := [(3, ⟨false, 1, 8, [.int .i64 0], .int .i64, 0, some I, [], false⟩),
  (4, ⟨false, 1, 1, [.bool false], .bool, 0, some .bool, [], false⟩),
  (33, ⟨true, 2, 32, [.int .i64 0, .nil], .struct, 0, some tGraph, [(0, 3), (1, 31)], false⟩),
  (38, ⟨true, 2, 32, [.int .i64 0, .nil], .struct, 0, some tGraph, [(0, 3), (1, 36)], false⟩)]
theorem tys4_ok : (tys4.all fun p => tokB Try.prog p.1 p.2) = true := by kernel_rfl

def law.las : List (Nat × LA) := [(9, ⟨[(40, .bool)], [], [1, 4, 5, 6, 7, 8], []⟩), (17, ⟨[(61, .bool)], [], [1, 4, 5, 7], []⟩), (31, ⟨[(87, .bool)], [], [7, 10], []⟩)]
noncomputable def law.f (n : Nat) (a0 : Graph) : Option (Bool × Unit) := (szGraph.f n a0 1048576).bind fun r1 => br (decide (r1.1 < 0)) (some (true, ())) ((toGraph.f n a0).bind fun r2 => (sSchedule.f n r2.1).bind fun r3 => (toGraph.f n a0).bind fun r4 => (iSchedule.f n r4.1).bind fun r5 => cut (α := (Bool × Unit)) ((eqIntS.f n r5.1 r3.1).bind fun r8 => br (!r8.1) (some (.inr (true, ()))) (some (.inr ((!decide (r5.2.1 = r3.2.1)), ())))) fun y7 => br y7.1 (some (false, ())) ((toGraph.f n a0).bind fun r9 => (eqGraph.f n r4.1 r9.1).bind fun r10 => br (!r10.1) (some (false, ())) ((markGraph.f n r4.1 1).bind fun r11 => cut (α := (Bool × Unit)) (br (decide (r11.1 < 0)) (some (.inr (true, ()))) ((eqIntS.f n r5.1 r3.1).bind fun r14 => br (!r14.1) (some (.inr (true, ()))) (some (.inr ((!decide (r5.2.1 = r3.2.1)), ()))))) fun y13 => br y13.1 (some (false, ())) ((markIntS.f n r5.1 1).bind fun r15 => (heldIntS.f n r15.2.1 1).bind fun r16 => br (decide (r16.1 < 0)) (some (false, ())) (br (!decide (r16.1 = r15.1)) (some (false, ())) ((toGraph.f n a0).bind fun r17 => (iSchedule.f n r17.1).bind fun r18 => cut (α := (Bool × Unit)) ((eqIntS.f n r18.1 r3.1).bind fun r21 => br (!r21.1) (some (.inr (true, ()))) (some (.inr ((!decide (r18.2.1 = r3.2.1)), ())))) fun y20 => br y20.1 (some (false, ())) ((heldIntS.f n r15.2.1 1).bind fun r22 => br (decide (r22.1 < 0)) (some (false, ())) (br (!decide (r22.1 = r15.1)) (some (false, ())) (some (true, ()))))))))))
noncomputable def law.mng (n : Nat) : Mng := ⟨[.val tGraph], [.val .bool], fun x => law.f n x.1⟩
noncomputable def law.cfg (n : Nat) : Cfg := ⟨tys4, [(20, szGraph.mng n), (22, toGraph.mng n), (41, sSchedule.mng n), (40, iSchedule.mng n), (16, eqIntS.mng n), (24, eqGraph.mng n), (35, markGraph.mng n), (17, markIntS.mng n), (29, heldIntS.mng n)], [], []⟩
theorem law.eq : ∀ (n : Nat) (a0 : Graph), runF (law.cfg n) n Try.f11 (annOf Try.f11 law.las) [.val tGraph] [.val .bool] (a0, ()) = law.f n a0 := by
  intros
  kernel_rfl
theorem law.sound (n : Nat) : Sound Try.prog 11 (law.mng n) := runF_sound (fn := Try.f11) (m := law.mng n) (c := law.cfg n) (regOK mixed (opOK (.of (c := law.cfg n) ⟨⟨szGraph.sound n, szGraph.gof⟩, ⟨⟨toGraph.sound n, toGraph.gof⟩, ⟨⟨sSchedule.sound n, sSchedule.gof⟩, ⟨⟨iSchedule.sound n, iSchedule.gof⟩, ⟨⟨eqIntS.sound n, eqIntS.gof⟩, ⟨⟨eqGraph.sound n, eqGraph.gof⟩, ⟨⟨markGraph.sound n, markGraph.gof⟩, ⟨⟨markIntS.sound n, markIntS.gof⟩, ⟨⟨heldIntS.sound n, heldIntS.gof⟩, trivial⟩⟩⟩⟩⟩⟩⟩⟩⟩) (.of (c := law.cfg n) trivial)) (tysOK tys4_ok)) (tysOK tys4_ok) Try.func11 (fun x => (law.eq n x.1).symm)
end Go.AmT
