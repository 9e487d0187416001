/- Functions that the law FnRepeated reaches, each as a plain Lean function, and that each does what that says. No condition. -/
import Derived.Test.YtgibfifokpnnjaaPRepI2
import Derived.Test.YtgibfifokpnnjaaPFirR
namespace Go.AmT
open Go Go.Am Go.Proofs
set_option linter.unusedVariables false
set_option maxRecDepth 100000
def tys3 : List (Nat × TInfo) := [(3, ⟨false, 1, 8, [.int .i64 0], .int .i64, 0, some I, [], false⟩),
  (22, ⟨false, 1, 24, [.nil], .slice, 3, some IS, [], false⟩),
  (38, ⟨true, 2, 32, [.int .i64 0, .nil], .struct, 0, some tGraph, [(0, 3), (1, 36)], false⟩)]
theorem tys3_ok : (tys3.all fun p => tokB Try.prog p.1 p.2) = true := by kernel_rfl

def schedC.las : List (Nat × LA) := []
noncomputable def schedC.f (n : Nat) (a0 : Int) : Option (Bool × Unit) := some ((decide (0 < a0)), ())
noncomputable def schedC.mng (n : Nat) : Mng := ⟨[.val I], [.val .bool], fun x => schedC.f n x.1⟩
noncomputable def schedC.cfg (n : Nat) : Cfg := ⟨tys3, [], [], []⟩
theorem schedC.eq : ∀ (n : Nat) (a0 : Int), runF (schedC.cfg n) n Try.f64 (annOf Try.f64 schedC.las) [.val I] [.val .bool] (a0, ()) = schedC.f n a0 := by
  intros
  kernel_rfl
theorem schedC.gof : GoF Try.prog 64 := ⟨_, Try.func64, by kernel_rfl, by kernel_rfl⟩
theorem schedC.sound (n : Nat) : Sound Try.prog 64 (schedC.mng n) := runF_sound (fn := Try.f64) (m := schedC.mng n) (c := schedC.cfg n) (regOK mixed (opOK (.of (c := schedC.cfg n) trivial) (.of (c := schedC.cfg n) trivial)) (tysOK tys3_ok)) (tysOK tys3_ok) Try.func64 (fun x => (schedC.eq n x.1).symm)

def indexFuncI.las : List (Nat × LA) := [(3, ⟨[(8, .int .i64)], [], [0, 1, 7], []⟩)]
noncomputable def indexFuncI.f (n : Nat) (a0 : List Int) (a1 : (Unit)) : Option (Int × Unit) := iter (α := (Int × Unit)) n (fun ih6 x5 => br (decide (x5.1 < (a0.length : Int))) (chk (0 ≤ x5.1 ∧ x5.1 < (a0.length : Int)) ((schedC.f n (a0.getD x5.1.toNat 0)).bind fun r7 => br r7.1 (some (x5.1, ())) (ih6 ((w64 (x5.1 + 1)), ())))) (some ((-1), ()))) (0, ())
noncomputable def indexFuncI.mng (n : Nat) : Mng := ⟨[.val IS, .fnc 64 []], [.val I], fun x => indexFuncI.f n x.1 x.2.1⟩
noncomputable def indexFuncI.cfg (n : Nat) : Cfg := ⟨tys3, [(64, schedC.mng n)], [], []⟩
theorem indexFuncI.eq : ∀ (n : Nat) (a0 : List Int) (a1 : (Unit)), runF (indexFuncI.cfg n) n Try.f72 (annOf Try.f72 indexFuncI.las) [.val IS, .fnc 64 []] [.val I] (a0, (a1, ())) = indexFuncI.f n a0 a1 := by
  intros
  kernel_rfl
theorem indexFuncI.gof : GoF Try.prog 72 := ⟨_, Try.func72, by kernel_rfl, by kernel_rfl⟩
theorem indexFuncI.sound (n : Nat) : Sound Try.prog 72 (indexFuncI.mng n) := runF_sound (fn := Try.f72) (m := indexFuncI.mng n) (c := indexFuncI.cfg n) (regOK mixed (opOK (.of (c := indexFuncI.cfg n) ⟨⟨schedC.sound n, schedC.gof⟩, trivial⟩) (.of (c := indexFuncI.cfg n) trivial)) (tysOK tys3_ok)) (tysOK tys3_ok) Try.func72 (fun x => (indexFuncI.eq n x.1 x.2.1).symm)

def containsFuncI.las : List (Nat × LA) := []
noncomputable def containsFuncI.f (n : Nat) (a0 : List Int) (a1 : (Unit)) : Option (Bool × Unit) := (indexFuncI.f n a0 ()).bind fun r1 => some ((decide (0 ≤ r1.1)), ())
noncomputable def containsFuncI.mng (n : Nat) : Mng := ⟨[.val IS, .fnc 64 []], [.val .bool], fun x => containsFuncI.f n x.1 x.2.1⟩
noncomputable def containsFuncI.cfg (n : Nat) : Cfg := ⟨tys3, [(72, indexFuncI.mng n)], [], []⟩
theorem containsFuncI.eq : ∀ (n : Nat) (a0 : List Int) (a1 : (Unit)), runF (containsFuncI.cfg n) n Try.f53 (annOf Try.f53 containsFuncI.las) [.val IS, .fnc 64 []] [.val .bool] (a0, (a1, ())) = containsFuncI.f n a0 a1 := by
  intros
  kernel_rfl
theorem containsFuncI.gof : GoF Try.prog 53 := ⟨_, Try.func53, by kernel_rfl, by kernel_rfl⟩
theorem containsFuncI.sound (n : Nat) : Sound Try.prog 53 (containsFuncI.mng n) := runF_sound (fn := Try.f53) (m := containsFuncI.mng n) (c := containsFuncI.cfg n) (regOK mixed (opOK (.of (c := containsFuncI.cfg n) ⟨⟨indexFuncI.sound n, indexFuncI.gof⟩, trivial⟩) (.of (c := containsFuncI.cfg n) trivial)) (tysOK tys3_ok)) (tysOK tys3_ok) Try.func53 (fun x => (containsFuncI.eq n x.1 x.2.1).symm)

def sSchedule.las : List (Nat × LA) := [(8, ⟨[(6, .int .i64), (24, .int .i64)], [], [1, 4, 22, 23], []⟩), (18, ⟨[(4, .own 1000 I), (6, .int .i64), (9, .own 1001 I), (10, .own 1002 I)], [(1000, .row true I), (1001, .row true I), (1002, .row true I)], [1], []⟩), (25, ⟨[(4, .own 1000 I), (9, .own 1001 I), (10, .own 1002 I), (11, .bool), (12, .int .i64)], [(1000, .row true I), (1001, .row true I), (1002, .row true I)], [1, 6], []⟩), (26, ⟨[(46, .bool)], [], [1, 4, 6, 9, 10, 11, 12], []⟩), (30, ⟨[(63, .bool)], [], [1, 4, 6, 9, 10, 11, 12, 13], []⟩)]
noncomputable def sSchedule.f (n : Nat) (a0 : Graph) : Option ((List Int) × (Bool × Unit)) := (sRep.f n a0).bind fun r1 => br (!r1.2.1) (some ([], (false, ()))) (iter (α := (Int × (Int × Unit))) n (fun ih11 x10 => br (decide (x10.2.1 < (r1.1.length : Int))) (chk (0 ≤ x10.2.1 ∧ x10.2.1 < (r1.1.length : Int)) (ih11 ((w64 (x10.1 + (r1.1.getD x10.2.1.toNat 0))), ((w64 (x10.2.1 + 1)), ())))) ((l7Tokens.f n a0).bind fun r12 => iter (α := (Int × (List Int) × (List Int) × (List Int) × Unit)) n (fun ih44 x43 => br (decide (0 < x43.1)) (iter (α := (Bool × (Int × (List Int) × (List Int) × (List Int) × Unit))) n (fun ih64 x63 => cut (α := (Bool × Unit)) (br (decide (x63.2.1 < a0.1)) (some (.inr ((!x63.1), ()))) (some (.inr (false, ())))) fun y65 => br y65.1 ((l7Fire.f n a0 x63.2.2.2.1 x63.2.1).bind fun r66 => cut (α := (Bool × Unit)) (br r66.2.1 (chk (0 ≤ x63.2.1 ∧ x63.2.1 < (x63.2.2.1.length : Int)) (some (.inr ((decide (0 < (x63.2.2.1.getD x63.2.1.toNat 0))), ())))) (some (.inr (false, ())))) fun y67 => br y67.1 (chk (0 ≤ x63.2.1 ∧ x63.2.1 < (x63.2.2.1.length : Int)) (chk (0 ≤ x63.2.1 ∧ x63.2.1 < (x63.2.2.1.length : Int)) (let v68 := (x63.2.2.1.set x63.2.1.toNat (w64 ((x63.2.2.1.getD x63.2.1.toNat 0) - 1))); chk ((x63.2.2.2.2.1.length + ([x63.2.1] : List Int).length) * 8 ≤ maxB) (ih64 (true, ((w64 (x63.2.1 + 1)), (v68, (r66.1, ((x63.2.2.2.2.1 ++ [x63.2.1]), ()))))))))) (ih64 (x63.1, ((w64 (x63.2.1 + 1)), (x63.2.2.1, (x63.2.2.2.1, (x63.2.2.2.2.1, ()))))))) (br (!x63.1) (some ([], (false, ()))) (ih44 ((w64 (x43.1 - 1)), (x63.2.2.1, (x63.2.2.2.1, (x63.2.2.2.2.1, ()))))))) (false, (0, (x43.2.1, (x43.2.2.1, (x43.2.2.2.1, ())))))) (some (x43.2.2.2.1, (true, ())))) (x10.1, (r1.1, (r12.1, ([], ())))))) (0, (0, ())))
noncomputable def sSchedule.mng (n : Nat) : Mng := ⟨[.val tGraph], [.val IS, .val .bool], fun x => sSchedule.f n x.1⟩
noncomputable def sSchedule.cfg (n : Nat) : Cfg := ⟨tys3, [(38, sRep.mng n), (59, l7Tokens.mng n), (57, l7Fire.mng n)], [], []⟩
theorem sSchedule.eq : ∀ (n : Nat) (a0 : Graph), runF (sSchedule.cfg n) n Try.f41 (annOf Try.f41 sSchedule.las) [.val tGraph] [.val IS, .val .bool] (a0, ()) = sSchedule.f n a0 := by
  intros
  kernel_rfl
theorem sSchedule.gof : GoF Try.prog 41 := ⟨_, Try.func41, by kernel_rfl, by kernel_rfl⟩
theorem sSchedule.sound (n : Nat) : Sound Try.prog 41 (sSchedule.mng n) := runF_sound (fn := Try.f41) (m := sSchedule.mng n) (c := sSchedule.cfg n) (regOK mixed (opOK (.of (c := sSchedule.cfg n) ⟨⟨sRep.sound n, sRep.gof⟩, ⟨⟨l7Tokens.sound n, l7Tokens.gof⟩, ⟨⟨l7Fire.sound n, l7Fire.gof⟩, trivial⟩⟩⟩) (.of (c := sSchedule.cfg n) trivial)) (tysOK tys3_ok)) (tysOK tys3_ok) Try.func41 (fun x => (sSchedule.eq n x.1).symm)

def iSchedule.las : List (Nat × LA) := [(7, ⟨[(4, .own 1000 I), (6, .own 1001 I), (7, .own 1002 I)], [(1000, .row true I), (1001, .row true I), (1002, .row true I)], [1], []⟩), (10, ⟨[(6, .own 1000 I), (8, .int .i64)], [(1000, .row true I)], [1, 4, 7], []⟩), (11, ⟨[(6, .own 1000 I), (8, .int .i64)], [(1000, .row true I)], [1, 4, 7], []⟩)]
noncomputable def iSchedule.f (n : Nat) (a0 : Graph) : Option ((List Int) × (Bool × Unit)) := (iRep.f n a0).bind fun r1 => br (!r1.2.1) (some ([], (false, ()))) ((first.f n a0).bind fun r2 => iter (α := ((List Int) × (List Int) × (List Int) × Unit)) n (fun ih41 x40 => cut (α := (Int × (List Int) × Unit)) (iter (α := (Int × (List Int) × Unit)) n (fun ih44 x43 => br (decide (x43.1 < a0.1)) (chk (0 ≤ x43.1 ∧ x43.1 < (x40.1.length : Int)) (br (decide ((x40.1.getD x43.1.toNat 0) = 0)) (ih44 ((w64 (x43.1 + 1)), (x43.2.1, ()))) ((fire.f n a0 x43.2.1 x43.1).bind fun r45 => br (!r45.1) (ih44 ((w64 (x43.1 + 1)), (r45.2.1, ()))) (some (.inr (x43.1, (r45.2.1, ()))))))) (some (.inr (x43.1, (x43.2.1, ()))))) (0, (x40.2.1, ()))) fun y42 => br (decide (y42.1 = a0.1)) ((containsFuncI.f n x40.1 ()).bind fun r46 => br r46.1 (some ([], (false, ()))) (some (x40.2.2.1, (true, ())))) (chk (0 ≤ y42.1 ∧ y42.1 < (x40.1.length : Int)) (chk (0 ≤ y42.1 ∧ y42.1 < (x40.1.length : Int)) (let v47 := (x40.1.set y42.1.toNat (w64 ((x40.1.getD y42.1.toNat 0) - 1))); chk ((x40.2.2.1.length + ([y42.1] : List Int).length) * 8 ≤ maxB) (ih41 (v47, (y42.2.1, ((x40.2.2.1 ++ [y42.1]), ())))))))) (r1.1, (r2.1, ([], ()))))
noncomputable def iSchedule.mng (n : Nat) : Mng := ⟨[.val tGraph], [.val IS, .val .bool], fun x => iSchedule.f n x.1⟩
noncomputable def iSchedule.cfg (n : Nat) : Cfg := ⟨tys3, [(39, iRep.mng n), (60, first.mng n), (56, fire.mng n), (53, containsFuncI.mng n)], [], []⟩
theorem iSchedule.eq : ∀ (n : Nat) (a0 : Graph), runF (iSchedule.cfg n) n Try.f40 (annOf Try.f40 iSchedule.las) [.val tGraph] [.val IS, .val .bool] (a0, ()) = iSchedule.f n a0 := by
  intros
  kernel_rfl
theorem iSchedule.gof : GoF Try.prog 40 := ⟨_, Try.func40, by kernel_rfl, by kernel_rfl⟩
theorem iSchedule.sound (n : Nat) : Sound Try.prog 40 (iSchedule.mng n) := runF_sound (fn := Try.f40) (m := iSchedule.mng n) (c := iSchedule.cfg n) (regOK mixed (opOK (.of (c := iSchedule.cfg n) ⟨⟨iRep.sound n, iRep.gof⟩, ⟨⟨first.sound n, first.gof⟩, ⟨⟨fire.sound n, fire.gof⟩, ⟨⟨containsFuncI.sound n, containsFuncI.gof⟩, trivial⟩⟩⟩⟩) (.of (c := iSchedule.cfg n) trivial)) (tysOK tys3_ok)) (tysOK tys3_ok) Try.func40 (fun x => (iSchedule.eq n x.1).symm)
end Go.AmT
