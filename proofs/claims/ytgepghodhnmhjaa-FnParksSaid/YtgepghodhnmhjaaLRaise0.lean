/- Functions that the law FnParks reaches, each as a plain Lean function, and that each does what that says. No condition. -/
import Derived.Test.YtgepghodhnmhjaaPCpS
import Derived.Test.YtgepghodhnmhjaaPStart
namespace Go.AmT
open Go Go.Am Go.Proofs
set_option linter.unusedVariables false
set_option maxRecDepth 100000
def tys11 : List (Nat × TInfo) := [(3, ⟨false, 1, 8, [.int .i64 0], .int .i64, 0, some I, [], false⟩),
  (23, ⟨false, 1, 24, [.nil], .slice, 71, some (.sl tProgram), [], false⟩),
  (24, ⟨false, 1, 24, [.nil], .slice, 53, some (.sl tLink), [], false⟩),
  (26, ⟨true, 2, 48, [.nil, .nil], .struct, 0, some tNetwork, [(0, 23), (1, 24)], false⟩),
  (33, ⟨true, 4, 80, [.nil, .nil, .nil, .int .i64 0], .struct, 0, some tState, [(0, 30), (1, 31), (2, 31), (3, 3)], false⟩),
  (37, ⟨false, 1, 24, [.nil], .slice, 3, some IS, [], false⟩),
  (85, ⟨true, 9, 200, [.nil, .nil, .nil, .nil, .nil, .int .i64 0, .nil, .nil, .nil], .struct, 0, some tRun, [(0, 26), (2, 33), (6, 31), (7, 31), (8, 37)], false⟩)]
theorem tys11_ok : (tys11.all fun p => tokB Try.prog p.1 p.2) = true := by kernel_rfl

def stuck.las : List (Nat × LA) := [(3, ⟨[(10, .int .i64)], [], [0, 9], []⟩)]
noncomputable def stuck.f (n : Nat) (a0 : Run) : Option (Bool × Unit) := iter (α := (Int × Unit)) n (fun ih6 x5 => br (decide (x5.1 < (a0.1.1.length : Int))) ((may.f n a0 x5.1).bind fun r7 => br r7.1 (some (false, ())) (ih6 ((w64 (x5.1 + 1)), ()))) (some (true, ()))) (0, ())
noncomputable def stuck.mng (n : Nat) : Mng := ⟨[.psh tRun], [.val .bool], fun x => stuck.f n x.1⟩
noncomputable def stuck.cfg (n : Nat) : Cfg := ⟨tys11, [(93, may.mng n)], [], []⟩
theorem stuck.eq : ∀ (n : Nat) (a0 : Run), runF (stuck.cfg n) n Try.f88 (annOf Try.f88 stuck.las) [.psh tRun] [.val .bool] (a0, ()) = stuck.f n a0 := by
  intros
  kernel_rfl
theorem stuck.gof : GoF Try.prog 88 := ⟨_, Try.func88, by kernel_rfl, by kernel_rfl⟩
theorem stuck.sound (n : Nat) : Sound Try.prog 88 (stuck.mng n) := runF_sound (fn := Try.f88) (m := stuck.mng n) (c := stuck.cfg n) (regOK mixed (opOK (.of (c := stuck.cfg n) ⟨⟨may.sound n, may.gof⟩, trivial⟩) (.of (c := stuck.cfg n) trivial)) (tysOK tys11_ok)) (tysOK tys11_ok) Try.func88 (fun x => (stuck.eq n x.1).symm)

def iJam.las : List (Nat × LA) := []
noncomputable def iJam.f (n : Nat) (a0 : Network) (a1 : State) (a2 : List Int) : Option (Bool × Unit) := (iBounded.f n a0 a1 a2).bind fun r1 => br (!r1.1) (some (false, ())) ((boundedRun.f n a0.1 a0.2 a1.1 a1.2.1 a1.2.2.1 a1.2.2.2 a2).bind fun r2 => (stuck.f n ((r2.1, r2.2.1), ((r2.2.2.2.2.1, (r2.2.2.2.2.2.1, (r2.2.2.2.2.2.2.1, r2.2.2.1))), (r2.2.2.2.2.2.2.2.1, (r2.2.2.2.2.2.2.2.2.1, r2.2.2.2.1))))).bind fun r3 => br r3.1 ((quiet.f n ((r2.1, r2.2.1), ((r2.2.2.2.2.1, (r2.2.2.2.2.2.1, (r2.2.2.2.2.2.2.1, r2.2.2.1))), (r2.2.2.2.2.2.2.2.1, (r2.2.2.2.2.2.2.2.2.1, r2.2.2.2.1))))).bind fun r4 => some ((!r4.1), ())) (some (false, ())))
noncomputable def iJam.mng (n : Nat) : Mng := ⟨[.val tNetwork, .val tState, .val IS], [.val .bool], fun x => iJam.f n x.1 x.2.1 x.2.2.1⟩
noncomputable def iJam.cfg (n : Nat) : Cfg := ⟨tys11, [(61, iBounded.mng n), (88, stuck.mng n), (70, quiet.mng n)], [(62, boundedRun.mng n)], []⟩
theorem iJam.eq : ∀ (n : Nat) (a0 : Network) (a1 : State) (a2 : List Int), runF (iJam.cfg n) n Try.f32 (annOf Try.f32 iJam.las) [.val tNetwork, .val tState, .val IS] [.val .bool] (a0, (a1, (a2, ()))) = iJam.f n a0 a1 a2 := by
  intros
  kernel_rfl
theorem iJam.gof : GoF Try.prog 32 := ⟨_, Try.func32, by kernel_rfl, by kernel_rfl⟩
theorem iJam.sound (n : Nat) : Sound Try.prog 32 (iJam.mng n) := runF_sound (fn := Try.f32) (m := iJam.mng n) (c := iJam.cfg n) (regOK mixed (opOK (.of (c := iJam.cfg n) ⟨⟨iBounded.sound n, iBounded.gof⟩, ⟨⟨stuck.sound n, stuck.gof⟩, ⟨⟨quiet.sound n, quiet.gof⟩, trivial⟩⟩⟩) (.of (c := iJam.cfg n) ⟨⟨boundedRun.sound n, boundedRun.gof⟩, trivial⟩)) (tysOK tys11_ok)) (tysOK tys11_ok) Try.func32 (fun x => (iJam.eq n x.1 x.2.1 x.2.2.1).symm)

def iRaise.las : List (Nat × LA) := [(7, ⟨[(10, .int .i64), (28, .int .i64)], [], [2, 3, 9, 27], []⟩), (14, ⟨[(10, .int .i64), (34, .int .i64)], [], [2, 3, 9, 11, 27, 28, 33], []⟩), (25, ⟨[(87, .bool)], [], [2, 10], []⟩)]
noncomputable def iRaise.f (n : Nat) (a0 : Network) (a1 : State) (a2 : List Int) : Option ((List Int) × (Int × (Bool × Unit))) := (iJam.f n a0 a1 a2).bind fun r1 => br (!r1.1) (some ([], (0, (false, ())))) ((boundedRun.f n a0.1 a0.2 a1.1 a1.2.1 a1.2.2.1 a1.2.2.2 a2).bind fun r2 => iter (α := (Int × (Int × Unit))) n (fun ih74 x73 => br (decide (x73.2.1 < (a0.2.length : Int))) (iter (α := (Int × (Int × Unit))) n (fun ih76 x75 => br (decide (x75.2.1 < (a0.1.length : Int))) ((wants.f n ((r2.1, r2.2.1), ((r2.2.2.2.2.1, (r2.2.2.2.2.2.1, (r2.2.2.2.2.2.2.1, r2.2.2.1))), (r2.2.2.2.2.2.2.2.1, (r2.2.2.2.2.2.2.2.2.1, r2.2.2.2.1)))) x75.2.1).bind fun r77 => br (decide (r77.1 = 3)) (br (decide (r77.2.1 = x73.2.1)) ((can.f n ((r2.1, r2.2.1), ((r2.2.2.2.2.1, (r2.2.2.2.2.2.1, (r2.2.2.2.2.2.2.1, r2.2.2.1))), (r2.2.2.2.2.2.2.2.1, (r2.2.2.2.2.2.2.2.2.1, r2.2.2.2.1)))) x75.2.1).bind fun r78 => br r78.1 ((may.f n ((r2.1, r2.2.1), ((r2.2.2.2.2.1, (r2.2.2.2.2.2.1, (r2.2.2.2.2.2.2.1, r2.2.2.1))), (r2.2.2.2.2.2.2.2.1, (r2.2.2.2.2.2.2.2.2.1, r2.2.2.2.1)))) x75.2.1).bind fun r79 => br (!r79.1) (br (decide (x75.1 < 0)) (ih76 (x73.2.1, ((w64 (x75.2.1 + 1)), ()))) (chk (0 ≤ x73.2.1 ∧ x73.2.1 < (a2.length : Int)) (let v80 := (a2.getD x73.2.1.toNat 0); chk (0 ≤ x75.1 ∧ x75.1 < (a2.length : Int)) (br (decide (v80 < (a2.getD x75.1.toNat 0))) (ih76 (x73.2.1, ((w64 (x75.2.1 + 1)), ()))) (ih76 (x75.1, ((w64 (x75.2.1 + 1)), ()))))))) (ih76 (x75.1, ((w64 (x75.2.1 + 1)), ())))) (ih76 (x75.1, ((w64 (x75.2.1 + 1)), ())))) (ih76 (x75.1, ((w64 (x75.2.1 + 1)), ())))) (ih76 (x75.1, ((w64 (x75.2.1 + 1)), ())))) (ih74 (x75.1, ((w64 (x73.2.1 + 1)), ())))) (x73.1, (0, ()))) (cut (α := (Bool × Unit)) (br (decide (x73.1 < 0)) (some (.inr (true, ()))) (chk (0 ≤ x73.1 ∧ x73.1 < (a2.length : Int)) (some (.inr ((decide ((a2.getD x73.1.toNat 0) = 400)), ()))))) fun y81 => br y81.1 (some ([], (0, (false, ())))) ((cloneI.f n a2).bind fun r82 => chk (0 ≤ x73.1 ∧ x73.1 < (r82.1.length : Int)) (chk (0 ≤ x73.1 ∧ x73.1 < (r82.1.length : Int)) (let v83 := (r82.1.set x73.1.toNat (w64 ((r82.1.getD x73.1.toNat 0) + 1))); some (v83, (x73.1, (true, ())))))))) ((-1), (0, ())))
noncomputable def iRaise.mng (n : Nat) : Mng := ⟨[.val tNetwork, .val tState, .val IS], [.val IS, .val I, .val .bool], fun x => iRaise.f n x.1 x.2.1 x.2.2.1⟩
noncomputable def iRaise.cfg (n : Nat) : Cfg := ⟨tys11, [(32, iJam.mng n), (92, wants.mng n), (71, can.mng n), (93, may.mng n), (91, cloneI.mng n)], [(62, boundedRun.mng n)], []⟩
theorem iRaise.eq : ∀ (n : Nat) (a0 : Network) (a1 : State) (a2 : List Int), runF (iRaise.cfg n) n Try.f40 (annOf Try.f40 iRaise.las) [.val tNetwork, .val tState, .val IS] [.val IS, .val I, .val .bool] (a0, (a1, (a2, ()))) = iRaise.f n a0 a1 a2 := by
  intros
  kernel_rfl
theorem iRaise.gof : GoF Try.prog 40 := ⟨_, Try.func40, by kernel_rfl, by kernel_rfl⟩
theorem iRaise.sound (n : Nat) : Sound Try.prog 40 (iRaise.mng n) := runF_sound (fn := Try.f40) (m := iRaise.mng n) (c := iRaise.cfg n) (regOK mixed (opOK (.of (c := iRaise.cfg n) ⟨⟨iJam.sound n, iJam.gof⟩, ⟨⟨wants.sound n, wants.gof⟩, ⟨⟨can.sound n, can.gof⟩, ⟨⟨may.sound n, may.gof⟩, ⟨⟨cloneI.sound n, cloneI.gof⟩, trivial⟩⟩⟩⟩⟩) (.of (c := iRaise.cfg n) ⟨⟨boundedRun.sound n, boundedRun.gof⟩, trivial⟩)) (tysOK tys11_ok)) (tysOK tys11_ok) Try.func40 (fun x => (iRaise.eq n x.1 x.2.1 x.2.2.1).symm)
end Go.AmT
