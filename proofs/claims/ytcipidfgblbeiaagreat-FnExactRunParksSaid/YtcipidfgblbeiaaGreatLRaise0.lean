/- Functions that the law FnExactRunParks reaches, each as a plain Lean function, and that each does what that says. No condition. -/
import Derived.Test.YtcipidfgblbeiaaGreatPCpS
namespace Go.AmT
open Go Go.Am Go.Proofs
set_option linter.unusedVariables false
set_option maxRecDepth 100000
def tys10 : List (Nat × TInfo) := [(3, ⟨false, 1, 8, [.int .i64 0], .int .i64, 0, some I, [], false⟩),
  (30, ⟨false, 1, 24, [.nil], .slice, 3, some IS, [], false⟩),
  (35, ⟨false, 1, 24, [.nil], .slice, 109, some (.sl tProgram), [], false⟩),
  (36, ⟨false, 1, 24, [.nil], .slice, 112, some (.sl tLink), [], false⟩),
  (38, ⟨true, 2, 48, [.nil, .nil], .struct, 0, some tNetwork, [(0, 35), (1, 36)], false⟩),
  (42, ⟨true, 4, 80, [.nil, .nil, .nil, .int .i64 0], .struct, 0, some tState, [(0, 40), (1, 27), (2, 27), (3, 3)], false⟩),
  (92, ⟨true, 9, 200, [.nil, .nil, .nil, .nil, .nil, .int .i64 0, .nil, .nil, .nil], .struct, 0, some tRun, [(0, 38), (2, 42), (6, 27), (7, 27), (8, 30)], false⟩)]
theorem tys10_ok : (tys10.all fun p => tokB Tryz.prog p.1 p.2) = true := by kernel_rfl

def sL6Some.las : List (Nat × LA) := [(3, ⟨[(11, .int .i64)], [], [2, 3, 4, 10], []⟩)]
noncomputable def sL6Some.f (n : Nat) (a0 : Network) (a1 : State) (a2 : List Int) : Option (Bool × Unit) := iter (α := (Int × Unit)) n (fun ih12 x11 => br (decide (x11.1 < (a0.1.length : Int))) ((sL6Can.f n a0 a1 a2 x11.1).bind fun r13 => br r13.1 (some (true, ())) (ih12 ((w64 (x11.1 + 1)), ()))) (some (false, ()))) (0, ())
noncomputable def sL6Some.mng (n : Nat) : Mng := ⟨[.val tNetwork, .val tState, .val IS], [.val .bool], fun x => sL6Some.f n x.1 x.2.1 x.2.2.1⟩
noncomputable def sL6Some.cfg (n : Nat) : Cfg := ⟨tys10, [(122, sL6Can.mng n)], [], []⟩
theorem sL6Some.eq : ∀ (n : Nat) (a0 : Network) (a1 : State) (a2 : List Int), runF (sL6Some.cfg n) n Tryz.f96 (annOf Tryz.f96 sL6Some.las) [.val tNetwork, .val tState, .val IS] [.val .bool] (a0, (a1, (a2, ()))) = sL6Some.f n a0 a1 a2 := by
  intros
  kernel_rfl
theorem sL6Some.gof : GoF Tryz.prog 96 := ⟨_, Tryz.func96, by kernel_rfl, by kernel_rfl⟩
theorem sL6Some.sound (n : Nat) : Sound Tryz.prog 96 (sL6Some.mng n) := runF_sound (fn := Tryz.f96) (m := sL6Some.mng n) (c := sL6Some.cfg n) (regOK mixed (opOK (.of (c := sL6Some.cfg n) ⟨⟨sL6Can.sound n, sL6Can.gof⟩, trivial⟩) (.of (c := sL6Some.cfg n) trivial)) (tysOK tys10_ok)) (tysOK tys10_ok) Tryz.func96 (fun x => (sL6Some.eq n x.1 x.2.1 x.2.2.1).symm)

def sIsJammed.las : List (Nat × LA) := []
noncomputable def sIsJammed.f (n : Nat) (a0 : Network) (a1 : State) (a2 : List Int) : Option (Bool × Unit) := (sL6Valid.f n a0 a1 a2).bind fun r1 => br r1.1 ((sL6Some.f n a0 a1 a2).bind fun r2 => br (!r2.1) ((sL5First.f n a0 a1).bind fun r3 => some ((decide (0 ≤ r3.1)), ())) (some (false, ()))) (some (false, ()))
noncomputable def sIsJammed.mng (n : Nat) : Mng := ⟨[.val tNetwork, .val tState, .val IS], [.val .bool], fun x => sIsJammed.f n x.1 x.2.1 x.2.2.1⟩
noncomputable def sIsJammed.cfg (n : Nat) : Cfg := ⟨tys10, [(79, sL6Valid.mng n), (96, sL6Some.mng n), (72, sL5First.mng n)], [], []⟩
theorem sIsJammed.eq : ∀ (n : Nat) (a0 : Network) (a1 : State) (a2 : List Int), runF (sIsJammed.cfg n) n Tryz.f41 (annOf Tryz.f41 sIsJammed.las) [.val tNetwork, .val tState, .val IS] [.val .bool] (a0, (a1, (a2, ()))) = sIsJammed.f n a0 a1 a2 := by
  intros
  kernel_rfl
theorem sIsJammed.gof : GoF Tryz.prog 41 := ⟨_, Tryz.func41, by kernel_rfl, by kernel_rfl⟩
theorem sIsJammed.sound (n : Nat) : Sound Tryz.prog 41 (sIsJammed.mng n) := runF_sound (fn := Tryz.f41) (m := sIsJammed.mng n) (c := sIsJammed.cfg n) (regOK mixed (opOK (.of (c := sIsJammed.cfg n) ⟨⟨sL6Valid.sound n, sL6Valid.gof⟩, ⟨⟨sL6Some.sound n, sL6Some.gof⟩, ⟨⟨sL5First.sound n, sL5First.gof⟩, trivial⟩⟩⟩) (.of (c := sIsJammed.cfg n) trivial)) (tysOK tys10_ok)) (tysOK tys10_ok) Tryz.func41 (fun x => (sIsJammed.eq n x.1 x.2.1 x.2.2.1).symm)

def sL6Raise.las : List (Nat × LA) := [(4, ⟨[(9, .int .i64), (16, .int .i64)], [], [2, 3, 4, 15], []⟩), (10, ⟨[(32, .bool)], [], [2, 3, 4, 9, 11, 15, 16], []⟩), (16, ⟨[(72, .bool)], [], [2, 9], []⟩)]
noncomputable def sL6Raise.f (n : Nat) (a0 : Network) (a1 : State) (a2 : List Int) : Option ((List Int) × (Int × (Bool × Unit))) := iter (α := (Int × (Int × Unit))) n (fun ih22 x21 => br (decide (x21.2.1 < (a0.1.length : Int))) ((sL6Full.f n a0 a1 a2 x21.2.1).bind fun r23 => cut (α := (Bool × Unit)) (br (decide (r23.1 < 0)) (some (.inr (true, ()))) ((sL5Can.f n a0 a1 x21.2.1).bind fun r25 => some (.inr ((!r25.1), ())))) fun y24 => br y24.1 (ih22 (x21.1, ((w64 (x21.2.1 + 1)), ()))) (br (decide (x21.1 < 0)) (ih22 (r23.1, ((w64 (x21.2.1 + 1)), ()))) (chk (0 ≤ r23.1 ∧ r23.1 < (a2.length : Int)) (chk (0 ≤ x21.1 ∧ x21.1 < (a2.length : Int)) (br (decide ((a2.getD r23.1.toNat 0) < (a2.getD x21.1.toNat 0))) (ih22 (r23.1, ((w64 (x21.2.1 + 1)), ()))) (chk (0 ≤ r23.1 ∧ r23.1 < (a2.length : Int)) (chk (0 ≤ x21.1 ∧ x21.1 < (a2.length : Int)) (br (decide ((a2.getD r23.1.toNat 0) = (a2.getD x21.1.toNat 0))) (br (decide (r23.1 < x21.1)) (ih22 (r23.1, ((w64 (x21.2.1 + 1)), ()))) (ih22 (x21.1, ((w64 (x21.2.1 + 1)), ())))) (ih22 (x21.1, ((w64 (x21.2.1 + 1)), ()))))))))))) (cut (α := (Bool × Unit)) (br (decide (x21.1 < 0)) (some (.inr (true, ()))) (chk (0 ≤ x21.1 ∧ x21.1 < (a2.length : Int)) (some (.inr ((decide (400 ≤ (a2.getD x21.1.toNat 0))), ()))))) fun y26 => br y26.1 (some ([], (0, (false, ())))) ((sL1Copy.f n a2).bind fun r27 => chk (0 ≤ x21.1 ∧ x21.1 < (r27.1.length : Int)) (chk (0 ≤ x21.1 ∧ x21.1 < (r27.1.length : Int)) (let v28 := (r27.1.set x21.1.toNat (w64 ((r27.1.getD x21.1.toNat 0) + 1))); some (v28, (x21.1, (true, ())))))))) ((-1), (0, ()))
noncomputable def sL6Raise.mng (n : Nat) : Mng := ⟨[.val tNetwork, .val tState, .val IS], [.val IS, .val I, .val .bool], fun x => sL6Raise.f n x.1 x.2.1 x.2.2.1⟩
noncomputable def sL6Raise.cfg (n : Nat) : Cfg := ⟨tys10, [(97, sL6Full.mng n), (64, sL5Can.mng n), (80, sL1Copy.mng n)], [], []⟩
theorem sL6Raise.eq : ∀ (n : Nat) (a0 : Network) (a1 : State) (a2 : List Int), runF (sL6Raise.cfg n) n Tryz.f42 (annOf Tryz.f42 sL6Raise.las) [.val tNetwork, .val tState, .val IS] [.val IS, .val I, .val .bool] (a0, (a1, (a2, ()))) = sL6Raise.f n a0 a1 a2 := by
  intros
  kernel_rfl
theorem sL6Raise.gof : GoF Tryz.prog 42 := ⟨_, Tryz.func42, by kernel_rfl, by kernel_rfl⟩
theorem sL6Raise.sound (n : Nat) : Sound Tryz.prog 42 (sL6Raise.mng n) := runF_sound (fn := Tryz.f42) (m := sL6Raise.mng n) (c := sL6Raise.cfg n) (regOK mixed (opOK (.of (c := sL6Raise.cfg n) ⟨⟨sL6Full.sound n, sL6Full.gof⟩, ⟨⟨sL5Can.sound n, sL5Can.gof⟩, ⟨⟨sL1Copy.sound n, sL1Copy.gof⟩, trivial⟩⟩⟩) (.of (c := sL6Raise.cfg n) trivial)) (tysOK tys10_ok)) (tysOK tys10_ok) Tryz.func42 (fun x => (sL6Raise.eq n x.1 x.2.1 x.2.2.1).symm)

def sRaiseCapacity.las : List (Nat × LA) := []
noncomputable def sRaiseCapacity.f (n : Nat) (a0 : Network) (a1 : State) (a2 : List Int) : Option ((List Int) × (Int × (Bool × Unit))) := (sIsJammed.f n a0 a1 a2).bind fun r1 => br (!r1.1) (some ([], (0, (false, ())))) ((sL6Raise.f n a0 a1 a2).bind fun r2 => some (r2.1, (r2.2.1, (r2.2.2.1, ()))))
noncomputable def sRaiseCapacity.mng (n : Nat) : Mng := ⟨[.val tNetwork, .val tState, .val IS], [.val IS, .val I, .val .bool], fun x => sRaiseCapacity.f n x.1 x.2.1 x.2.2.1⟩
noncomputable def sRaiseCapacity.cfg (n : Nat) : Cfg := ⟨tys10, [(41, sIsJammed.mng n), (42, sL6Raise.mng n)], [], []⟩
theorem sRaiseCapacity.eq : ∀ (n : Nat) (a0 : Network) (a1 : State) (a2 : List Int), runF (sRaiseCapacity.cfg n) n Tryz.f12 (annOf Tryz.f12 sRaiseCapacity.las) [.val tNetwork, .val tState, .val IS] [.val IS, .val I, .val .bool] (a0, (a1, (a2, ()))) = sRaiseCapacity.f n a0 a1 a2 := by
  intros
  kernel_rfl
theorem sRaiseCapacity.gof : GoF Tryz.prog 12 := ⟨_, Tryz.func12, by kernel_rfl, by kernel_rfl⟩
theorem sRaiseCapacity.sound (n : Nat) : Sound Tryz.prog 12 (sRaiseCapacity.mng n) := runF_sound (fn := Tryz.f12) (m := sRaiseCapacity.mng n) (c := sRaiseCapacity.cfg n) (regOK mixed (opOK (.of (c := sRaiseCapacity.cfg n) ⟨⟨sIsJammed.sound n, sIsJammed.gof⟩, ⟨⟨sL6Raise.sound n, sL6Raise.gof⟩, trivial⟩⟩) (.of (c := sRaiseCapacity.cfg n) trivial)) (tysOK tys10_ok)) (tysOK tys10_ok) Tryz.func12 (fun x => (sRaiseCapacity.eq n x.1 x.2.1 x.2.2.1).symm)

def stuck.las : List (Nat × LA) := [(3, ⟨[(10, .int .i64)], [], [0, 9], []⟩)]
noncomputable def stuck.f (n : Nat) (a0 : Run) : Option (Bool × Unit) := iter (α := (Int × Unit)) n (fun ih6 x5 => br (decide (x5.1 < (a0.1.1.length : Int))) ((may.f n a0 x5.1).bind fun r7 => br r7.1 (some (false, ())) (ih6 ((w64 (x5.1 + 1)), ()))) (some (true, ()))) (0, ())
noncomputable def stuck.mng (n : Nat) : Mng := ⟨[.psh tRun], [.val .bool], fun x => stuck.f n x.1⟩
noncomputable def stuck.cfg (n : Nat) : Cfg := ⟨tys10, [(51, may.mng n)], [], []⟩
theorem stuck.eq : ∀ (n : Nat) (a0 : Run), runF (stuck.cfg n) n Tryz.f101 (annOf Tryz.f101 stuck.las) [.psh tRun] [.val .bool] (a0, ()) = stuck.f n a0 := by
  intros
  kernel_rfl
theorem stuck.gof : GoF Tryz.prog 101 := ⟨_, Tryz.func101, by kernel_rfl, by kernel_rfl⟩
theorem stuck.sound (n : Nat) : Sound Tryz.prog 101 (stuck.mng n) := runF_sound (fn := Tryz.f101) (m := stuck.mng n) (c := stuck.cfg n) (regOK mixed (opOK (.of (c := stuck.cfg n) ⟨⟨may.sound n, may.gof⟩, trivial⟩) (.of (c := stuck.cfg n) trivial)) (tysOK tys10_ok)) (tysOK tys10_ok) Tryz.func101 (fun x => (stuck.eq n x.1).symm)

def iJam.las : List (Nat × LA) := []
noncomputable def iJam.f (n : Nat) (a0 : Network) (a1 : State) (a2 : List Int) : Option (Bool × Unit) := (iBounded.f n a0 a1 a2).bind fun r1 => br (!r1.1) (some (false, ())) ((boundedRun.f n a0.1 a0.2 a1.1 a1.2.1 a1.2.2.1 a1.2.2.2 a2).bind fun r2 => (stuck.f n ((r2.1, r2.2.1), ((r2.2.2.2.2.1, (r2.2.2.2.2.2.1, (r2.2.2.2.2.2.2.1, r2.2.2.1))), (r2.2.2.2.2.2.2.2.1, (r2.2.2.2.2.2.2.2.2.1, r2.2.2.2.1))))).bind fun r3 => br r3.1 ((quiet.f n ((r2.1, r2.2.1), ((r2.2.2.2.2.1, (r2.2.2.2.2.2.1, (r2.2.2.2.2.2.2.1, r2.2.2.1))), (r2.2.2.2.2.2.2.2.1, (r2.2.2.2.2.2.2.2.2.1, r2.2.2.2.1))))).bind fun r4 => some ((!r4.1), ())) (some (false, ())))
noncomputable def iJam.mng (n : Nat) : Mng := ⟨[.val tNetwork, .val tState, .val IS], [.val .bool], fun x => iJam.f n x.1 x.2.1 x.2.2.1⟩
noncomputable def iJam.cfg (n : Nat) : Cfg := ⟨tys10, [(82, iBounded.mng n), (101, stuck.mng n), (73, quiet.mng n)], [(48, boundedRun.mng n)], []⟩
theorem iJam.eq : ∀ (n : Nat) (a0 : Network) (a1 : State) (a2 : List Int), runF (iJam.cfg n) n Tryz.f47 (annOf Tryz.f47 iJam.las) [.val tNetwork, .val tState, .val IS] [.val .bool] (a0, (a1, (a2, ()))) = iJam.f n a0 a1 a2 := by
  intros
  kernel_rfl
theorem iJam.gof : GoF Tryz.prog 47 := ⟨_, Tryz.func47, by kernel_rfl, by kernel_rfl⟩
theorem iJam.sound (n : Nat) : Sound Tryz.prog 47 (iJam.mng n) := runF_sound (fn := Tryz.f47) (m := iJam.mng n) (c := iJam.cfg n) (regOK mixed (opOK (.of (c := iJam.cfg n) ⟨⟨iBounded.sound n, iBounded.gof⟩, ⟨⟨stuck.sound n, stuck.gof⟩, ⟨⟨quiet.sound n, quiet.gof⟩, trivial⟩⟩⟩) (.of (c := iJam.cfg n) ⟨⟨boundedRun.sound n, boundedRun.gof⟩, trivial⟩)) (tysOK tys10_ok)) (tysOK tys10_ok) Tryz.func47 (fun x => (iJam.eq n x.1 x.2.1 x.2.2.1).symm)

def iRaise.las : List (Nat × LA) := [(7, ⟨[(10, .int .i64), (28, .int .i64)], [], [2, 3, 9, 27], []⟩), (14, ⟨[(10, .int .i64), (34, .int .i64)], [], [2, 3, 9, 11, 27, 28, 33], []⟩), (25, ⟨[(87, .bool)], [], [2, 10], []⟩)]
noncomputable def iRaise.f (n : Nat) (a0 : Network) (a1 : State) (a2 : List Int) : Option ((List Int) × (Int × (Bool × Unit))) := (iJam.f n a0 a1 a2).bind fun r1 => br (!r1.1) (some ([], (0, (false, ())))) ((boundedRun.f n a0.1 a0.2 a1.1 a1.2.1 a1.2.2.1 a1.2.2.2 a2).bind fun r2 => iter (α := (Int × (Int × Unit))) n (fun ih74 x73 => br (decide (x73.2.1 < (a0.2.length : Int))) (iter (α := (Int × (Int × Unit))) n (fun ih76 x75 => br (decide (x75.2.1 < (a0.1.length : Int))) ((wants.f n ((r2.1, r2.2.1), ((r2.2.2.2.2.1, (r2.2.2.2.2.2.1, (r2.2.2.2.2.2.2.1, r2.2.2.1))), (r2.2.2.2.2.2.2.2.1, (r2.2.2.2.2.2.2.2.2.1, r2.2.2.2.1)))) x75.2.1).bind fun r77 => br (decide (r77.1 = 3)) (br (decide (r77.2.1 = x73.2.1)) ((can.f n ((r2.1, r2.2.1), ((r2.2.2.2.2.1, (r2.2.2.2.2.2.1, (r2.2.2.2.2.2.2.1, r2.2.2.1))), (r2.2.2.2.2.2.2.2.1, (r2.2.2.2.2.2.2.2.2.1, r2.2.2.2.1)))) x75.2.1).bind fun r78 => br r78.1 ((may.f n ((r2.1, r2.2.1), ((r2.2.2.2.2.1, (r2.2.2.2.2.2.1, (r2.2.2.2.2.2.2.1, r2.2.2.1))), (r2.2.2.2.2.2.2.2.1, (r2.2.2.2.2.2.2.2.2.1, r2.2.2.2.1)))) x75.2.1).bind fun r79 => br (!r79.1) (br (decide (x75.1 < 0)) (ih76 (x73.2.1, ((w64 (x75.2.1 + 1)), ()))) (chk (0 ≤ x73.2.1 ∧ x73.2.1 < (a2.length : Int)) (let v80 := (a2.getD x73.2.1.toNat 0); chk (0 ≤ x75.1 ∧ x75.1 < (a2.length : Int)) (br (decide (v80 < (a2.getD x75.1.toNat 0))) (ih76 (x73.2.1, ((w64 (x75.2.1 + 1)), ()))) (ih76 (x75.1, ((w64 (x75.2.1 + 1)), ()))))))) (ih76 (x75.1, ((w64 (x75.2.1 + 1)), ())))) (ih76 (x75.1, ((w64 (x75.2.1 + 1)), ())))) (ih76 (x75.1, ((w64 (x75.2.1 + 1)), ())))) (ih76 (x75.1, ((w64 (x75.2.1 + 1)), ())))) (ih74 (x75.1, ((w64 (x73.2.1 + 1)), ())))) (x73.1, (0, ()))) (cut (α := (Bool × Unit)) (br (decide (x73.1 < 0)) (some (.inr (true, ()))) (chk (0 ≤ x73.1 ∧ x73.1 < (a2.length : Int)) (some (.inr ((decide ((a2.getD x73.1.toNat 0) = 400)), ()))))) fun y81 => br y81.1 (some ([], (0, (false, ())))) ((cloneI.f n a2).bind fun r82 => chk (0 ≤ x73.1 ∧ x73.1 < (r82.1.length : Int)) (chk (0 ≤ x73.1 ∧ x73.1 < (r82.1.length : Int)) (let v83 := (r82.1.set x73.1.toNat (w64 ((r82.1.getD x73.1.toNat 0) + 1))); some (v83, (x73.1, (true, ())))))))) ((-1), (0, ())))
noncomputable def iRaise.mng (n : Nat) : Mng := ⟨[.val tNetwork, .val tState, .val IS], [.val IS, .val I, .val .bool], fun x => iRaise.f n x.1 x.2.1 x.2.2.1⟩
noncomputable def iRaise.cfg (n : Nat) : Cfg := ⟨tys10, [(47, iJam.mng n), (49, wants.mng n), (50, can.mng n), (51, may.mng n), (52, cloneI.mng n)], [(48, boundedRun.mng n)], []⟩
theorem iRaise.eq : ∀ (n : Nat) (a0 : Network) (a1 : State) (a2 : List Int), runF (iRaise.cfg n) n Tryz.f16 (annOf Tryz.f16 iRaise.las) [.val tNetwork, .val tState, .val IS] [.val IS, .val I, .val .bool] (a0, (a1, (a2, ()))) = iRaise.f n a0 a1 a2 := by
  intros
  kernel_rfl
theorem iRaise.gof : GoF Tryz.prog 16 := ⟨_, Tryz.func16, by kernel_rfl, by kernel_rfl⟩
theorem iRaise.sound (n : Nat) : Sound Tryz.prog 16 (iRaise.mng n) := runF_sound (fn := Tryz.f16) (m := iRaise.mng n) (c := iRaise.cfg n) (regOK mixed (opOK (.of (c := iRaise.cfg n) ⟨⟨iJam.sound n, iJam.gof⟩, ⟨⟨wants.sound n, wants.gof⟩, ⟨⟨can.sound n, can.gof⟩, ⟨⟨may.sound n, may.gof⟩, ⟨⟨cloneI.sound n, cloneI.gof⟩, trivial⟩⟩⟩⟩⟩) (.of (c := iRaise.cfg n) ⟨⟨boundedRun.sound n, boundedRun.gof⟩, trivial⟩)) (tysOK tys10_ok)) (tysOK tys10_ok) Tryz.func16 (fun x => (iRaise.eq n x.1 x.2.1 x.2.2.1).symm)
end Go.AmT
