/- Functions that the law FnExactParseState reaches, each as a plain Lean function, and that each does what that says. No condition. -/
import Derived.Test.YtgddbcdkhfdojaaGreatDoorPCap
namespace Go.AmT
open Go Go.Am Go.Proofs
set_option linter.unusedVariables false
set_option maxRecDepth 100000
abbrev tActor : Ty := (.pair I IS)
abbrev tState : Ty := (.pair (.sl tActor) (.pair (.sl IS) (.pair (.sl IS) I)))
abbrev Actor : Type := Int × List Int
def zActor : Actor := (0, [])
abbrev State : Type := List Actor × (List (List Int) × (List (List Int) × Int))
def tys2 : List (Nat × TInfo) := [(3, ⟨false, 1, 8, [.int .i64 0], .int .i64, 0, some I, [], false⟩),
  (22, ⟨false, 1, 24, [.nil], .slice, 62, some (.sl tProgram), [], false⟩),
  (23, ⟨false, 1, 24, [.nil], .slice, 80, some (.sl tLink), [], false⟩),
  (25, ⟨true, 2, 48, [.nil, .nil], .struct, 0, some tNetwork, [(0, 22), (1, 23)], false⟩),
  (36, ⟨false, 1, 24, [.nil], .slice, 103, some (.sl tActor), [], false⟩),
  (37, ⟨false, 1, 24, [.nil], .slice, 49, some (.sl IS), [], false⟩),
  (39, ⟨true, 4, 80, [.nil, .nil, .nil, .int .i64 0], .struct, 0, some tState, [(0, 36), (1, 37), (2, 37), (3, 3)], false⟩),
  (49, ⟨false, 1, 24, [.nil], .slice, 3, some IS, [], false⟩),
  (60, ⟨false, 1, 24, [.nil], .slice, 72, some (.sl tInstr), [], false⟩),
  (62, ⟨true, 3, 40, [.int .i64 0, .int .i64 0, .nil], .struct, 0, some tProgram, [(0, 3), (1, 3), (2, 60)], false⟩),
  (80, ⟨true, 5, 56, [.int .i64 0, .int .i64 0, .int .i64 0, .int .i64 0, .nil], .struct, 0, some tLink, [(0, 3), (1, 3), (2, 3), (3, 3), (4, 49)], false⟩),
  (103, ⟨true, 2, 32, [.int .i64 0, .nil], .struct, 0, some tActor, [(0, 3), (1, 49)], false⟩)]
theorem tys2_ok : (tys2.all fun p => tokB Tryz.prog p.1 p.2) = true := by kernel_rfl

def sL2Actor.las : List (Nat × LA) := []
noncomputable def sL2Actor.f (n : Nat) (a0 : Program) (a1 : Actor) : Option (Bool × Unit) := (sL1In.f n a1.1 0 (a0.2.2.length : Int)).bind fun r1 => br r1.1 (br (decide ((a1.2.length : Int) = 4)) ((sIsStream.f n a1.2).bind fun r2 => some (r2.1, ())) (some (false, ()))) (some (false, ()))
noncomputable def sL2Actor.mng (n : Nat) : Mng := ⟨[.val tProgram, .val tActor], [.val .bool], fun x => sL2Actor.f n x.1 x.2.1⟩
noncomputable def sL2Actor.cfg (n : Nat) : Cfg := ⟨tys2, [(101, sL1In.mng n), (104, sIsStream.mng n)], [], []⟩
theorem sL2Actor.eq : ∀ (n : Nat) (a0 : Program) (a1 : Actor), runF (sL2Actor.cfg n) n Tryz.f118 (annOf Tryz.f118 sL2Actor.las) [.val tProgram, .val tActor] [.val .bool] (a0, (a1, ())) = sL2Actor.f n a0 a1 := by
  intros
  kernel_rfl
theorem sL2Actor.gof : GoF Tryz.prog 118 := ⟨_, Tryz.func118, by kernel_rfl, by kernel_rfl⟩
theorem sL2Actor.sound (n : Nat) : Sound Tryz.prog 118 (sL2Actor.mng n) := runF_sound (fn := Tryz.f118) (m := sL2Actor.mng n) (c := sL2Actor.cfg n) (regOK mixed (opOK (.of (c := sL2Actor.cfg n) ⟨⟨sL1In.sound n, sL1In.gof⟩, ⟨⟨sIsStream.sound n, sIsStream.gof⟩, trivial⟩⟩) (.of (c := sL2Actor.cfg n) trivial)) (tysOK tys2_ok)) (tysOK tys2_ok) Tryz.func118 (fun x => (sL2Actor.eq n x.1 x.2.1).symm)

def sL1Begins.las : List (Nat × LA) := [(6, ⟨[(14, .int .i64)], [], [1, 12, 13], []⟩)]
noncomputable def sL1Begins.f (n : Nat) (a0 : List Int) (a1 : List Int) : Option (Bool × Unit) := br (decide ((a1.length : Int) < (a0.length : Int))) (some (false, ())) (iter (α := (Int × Unit)) n (fun ih6 x5 => br (decide (x5.1 < (a0.length : Int))) (chk (0 ≤ x5.1 ∧ x5.1 < (a0.length : Int)) (chk (0 ≤ x5.1 ∧ x5.1 < (a1.length : Int)) (br (!decide ((a1.getD x5.1.toNat 0) = (a0.getD x5.1.toNat 0))) (some (false, ())) (ih6 ((w64 (x5.1 + 1)), ()))))) (some (true, ()))) (0, ()))
noncomputable def sL1Begins.mng (n : Nat) : Mng := ⟨[.val IS, .val IS], [.val .bool], fun x => sL1Begins.f n x.1 x.2.1⟩
noncomputable def sL1Begins.cfg (n : Nat) : Cfg := ⟨tys2, [], [], []⟩
theorem sL1Begins.eq : ∀ (n : Nat) (a0 : List Int) (a1 : List Int), runF (sL1Begins.cfg n) n Tryz.f119 (annOf Tryz.f119 sL1Begins.las) [.val IS, .val IS] [.val .bool] (a0, (a1, ())) = sL1Begins.f n a0 a1 := by
  intros
  kernel_rfl
theorem sL1Begins.gof : GoF Tryz.prog 119 := ⟨_, Tryz.func119, by kernel_rfl, by kernel_rfl⟩
theorem sL1Begins.sound (n : Nat) : Sound Tryz.prog 119 (sL1Begins.mng n) := runF_sound (fn := Tryz.f119) (m := sL1Begins.mng n) (c := sL1Begins.cfg n) (regOK mixed (opOK (.of (c := sL1Begins.cfg n) trivial) (.of (c := sL1Begins.cfg n) trivial)) (tysOK tys2_ok)) (tysOK tys2_ok) Tryz.func119 (fun x => (sL1Begins.eq n x.1 x.2.1).symm)

def sL5Ends.las : List (Nat × LA) := []
noncomputable def sL5Ends.f (n : Nat) (a0 : List Int) (a1 : List Int) : Option (Bool × Unit) := br (decide ((a0.length : Int) ≤ (a1.length : Int))) (chk (0 ≤ (w64 ((a1.length : Int) - (a0.length : Int))) ∧ (w64 ((a1.length : Int) - (a0.length : Int))) ≤ (a1.length : Int) ∧ (a1.length : Int) ≤ (a1.length : Int)) ((sL1Begins.f n a0 ((a1.take (a1.length : Int).toNat).drop (w64 ((a1.length : Int) - (a0.length : Int))).toNat)).bind fun r1 => some (r1.1, ()))) (some (false, ()))
noncomputable def sL5Ends.mng (n : Nat) : Mng := ⟨[.val IS, .val IS], [.val .bool], fun x => sL5Ends.f n x.1 x.2.1⟩
noncomputable def sL5Ends.cfg (n : Nat) : Cfg := ⟨tys2, [(119, sL1Begins.mng n)], [], []⟩
theorem sL5Ends.eq : ∀ (n : Nat) (a0 : List Int) (a1 : List Int), runF (sL5Ends.cfg n) n Tryz.f120 (annOf Tryz.f120 sL5Ends.las) [.val IS, .val IS] [.val .bool] (a0, (a1, ())) = sL5Ends.f n a0 a1 := by
  intros
  kernel_rfl
theorem sL5Ends.gof : GoF Tryz.prog 120 := ⟨_, Tryz.func120, by kernel_rfl, by kernel_rfl⟩
theorem sL5Ends.sound (n : Nat) : Sound Tryz.prog 120 (sL5Ends.mng n) := runF_sound (fn := Tryz.f120) (m := sL5Ends.mng n) (c := sL5Ends.cfg n) (regOK mixed (opOK (.of (c := sL5Ends.cfg n) ⟨⟨sL1Begins.sound n, sL1Begins.gof⟩, trivial⟩) (.of (c := sL5Ends.cfg n) trivial)) (tysOK tys2_ok)) (tysOK tys2_ok) Tryz.func120 (fun x => (sL5Ends.eq n x.1 x.2.1).symm)

def sIsState.las : List (Nat × LA) := [(1, ⟨[(46, .bool)], [], [2, 3], []⟩), (6, ⟨[(50, .int .i64)], [], [2, 3, 48, 49], []⟩), (17, ⟨[(67, .int .i64)], [], [3, 65, 66], []⟩), (24, ⟨[(102, .bool)], [], [3, 8, 9, 10, 65, 66, 67], []⟩)]
noncomputable def sIsState.f (n : Nat) (a0 : Network) (a1 : State) : Option (Bool × Unit) := cut (α := (Bool × Unit)) ((sIsNetwork.f n a0).bind fun r4 => br (!r4.1) (some (.inr (true, ()))) (br (!decide ((a1.1.length : Int) = (a0.1.length : Int))) (some (.inr (true, ()))) (br (!decide ((a1.2.1.length : Int) = (a0.2.length : Int))) (some (.inr (true, ()))) (br (!decide ((a1.2.2.1.length : Int) = (a0.2.length : Int))) (some (.inr (true, ()))) ((sL1In.f n a1.2.2.2 0 20000).bind fun r5 => some (.inr ((!r5.1), ()))))))) fun y3 => br y3.1 (some (false, ())) (iter (α := (Int × Unit)) n (fun ih24 x23 => br (decide (x23.1 < (a1.1.length : Int))) (chk (0 ≤ x23.1 ∧ x23.1 < (a1.1.length : Int)) (let v25 := (a1.1.getD x23.1.toNat zActor); chk (0 ≤ x23.1 ∧ x23.1 < (a0.1.length : Int)) (let v26 := (a0.1.getD x23.1.toNat zProgram); (sL2Actor.f n v26 v25).bind fun r27 => br (!r27.1) (some (false, ())) (ih24 ((w64 (x23.1 + 1)), ()))))) (iter (α := (Int × Unit)) n (fun ih46 x45 => br (decide (x45.1 < (a0.2.length : Int))) (chk (0 ≤ x45.1 ∧ x45.1 < (a0.2.length : Int)) (let v47 := (a0.2.getD x45.1.toNat zLink); chk (0 ≤ x45.1 ∧ x45.1 < (a1.2.1.length : Int)) (let v48 := (a1.2.1.getD x45.1.toNat []); chk (0 ≤ x45.1 ∧ x45.1 < (a1.2.2.1.length : Int)) (let v49 := (a1.2.2.1.getD x45.1.toNat []); cut (α := (Bool × Unit)) ((sIsStream.f n v48).bind fun r55 => br (!r55.1) (some (.inr (true, ()))) ((sIsStream.f n v49).bind fun r56 => br (!r56.1) (some (.inr (true, ()))) ((sL1Begins.f n v47.2.2.2.2 v49).bind fun r57 => br (!r57.1) (some (.inr (true, ()))) ((sL5Ends.f n v48 v49).bind fun r58 => some (.inr ((!r58.1), ())))))) fun y54 => br y54.1 (some (false, ())) (br (decide (v47.1 = (-1))) (br (!decide ((v49.length : Int) = (v47.2.2.2.2.length : Int))) (some (false, ())) (br (decide (v47.2.2.1 = (-1))) (br (!decide ((v49.length : Int) = (v48.length : Int))) (some (false, ())) (ih46 ((w64 (x45.1 + 1)), ()))) (ih46 ((w64 (x45.1 + 1)), ())))) (br (decide (v47.2.2.1 = (-1))) (br (!decide ((v49.length : Int) = (v48.length : Int))) (some (false, ())) (ih46 ((w64 (x45.1 + 1)), ()))) (ih46 ((w64 (x45.1 + 1)), ())))))))) (some (true, ()))) (0, ()))) (0, ()))
noncomputable def sIsState.mng (n : Nat) : Mng := ⟨[.val tNetwork, .val tState], [.val .bool], fun x => sIsState.f n x.1 x.2.1⟩
noncomputable def sIsState.cfg (n : Nat) : Cfg := ⟨tys2, [(43, sIsNetwork.mng n), (101, sL1In.mng n), (118, sL2Actor.mng n), (104, sIsStream.mng n), (119, sL1Begins.mng n), (120, sL5Ends.mng n)], [], []⟩
theorem sIsState.eq : ∀ (n : Nat) (a0 : Network) (a1 : State), runF (sIsState.cfg n) n Tryz.f57 (annOf Tryz.f57 sIsState.las) [.val tNetwork, .val tState] [.val .bool] (a0, (a1, ())) = sIsState.f n a0 a1 := by
  intros
  kernel_rfl
theorem sIsState.gof : GoF Tryz.prog 57 := ⟨_, Tryz.func57, by kernel_rfl, by kernel_rfl⟩
theorem sIsState.sound (n : Nat) : Sound Tryz.prog 57 (sIsState.mng n) := runF_sound (fn := Tryz.f57) (m := sIsState.mng n) (c := sIsState.cfg n) (regOK mixed (opOK (.of (c := sIsState.cfg n) ⟨⟨sIsNetwork.sound n, sIsNetwork.gof⟩, ⟨⟨sL1In.sound n, sL1In.gof⟩, ⟨⟨sL2Actor.sound n, sL2Actor.gof⟩, ⟨⟨sIsStream.sound n, sIsStream.gof⟩, ⟨⟨sL1Begins.sound n, sL1Begins.gof⟩, ⟨⟨sL5Ends.sound n, sL5Ends.gof⟩, trivial⟩⟩⟩⟩⟩⟩) (.of (c := sIsState.cfg n) trivial)) (tysOK tys2_ok)) (tysOK tys2_ok) Tryz.func57 (fun x => (sIsState.eq n x.1 x.2.1).symm)

def isActor.las : List (Nat × LA) := []
noncomputable def isActor.f (n : Nat) (a0 : Program) (a1 : Actor) : Option (Bool × Unit) := br (decide (0 ≤ a1.1)) (br (decide (a1.1 ≤ (a0.2.2.length : Int))) (br (decide ((a1.2.length : Int) = 4)) ((iIsStream.f n a1.2).bind fun r1 => some (r1.1, ())) (some (false, ()))) (some (false, ()))) (some (false, ()))
noncomputable def isActor.mng (n : Nat) : Mng := ⟨[.val tProgram, .val tActor], [.val .bool], fun x => isActor.f n x.1 x.2.1⟩
noncomputable def isActor.cfg (n : Nat) : Cfg := ⟨tys2, [(88, iIsStream.mng n)], [], []⟩
theorem isActor.eq : ∀ (n : Nat) (a0 : Program) (a1 : Actor), runF (isActor.cfg n) n Tryz.f125 (annOf Tryz.f125 isActor.las) [.val tProgram, .val tActor] [.val .bool] (a0, (a1, ())) = isActor.f n a0 a1 := by
  intros
  kernel_rfl
theorem isActor.gof : GoF Tryz.prog 125 := ⟨_, Tryz.func125, by kernel_rfl, by kernel_rfl⟩
theorem isActor.sound (n : Nat) : Sound Tryz.prog 125 (isActor.mng n) := runF_sound (fn := Tryz.f125) (m := isActor.mng n) (c := isActor.cfg n) (regOK mixed (opOK (.of (c := isActor.cfg n) ⟨⟨iIsStream.sound n, iIsStream.gof⟩, trivial⟩) (.of (c := isActor.cfg n) trivial)) (tysOK tys2_ok)) (tysOK tys2_ok) Tryz.func125 (fun x => (isActor.eq n x.1 x.2.1).symm)

def equalI.las : List (Nat × LA) := [(6, ⟨[(13, .int .i64)], [], [0, 1, 12], []⟩)]
noncomputable def equalI.f (n : Nat) (a0 : List Int) (a1 : List Int) : Option (Bool × Unit) := br (!decide ((a0.length : Int) = (a1.length : Int))) (some (false, ())) (iter (α := (Int × Unit)) n (fun ih6 x5 => br (decide (x5.1 < (a0.length : Int))) (chk (0 ≤ x5.1 ∧ x5.1 < (a0.length : Int)) (chk (0 ≤ x5.1 ∧ x5.1 < (a1.length : Int)) (br (!decide ((a0.getD x5.1.toNat 0) = (a1.getD x5.1.toNat 0))) (some (false, ())) (ih6 ((w64 (x5.1 + 1)), ()))))) (some (true, ()))) (0, ()))
noncomputable def equalI.mng (n : Nat) : Mng := ⟨[.val IS, .val IS], [.val .bool], fun x => equalI.f n x.1 x.2.1⟩
noncomputable def equalI.cfg (n : Nat) : Cfg := ⟨tys2, [], [], []⟩
theorem equalI.eq : ∀ (n : Nat) (a0 : List Int) (a1 : List Int), runF (equalI.cfg n) n Tryz.f127 (annOf Tryz.f127 equalI.las) [.val IS, .val IS] [.val .bool] (a0, (a1, ())) = equalI.f n a0 a1 := by
  intros
  kernel_rfl
theorem equalI.gof : GoF Tryz.prog 127 := ⟨_, Tryz.func127, by kernel_rfl, by kernel_rfl⟩
theorem equalI.sound (n : Nat) : Sound Tryz.prog 127 (equalI.mng n) := runF_sound (fn := Tryz.f127) (m := equalI.mng n) (c := equalI.cfg n) (regOK mixed (opOK (.of (c := equalI.cfg n) trivial) (.of (c := equalI.cfg n) trivial)) (tysOK tys2_ok)) (tysOK tys2_ok) Tryz.func127 (fun x => (equalI.eq n x.1 x.2.1).symm)

def iIsPrefix.las : List (Nat × LA) := []
noncomputable def iIsPrefix.f (n : Nat) (a0 : List Int) (a1 : List Int) : Option (Bool × Unit) := (iIsStream.f n a0).bind fun r1 => br r1.1 ((iIsStream.f n a1).bind fun r2 => br r2.1 (br (decide ((a0.length : Int) ≤ (a1.length : Int))) (chk ((0 : Int) ≤ 0 ∧ (0 : Int) ≤ (a0.length : Int) ∧ (a0.length : Int) ≤ (a1.length : Int)) ((equalI.f n a0 ((a1.take (a0.length : Int).toNat).drop 0)).bind fun r3 => some (r3.1, ()))) (some (false, ()))) (some (false, ()))) (some (false, ()))
noncomputable def iIsPrefix.mng (n : Nat) : Mng := ⟨[.val IS, .val IS], [.val .bool], fun x => iIsPrefix.f n x.1 x.2.1⟩
noncomputable def iIsPrefix.cfg (n : Nat) : Cfg := ⟨tys2, [(88, iIsStream.mng n), (127, equalI.mng n)], [], []⟩
theorem iIsPrefix.eq : ∀ (n : Nat) (a0 : List Int) (a1 : List Int), runF (iIsPrefix.cfg n) n Tryz.f126 (annOf Tryz.f126 iIsPrefix.las) [.val IS, .val IS] [.val .bool] (a0, (a1, ())) = iIsPrefix.f n a0 a1 := by
  intros
  kernel_rfl
theorem iIsPrefix.gof : GoF Tryz.prog 126 := ⟨_, Tryz.func126, by kernel_rfl, by kernel_rfl⟩
theorem iIsPrefix.sound (n : Nat) : Sound Tryz.prog 126 (iIsPrefix.mng n) := runF_sound (fn := Tryz.f126) (m := iIsPrefix.mng n) (c := iIsPrefix.cfg n) (regOK mixed (opOK (.of (c := iIsPrefix.cfg n) ⟨⟨iIsStream.sound n, iIsStream.gof⟩, ⟨⟨equalI.sound n, equalI.gof⟩, trivial⟩⟩) (.of (c := iIsPrefix.cfg n) trivial)) (tysOK tys2_ok)) (tysOK tys2_ok) Tryz.func126 (fun x => (iIsPrefix.eq n x.1 x.2.1).symm)

def iIsState.las : List (Nat × LA) := [(1, ⟨[(50, .bool)], [], [2, 3], []⟩), (6, ⟨[(54, .int .i64)], [], [2, 3, 52, 53], []⟩), (17, ⟨[(71, .int .i64)], [], [3, 69, 70], []⟩), (23, ⟨[(114, .bool)], [], [3, 8, 9, 10, 69, 70, 71], []⟩)]
noncomputable def iIsState.f (n : Nat) (a0 : Network) (a1 : State) : Option (Bool × Unit) := cut (α := (Bool × Unit)) ((iIsNetwork.f n a0).bind fun r3 => br (!r3.1) (some (.inr (true, ()))) (br (!decide ((a1.1.length : Int) = (a0.1.length : Int))) (some (.inr (true, ()))) (br (!decide ((a1.2.1.length : Int) = (a0.2.length : Int))) (some (.inr (true, ()))) (br (!decide ((a1.2.2.1.length : Int) = (a0.2.length : Int))) (some (.inr (true, ()))) (br (decide (a1.2.2.2 < 0)) (some (.inr (true, ()))) (some (.inr ((decide (20000 < a1.2.2.2)), ())))))))) fun y2 => br y2.1 (some (false, ())) (iter (α := (Int × Unit)) n (fun ih22 x21 => br (decide (x21.1 < (a0.1.length : Int))) (chk (0 ≤ x21.1 ∧ x21.1 < (a0.1.length : Int)) (let v23 := (a0.1.getD x21.1.toNat zProgram); chk (0 ≤ x21.1 ∧ x21.1 < (a1.1.length : Int)) (let v24 := (a1.1.getD x21.1.toNat zActor); (isActor.f n v23 v24).bind fun r25 => br (!r25.1) (some (false, ())) (ih22 ((w64 (x21.1 + 1)), ()))))) (iter (α := (Int × Unit)) n (fun ih42 x41 => br (decide (x41.1 < (a0.2.length : Int))) (chk (0 ≤ x41.1 ∧ x41.1 < (a0.2.length : Int)) (let v43 := (a0.2.getD x41.1.toNat zLink); chk (0 ≤ x41.1 ∧ x41.1 < (a1.2.1.length : Int)) (let v44 := (a1.2.1.getD x41.1.toNat []); chk (0 ≤ x41.1 ∧ x41.1 < (a1.2.2.1.length : Int)) (let v45 := (a1.2.2.1.getD x41.1.toNat []); cut (α := (Bool × Unit)) ((iIsStream.f n v44).bind fun r50 => br (!r50.1) (some (.inr (true, ()))) ((iIsPrefix.f n v43.2.2.2.2 v45).bind fun r51 => br (!r51.1) (some (.inr (true, ()))) (br (decide ((v45.length : Int) < (v44.length : Int))) (some (.inr (true, ()))) (chk (0 ≤ (w64 ((v45.length : Int) - (v44.length : Int))) ∧ (w64 ((v45.length : Int) - (v44.length : Int))) ≤ (v45.length : Int) ∧ (v45.length : Int) ≤ (v45.length : Int)) ((equalI.f n v44 ((v45.take (v45.length : Int).toNat).drop (w64 ((v45.length : Int) - (v44.length : Int))).toNat)).bind fun r52 => some (.inr ((!r52.1), ()))))))) fun y49 => br y49.1 (some (false, ())) (br (decide (v43.1 = (-1))) (br (!decide ((v45.length : Int) = (v43.2.2.2.2.length : Int))) (some (false, ())) (br (decide (v43.2.2.1 = (-1))) (br (!decide ((v44.length : Int) = (v45.length : Int))) (some (false, ())) (ih42 ((w64 (x41.1 + 1)), ()))) (ih42 ((w64 (x41.1 + 1)), ())))) (br (decide (v43.2.2.1 = (-1))) (br (!decide ((v44.length : Int) = (v45.length : Int))) (some (false, ())) (ih42 ((w64 (x41.1 + 1)), ()))) (ih42 ((w64 (x41.1 + 1)), ())))))))) (some (true, ()))) (0, ()))) (0, ()))
noncomputable def iIsState.mng (n : Nat) : Mng := ⟨[.val tNetwork, .val tState], [.val .bool], fun x => iIsState.f n x.1 x.2.1⟩
noncomputable def iIsState.cfg (n : Nat) : Cfg := ⟨tys2, [(47, iIsNetwork.mng n), (125, isActor.mng n), (88, iIsStream.mng n), (126, iIsPrefix.mng n), (127, equalI.mng n)], [], []⟩
theorem iIsState.eq : ∀ (n : Nat) (a0 : Network) (a1 : State), runF (iIsState.cfg n) n Tryz.f63 (annOf Tryz.f63 iIsState.las) [.val tNetwork, .val tState] [.val .bool] (a0, (a1, ())) = iIsState.f n a0 a1 := by
  intros
  kernel_rfl
theorem iIsState.gof : GoF Tryz.prog 63 := ⟨_, Tryz.func63, by kernel_rfl, by kernel_rfl⟩
theorem iIsState.sound (n : Nat) : Sound Tryz.prog 63 (iIsState.mng n) := runF_sound (fn := Tryz.f63) (m := iIsState.mng n) (c := iIsState.cfg n) (regOK mixed (opOK (.of (c := iIsState.cfg n) ⟨⟨iIsNetwork.sound n, iIsNetwork.gof⟩, ⟨⟨isActor.sound n, isActor.gof⟩, ⟨⟨iIsStream.sound n, iIsStream.gof⟩, ⟨⟨iIsPrefix.sound n, iIsPrefix.gof⟩, ⟨⟨equalI.sound n, equalI.gof⟩, trivial⟩⟩⟩⟩⟩) (.of (c := iIsState.cfg n) trivial)) (tysOK tys2_ok)) (tysOK tys2_ok) Tryz.func63 (fun x => (iIsState.eq n x.1 x.2.1).symm)

def eqActor.las : List (Nat × LA) := []
noncomputable def eqActor.f (n : Nat) (a0 : Actor) (a1 : Actor) : Option (Bool × Unit) := br (!decide (a0.1 = a1.1)) (some (false, ())) ((eqIntS.f n a0.2 a1.2).bind fun r1 => br (!r1.1) (some (false, ())) (some (true, ())))
noncomputable def eqActor.mng (n : Nat) : Mng := ⟨[.val tActor, .val tActor], [.val .bool], fun x => eqActor.f n x.1 x.2.1⟩
noncomputable def eqActor.cfg (n : Nat) : Cfg := ⟨tys2, [(129, eqIntS.mng n)], [], []⟩
theorem eqActor.eq : ∀ (n : Nat) (a0 : Actor) (a1 : Actor), runF (eqActor.cfg n) n Tryz.f128 (annOf Tryz.f128 eqActor.las) [.val tActor, .val tActor] [.val .bool] (a0, (a1, ())) = eqActor.f n a0 a1 := by
  intros
  kernel_rfl
theorem eqActor.gof : GoF Tryz.prog 128 := ⟨_, Tryz.func128, by kernel_rfl, by kernel_rfl⟩
theorem eqActor.sound (n : Nat) : Sound Tryz.prog 128 (eqActor.mng n) := runF_sound (fn := Tryz.f128) (m := eqActor.mng n) (c := eqActor.cfg n) (regOK mixed (opOK (.of (c := eqActor.cfg n) ⟨⟨eqIntS.sound n, eqIntS.gof⟩, trivial⟩) (.of (c := eqActor.cfg n) trivial)) (tysOK tys2_ok)) (tysOK tys2_ok) Tryz.func128 (fun x => (eqActor.eq n x.1 x.2.1).symm)

def eqActorS.las : List (Nat × LA) := [(6, ⟨[(5, .int .i64)], [], [0, 1], []⟩)]
noncomputable def eqActorS.f (n : Nat) (a0 : List Actor) (a1 : List Actor) : Option (Bool × Unit) := br (!decide ((a0.length : Int) = (a1.length : Int))) (some (false, ())) (iter (α := (Int × Unit)) n (fun ih8 x7 => br (decide (x7.1 < (a0.length : Int))) (chk (0 ≤ x7.1 ∧ x7.1 < (a0.length : Int)) (let v9 := (a0.getD x7.1.toNat zActor); chk (0 ≤ x7.1 ∧ x7.1 < (a1.length : Int)) (let v10 := (a1.getD x7.1.toNat zActor); (eqActor.f n v9 v10).bind fun r11 => br (!r11.1) (some (false, ())) (ih8 ((w64 (x7.1 + 1)), ()))))) (some (true, ()))) (0, ()))
noncomputable def eqActorS.mng (n : Nat) : Mng := ⟨[.val (.sl tActor), .val (.sl tActor)], [.val .bool], fun x => eqActorS.f n x.1 x.2.1⟩
noncomputable def eqActorS.cfg (n : Nat) : Cfg := ⟨tys2, [(128, eqActor.mng n)], [], []⟩
theorem eqActorS.eq : ∀ (n : Nat) (a0 : List Actor) (a1 : List Actor), runF (eqActorS.cfg n) n Tryz.f64 (annOf Tryz.f64 eqActorS.las) [.val (.sl tActor), .val (.sl tActor)] [.val .bool] (a0, (a1, ())) = eqActorS.f n a0 a1 := by
  intros
  kernel_rfl
theorem eqActorS.gof : GoF Tryz.prog 64 := ⟨_, Tryz.func64, by kernel_rfl, by kernel_rfl⟩
theorem eqActorS.sound (n : Nat) : Sound Tryz.prog 64 (eqActorS.mng n) := runF_sound (fn := Tryz.f64) (m := eqActorS.mng n) (c := eqActorS.cfg n) (regOK mixed (opOK (.of (c := eqActorS.cfg n) ⟨⟨eqActor.sound n, eqActor.gof⟩, trivial⟩) (.of (c := eqActorS.cfg n) trivial)) (tysOK tys2_ok)) (tysOK tys2_ok) Tryz.func64 (fun x => (eqActorS.eq n x.1 x.2.1).symm)

def eqIntSS.las : List (Nat × LA) := [(6, ⟨[(5, .int .i64)], [], [0, 1], []⟩)]
noncomputable def eqIntSS.f (n : Nat) (a0 : List (List Int)) (a1 : List (List Int)) : Option (Bool × Unit) := br (!decide ((a0.length : Int) = (a1.length : Int))) (some (false, ())) (iter (α := (Int × Unit)) n (fun ih6 x5 => br (decide (x5.1 < (a0.length : Int))) (chk (0 ≤ x5.1 ∧ x5.1 < (a0.length : Int)) (chk (0 ≤ x5.1 ∧ x5.1 < (a1.length : Int)) ((eqIntS.f n (a0.getD x5.1.toNat []) (a1.getD x5.1.toNat [])).bind fun r7 => br (!r7.1) (some (false, ())) (ih6 ((w64 (x5.1 + 1)), ()))))) (some (true, ()))) (0, ()))
noncomputable def eqIntSS.mng (n : Nat) : Mng := ⟨[.val (.sl IS), .val (.sl IS)], [.val .bool], fun x => eqIntSS.f n x.1 x.2.1⟩
noncomputable def eqIntSS.cfg (n : Nat) : Cfg := ⟨tys2, [(129, eqIntS.mng n)], [], []⟩
theorem eqIntSS.eq : ∀ (n : Nat) (a0 : List (List Int)) (a1 : List (List Int)), runF (eqIntSS.cfg n) n Tryz.f65 (annOf Tryz.f65 eqIntSS.las) [.val (.sl IS), .val (.sl IS)] [.val .bool] (a0, (a1, ())) = eqIntSS.f n a0 a1 := by
  intros
  kernel_rfl
theorem eqIntSS.gof : GoF Tryz.prog 65 := ⟨_, Tryz.func65, by kernel_rfl, by kernel_rfl⟩
theorem eqIntSS.sound (n : Nat) : Sound Tryz.prog 65 (eqIntSS.mng n) := runF_sound (fn := Tryz.f65) (m := eqIntSS.mng n) (c := eqIntSS.cfg n) (regOK mixed (opOK (.of (c := eqIntSS.cfg n) ⟨⟨eqIntS.sound n, eqIntS.gof⟩, trivial⟩) (.of (c := eqIntSS.cfg n) trivial)) (tysOK tys2_ok)) (tysOK tys2_ok) Tryz.func65 (fun x => (eqIntSS.eq n x.1 x.2.1).symm)

def eqState.las : List (Nat × LA) := []
noncomputable def eqState.f (n : Nat) (a0 : State) (a1 : State) : Option (Bool × Unit) := (eqActorS.f n a0.1 a1.1).bind fun r1 => br (!r1.1) (some (false, ())) ((eqIntSS.f n a0.2.1 a1.2.1).bind fun r2 => br (!r2.1) (some (false, ())) ((eqIntSS.f n a0.2.2.1 a1.2.2.1).bind fun r3 => br (!r3.1) (some (false, ())) (br (!decide (a0.2.2.2 = a1.2.2.2)) (some (false, ())) (some (true, ())))))
noncomputable def eqState.mng (n : Nat) : Mng := ⟨[.val tState, .val tState], [.val .bool], fun x => eqState.f n x.1 x.2.1⟩
noncomputable def eqState.cfg (n : Nat) : Cfg := ⟨tys2, [(64, eqActorS.mng n), (65, eqIntSS.mng n)], [], []⟩
theorem eqState.eq : ∀ (n : Nat) (a0 : State) (a1 : State), runF (eqState.cfg n) n Tryz.f16 (annOf Tryz.f16 eqState.las) [.val tState, .val tState] [.val .bool] (a0, (a1, ())) = eqState.f n a0 a1 := by
  intros
  kernel_rfl
theorem eqState.gof : GoF Tryz.prog 16 := ⟨_, Tryz.func16, by kernel_rfl, by kernel_rfl⟩
theorem eqState.sound (n : Nat) : Sound Tryz.prog 16 (eqState.mng n) := runF_sound (fn := Tryz.f16) (m := eqState.mng n) (c := eqState.cfg n) (regOK mixed (opOK (.of (c := eqState.cfg n) ⟨⟨eqActorS.sound n, eqActorS.gof⟩, ⟨⟨eqIntSS.sound n, eqIntSS.gof⟩, trivial⟩⟩) (.of (c := eqState.cfg n) trivial)) (tysOK tys2_ok)) (tysOK tys2_ok) Tryz.func16 (fun x => (eqState.eq n x.1 x.2.1).symm)
end Go.AmT
