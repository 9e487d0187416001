/- Functions that the law FnCounted reaches, each as a plain Lean function, and that each does what that says. No condition. -/
import Derived.Test.YtgepghodhnmhjaaPCap
namespace Go.AmT
open Go Go.Am Go.Proofs
set_option linter.unusedVariables false
set_option maxRecDepth 100000
abbrev tActor : Ty := (.pair I IS)
abbrev tState : Ty := (.pair (.sl tActor) (.pair (.sl IS) (.pair (.sl IS) I)))
abbrev Actor : Type := Int × List Int
def zActor : Actor := (0, [])
abbrev State : Type := List Actor × (List (List Int) × (List (List Int) × Int))
def tys2 : List (Nat × TInfo) := [(3, ⟨false, 1, 8, [.int .i64 0], .int .i64, 0, some I, [], false⟩),
  (23, ⟨false, 1, 24, [.nil], .slice, 71, some (.sl tProgram), [], false⟩),
  (24, ⟨false, 1, 24, [.nil], .slice, 53, some (.sl tLink), [], false⟩),
  (26, ⟨true, 2, 48, [.nil, .nil], .struct, 0, some tNetwork, [(0, 23), (1, 24)], false⟩),
  (30, ⟨false, 1, 24, [.nil], .slice, 89, some (.sl tActor), [], false⟩),
  (31, ⟨false, 1, 24, [.nil], .slice, 37, some (.sl IS), [], false⟩),
  (33, ⟨true, 4, 80, [.nil, .nil, .nil, .int .i64 0], .struct, 0, some tState, [(0, 30), (1, 31), (2, 31), (3, 3)], false⟩),
  (37, ⟨false, 1, 24, [.nil], .slice, 3, some IS, [], false⟩),
  (53, ⟨true, 5, 56, [.int .i64 0, .int .i64 0, .int .i64 0, .int .i64 0, .nil], .struct, 0, some tLink, [(0, 3), (1, 3), (2, 3), (3, 3), (4, 37)], false⟩),
  (69, ⟨false, 1, 24, [.nil], .slice, 129, some (.sl tInstr), [], false⟩),
  (71, ⟨true, 3, 40, [.int .i64 0, .int .i64 0, .nil], .struct, 0, some tProgram, [(0, 3), (1, 3), (2, 69)], false⟩),
  (89, ⟨true, 2, 32, [.int .i64 0, .nil], .struct, 0, some tActor, [(0, 3), (1, 37)], false⟩)]
theorem tys2_ok : (tys2.all fun p => tokB Try.prog p.1 p.2) = true := by kernel_rfl

def sL2Actor.las : List (Nat × LA) := []
noncomputable def sL2Actor.f (n : Nat) (a0 : Program) (a1 : Actor) : Option (Bool × Unit) := (sL1In.f n a1.1 0 (a0.2.2.length : Int)).bind fun r1 => br r1.1 (br (decide ((a1.2.length : Int) = 4)) ((sIsStream.f n a1.2).bind fun r2 => some (r2.1, ())) (some (false, ()))) (some (false, ()))
noncomputable def sL2Actor.mng (n : Nat) : Mng := ⟨[.val tProgram, .val tActor], [.val .bool], fun x => sL2Actor.f n x.1 x.2.1⟩
noncomputable def sL2Actor.cfg (n : Nat) : Cfg := ⟨tys2, [(58, sL1In.mng n), (85, sIsStream.mng n)], [], []⟩
theorem sL2Actor.eq : ∀ (n : Nat) (a0 : Program) (a1 : Actor), runF (sL2Actor.cfg n) n Try.f84 (annOf Try.f84 sL2Actor.las) [.val tProgram, .val tActor] [.val .bool] (a0, (a1, ())) = sL2Actor.f n a0 a1 := by
  intros
  kernel_rfl
theorem sL2Actor.gof : GoF Try.prog 84 := ⟨_, Try.func84, by kernel_rfl, by kernel_rfl⟩
theorem sL2Actor.sound (n : Nat) : Sound Try.prog 84 (sL2Actor.mng n) := runF_sound (fn := Try.f84) (m := sL2Actor.mng n) (c := sL2Actor.cfg n) (regOK mixed (opOK (.of (c := sL2Actor.cfg n) ⟨⟨sL1In.sound n, sL1In.gof⟩, ⟨⟨sIsStream.sound n, sIsStream.gof⟩, trivial⟩⟩) (.of (c := sL2Actor.cfg n) trivial)) (tysOK tys2_ok)) (tysOK tys2_ok) Try.func84 (fun x => (sL2Actor.eq n x.1 x.2.1).symm)

def sL1Begins.las : List (Nat × LA) := [(6, ⟨[(14, .int .i64)], [], [1, 12, 13], []⟩)]
noncomputable def sL1Begins.f (n : Nat) (a0 : List Int) (a1 : List Int) : Option (Bool × Unit) := br (decide ((a1.length : Int) < (a0.length : Int))) (some (false, ())) (iter (α := (Int × Unit)) n (fun ih6 x5 => br (decide (x5.1 < (a0.length : Int))) (chk (0 ≤ x5.1 ∧ x5.1 < (a0.length : Int)) (chk (0 ≤ x5.1 ∧ x5.1 < (a1.length : Int)) (br (!decide ((a1.getD x5.1.toNat 0) = (a0.getD x5.1.toNat 0))) (some (false, ())) (ih6 ((w64 (x5.1 + 1)), ()))))) (some (true, ()))) (0, ()))
noncomputable def sL1Begins.mng (n : Nat) : Mng := ⟨[.val IS, .val IS], [.val .bool], fun x => sL1Begins.f n x.1 x.2.1⟩
noncomputable def sL1Begins.cfg (n : Nat) : Cfg := ⟨tys2, [], [], []⟩
theorem sL1Begins.eq : ∀ (n : Nat) (a0 : List Int) (a1 : List Int), runF (sL1Begins.cfg n) n Try.f86 (annOf Try.f86 sL1Begins.las) [.val IS, .val IS] [.val .bool] (a0, (a1, ())) = sL1Begins.f n a0 a1 := by
  intros
  kernel_rfl
theorem sL1Begins.gof : GoF Try.prog 86 := ⟨_, Try.func86, by kernel_rfl, by kernel_rfl⟩
theorem sL1Begins.sound (n : Nat) : Sound Try.prog 86 (sL1Begins.mng n) := runF_sound (fn := Try.f86) (m := sL1Begins.mng n) (c := sL1Begins.cfg n) (regOK mixed (opOK (.of (c := sL1Begins.cfg n) trivial) (.of (c := sL1Begins.cfg n) trivial)) (tysOK tys2_ok)) (tysOK tys2_ok) Try.func86 (fun x => (sL1Begins.eq n x.1 x.2.1).symm)

def sL5Ends.las : List (Nat × LA) := []
noncomputable def sL5Ends.f (n : Nat) (a0 : List Int) (a1 : List Int) : Option (Bool × Unit) := br (decide ((a0.length : Int) ≤ (a1.length : Int))) (chk (0 ≤ (w64 ((a1.length : Int) - (a0.length : Int))) ∧ (w64 ((a1.length : Int) - (a0.length : Int))) ≤ (a1.length : Int) ∧ (a1.length : Int) ≤ (a1.length : Int)) ((sL1Begins.f n a0 ((a1.take (a1.length : Int).toNat).drop (w64 ((a1.length : Int) - (a0.length : Int))).toNat)).bind fun r1 => some (r1.1, ()))) (some (false, ()))
noncomputable def sL5Ends.mng (n : Nat) : Mng := ⟨[.val IS, .val IS], [.val .bool], fun x => sL5Ends.f n x.1 x.2.1⟩
noncomputable def sL5Ends.cfg (n : Nat) : Cfg := ⟨tys2, [(86, sL1Begins.mng n)], [], []⟩
theorem sL5Ends.eq : ∀ (n : Nat) (a0 : List Int) (a1 : List Int), runF (sL5Ends.cfg n) n Try.f87 (annOf Try.f87 sL5Ends.las) [.val IS, .val IS] [.val .bool] (a0, (a1, ())) = sL5Ends.f n a0 a1 := by
  intros
  kernel_rfl
theorem sL5Ends.gof : GoF Try.prog 87 := ⟨_, Try.func87, by kernel_rfl, by kernel_rfl⟩
theorem sL5Ends.sound (n : Nat) : Sound Try.prog 87 (sL5Ends.mng n) := runF_sound (fn := Try.f87) (m := sL5Ends.mng n) (c := sL5Ends.cfg n) (regOK mixed (opOK (.of (c := sL5Ends.cfg n) ⟨⟨sL1Begins.sound n, sL1Begins.gof⟩, trivial⟩) (.of (c := sL5Ends.cfg n) trivial)) (tysOK tys2_ok)) (tysOK tys2_ok) Try.func87 (fun x => (sL5Ends.eq n x.1 x.2.1).symm)

def sIsState.las : List (Nat × LA) := [(1, ⟨[(46, .bool)], [], [2, 3], []⟩), (6, ⟨[(50, .int .i64)], [], [2, 3, 48, 49], []⟩), (17, ⟨[(67, .int .i64)], [], [3, 65, 66], []⟩), (24, ⟨[(102, .bool)], [], [3, 8, 9, 10, 65, 66, 67], []⟩)]
noncomputable def sIsState.f (n : Nat) (a0 : Network) (a1 : State) : Option (Bool × Unit) := cut (α := (Bool × Unit)) ((sIsNetwork.f n a0).bind fun r4 => br (!r4.1) (some (.inr (true, ()))) (br (!decide ((a1.1.length : Int) = (a0.1.length : Int))) (some (.inr (true, ()))) (br (!decide ((a1.2.1.length : Int) = (a0.2.length : Int))) (some (.inr (true, ()))) (br (!decide ((a1.2.2.1.length : Int) = (a0.2.length : Int))) (some (.inr (true, ()))) ((sL1In.f n a1.2.2.2 0 20000).bind fun r5 => some (.inr ((!r5.1), ()))))))) fun y3 => br y3.1 (some (false, ())) (iter (α := (Int × Unit)) n (fun ih24 x23 => br (decide (x23.1 < (a1.1.length : Int))) (chk (0 ≤ x23.1 ∧ x23.1 < (a1.1.length : Int)) (let v25 := (a1.1.getD x23.1.toNat zActor); chk (0 ≤ x23.1 ∧ x23.1 < (a0.1.length : Int)) (let v26 := (a0.1.getD x23.1.toNat zProgram); (sL2Actor.f n v26 v25).bind fun r27 => br (!r27.1) (some (false, ())) (ih24 ((w64 (x23.1 + 1)), ()))))) (iter (α := (Int × Unit)) n (fun ih46 x45 => br (decide (x45.1 < (a0.2.length : Int))) (chk (0 ≤ x45.1 ∧ x45.1 < (a0.2.length : Int)) (let v47 := (a0.2.getD x45.1.toNat zLink); chk (0 ≤ x45.1 ∧ x45.1 < (a1.2.1.length : Int)) (let v48 := (a1.2.1.getD x45.1.toNat []); chk (0 ≤ x45.1 ∧ x45.1 < (a1.2.2.1.length : Int)) (let v49 := (a1.2.2.1.getD x45.1.toNat []); cut (α := (Bool × Unit)) ((sIsStream.f n v48).bind fun r55 => br (!r55.1) (some (.inr (true, ()))) ((sIsStream.f n v49).bind fun r56 => br (!r56.1) (some (.inr (true, ()))) ((sL1Begins.f n v47.2.2.2.2 v49).bind fun r57 => br (!r57.1) (some (.inr (true, ()))) ((sL5Ends.f n v48 v49).bind fun r58 => some (.inr ((!r58.1), ())))))) fun y54 => br y54.1 (some (false, ())) (br (decide (v47.1 = (-1))) (br (!decide ((v49.length : Int) = (v47.2.2.2.2.length : Int))) (some (false, ())) (br (decide (v47.2.2.1 = (-1))) (br (!decide ((v49.length : Int) = (v48.length : Int))) (some (false, ())) (ih46 ((w64 (x45.1 + 1)), ()))) (ih46 ((w64 (x45.1 + 1)), ())))) (br (decide (v47.2.2.1 = (-1))) (br (!decide ((v49.length : Int) = (v48.length : Int))) (some (false, ())) (ih46 ((w64 (x45.1 + 1)), ()))) (ih46 ((w64 (x45.1 + 1)), ())))))))) (some (true, ()))) (0, ()))) (0, ()))
noncomputable def sIsState.mng (n : Nat) : Mng := ⟨[.val tNetwork, .val tState], [.val .bool], fun x => sIsState.f n x.1 x.2.1⟩
noncomputable def sIsState.cfg (n : Nat) : Cfg := ⟨tys2, [(45, sIsNetwork.mng n), (58, sL1In.mng n), (84, sL2Actor.mng n), (85, sIsStream.mng n), (86, sL1Begins.mng n), (87, sL5Ends.mng n)], [], []⟩
theorem sIsState.eq : ∀ (n : Nat) (a0 : Network) (a1 : State), runF (sIsState.cfg n) n Try.f31 (annOf Try.f31 sIsState.las) [.val tNetwork, .val tState] [.val .bool] (a0, (a1, ())) = sIsState.f n a0 a1 := by
  intros
  kernel_rfl
theorem sIsState.gof : GoF Try.prog 31 := ⟨_, Try.func31, by kernel_rfl, by kernel_rfl⟩
theorem sIsState.sound (n : Nat) : Sound Try.prog 31 (sIsState.mng n) := runF_sound (fn := Try.f31) (m := sIsState.mng n) (c := sIsState.cfg n) (regOK mixed (opOK (.of (c := sIsState.cfg n) ⟨⟨sIsNetwork.sound n, sIsNetwork.gof⟩, ⟨⟨sL1In.sound n, sL1In.gof⟩, ⟨⟨sL2Actor.sound n, sL2Actor.gof⟩, ⟨⟨sIsStream.sound n, sIsStream.gof⟩, ⟨⟨sL1Begins.sound n, sL1Begins.gof⟩, ⟨⟨sL5Ends.sound n, sL5Ends.gof⟩, trivial⟩⟩⟩⟩⟩⟩) (.of (c := sIsState.cfg n) trivial)) (tysOK tys2_ok)) (tysOK tys2_ok) Try.func31 (fun x => (sIsState.eq n x.1 x.2.1).symm)

def isActor.las : List (Nat × LA) := []
noncomputable def isActor.f (n : Nat) (a0 : Program) (a1 : Actor) : Option (Bool × Unit) := br (decide (0 ≤ a1.1)) (br (decide (a1.1 ≤ (a0.2.2.length : Int))) (br (decide ((a1.2.length : Int) = 4)) ((iIsStream.f n a1.2).bind fun r1 => some (r1.1, ())) (some (false, ()))) (some (false, ()))) (some (false, ()))
noncomputable def isActor.mng (n : Nat) : Mng := ⟨[.val tProgram, .val tActor], [.val .bool], fun x => isActor.f n x.1 x.2.1⟩
noncomputable def isActor.cfg (n : Nat) : Cfg := ⟨tys2, [(126, iIsStream.mng n)], [], []⟩
theorem isActor.eq : ∀ (n : Nat) (a0 : Program) (a1 : Actor), runF (isActor.cfg n) n Try.f131 (annOf Try.f131 isActor.las) [.val tProgram, .val tActor] [.val .bool] (a0, (a1, ())) = isActor.f n a0 a1 := by
  intros
  kernel_rfl
theorem isActor.gof : GoF Try.prog 131 := ⟨_, Try.func131, by kernel_rfl, by kernel_rfl⟩
theorem isActor.sound (n : Nat) : Sound Try.prog 131 (isActor.mng n) := runF_sound (fn := Try.f131) (m := isActor.mng n) (c := isActor.cfg n) (regOK mixed (opOK (.of (c := isActor.cfg n) ⟨⟨iIsStream.sound n, iIsStream.gof⟩, trivial⟩) (.of (c := isActor.cfg n) trivial)) (tysOK tys2_ok)) (tysOK tys2_ok) Try.func131 (fun x => (isActor.eq n x.1 x.2.1).symm)

def equalI.las : List (Nat × LA) := [(6, ⟨[(13, .int .i64)], [], [0, 1, 12], []⟩)]
noncomputable def equalI.f (n : Nat) (a0 : List Int) (a1 : List Int) : Option (Bool × Unit) := br (!decide ((a0.length : Int) = (a1.length : Int))) (some (false, ())) (iter (α := (Int × Unit)) n (fun ih6 x5 => br (decide (x5.1 < (a0.length : Int))) (chk (0 ≤ x5.1 ∧ x5.1 < (a0.length : Int)) (chk (0 ≤ x5.1 ∧ x5.1 < (a1.length : Int)) (br (!decide ((a0.getD x5.1.toNat 0) = (a1.getD x5.1.toNat 0))) (some (false, ())) (ih6 ((w64 (x5.1 + 1)), ()))))) (some (true, ()))) (0, ()))
noncomputable def equalI.mng (n : Nat) : Mng := ⟨[.val IS, .val IS], [.val .bool], fun x => equalI.f n x.1 x.2.1⟩
noncomputable def equalI.cfg (n : Nat) : Cfg := ⟨tys2, [], [], []⟩
theorem equalI.eq : ∀ (n : Nat) (a0 : List Int) (a1 : List Int), runF (equalI.cfg n) n Try.f133 (annOf Try.f133 equalI.las) [.val IS, .val IS] [.val .bool] (a0, (a1, ())) = equalI.f n a0 a1 := by
  intros
  kernel_rfl
theorem equalI.gof : GoF Try.prog 133 := ⟨_, Try.func133, by kernel_rfl, by kernel_rfl⟩
theorem equalI.sound (n : Nat) : Sound Try.prog 133 (equalI.mng n) := runF_sound (fn := Try.f133) (m := equalI.mng n) (c := equalI.cfg n) (regOK mixed (opOK (.of (c := equalI.cfg n) trivial) (.of (c := equalI.cfg n) trivial)) (tysOK tys2_ok)) (tysOK tys2_ok) Try.func133 (fun x => (equalI.eq n x.1 x.2.1).symm)

def iIsPrefix.las : List (Nat × LA) := []
noncomputable def iIsPrefix.f (n : Nat) (a0 : List Int) (a1 : List Int) : Option (Bool × Unit) := (iIsStream.f n a0).bind fun r1 => br r1.1 ((iIsStream.f n a1).bind fun r2 => br r2.1 (br (decide ((a0.length : Int) ≤ (a1.length : Int))) (chk ((0 : Int) ≤ 0 ∧ (0 : Int) ≤ (a0.length : Int) ∧ (a0.length : Int) ≤ (a1.length : Int)) ((equalI.f n a0 ((a1.take (a0.length : Int).toNat).drop 0)).bind fun r3 => some (r3.1, ()))) (some (false, ()))) (some (false, ()))) (some (false, ()))
noncomputable def iIsPrefix.mng (n : Nat) : Mng := ⟨[.val IS, .val IS], [.val .bool], fun x => iIsPrefix.f n x.1 x.2.1⟩
noncomputable def iIsPrefix.cfg (n : Nat) : Cfg := ⟨tys2, [(126, iIsStream.mng n), (133, equalI.mng n)], [], []⟩
theorem iIsPrefix.eq : ∀ (n : Nat) (a0 : List Int) (a1 : List Int), runF (iIsPrefix.cfg n) n Try.f132 (annOf Try.f132 iIsPrefix.las) [.val IS, .val IS] [.val .bool] (a0, (a1, ())) = iIsPrefix.f n a0 a1 := by
  intros
  kernel_rfl
theorem iIsPrefix.gof : GoF Try.prog 132 := ⟨_, Try.func132, by kernel_rfl, by kernel_rfl⟩
theorem iIsPrefix.sound (n : Nat) : Sound Try.prog 132 (iIsPrefix.mng n) := runF_sound (fn := Try.f132) (m := iIsPrefix.mng n) (c := iIsPrefix.cfg n) (regOK mixed (opOK (.of (c := iIsPrefix.cfg n) ⟨⟨iIsStream.sound n, iIsStream.gof⟩, ⟨⟨equalI.sound n, equalI.gof⟩, trivial⟩⟩) (.of (c := iIsPrefix.cfg n) trivial)) (tysOK tys2_ok)) (tysOK tys2_ok) Try.func132 (fun x => (iIsPrefix.eq n x.1 x.2.1).symm)

def iIsState.las : List (Nat × LA) := [(1, ⟨[(50, .bool)], [], [2, 3], []⟩), (6, ⟨[(54, .int .i64)], [], [2, 3, 52, 53], []⟩), (17, ⟨[(71, .int .i64)], [], [3, 69, 70], []⟩), (23, ⟨[(114, .bool)], [], [3, 8, 9, 10, 69, 70, 71], []⟩)]
noncomputable def iIsState.f (n : Nat) (a0 : Network) (a1 : State) : Option (Bool × Unit) := cut (α := (Bool × Unit)) ((iIsNetwork.f n a0).bind fun r3 => br (!r3.1) (some (.inr (true, ()))) (br (!decide ((a1.1.length : Int) = (a0.1.length : Int))) (some (.inr (true, ()))) (br (!decide ((a1.2.1.length : Int) = (a0.2.length : Int))) (some (.inr (true, ()))) (br (!decide ((a1.2.2.1.length : Int) = (a0.2.length : Int))) (some (.inr (true, ()))) (br (decide (a1.2.2.2 < 0)) (some (.inr (true, ()))) (some (.inr ((decide (20000 < a1.2.2.2)), ())))))))) fun y2 => br y2.1 (some (false, ())) (iter (α := (Int × Unit)) n (fun ih22 x21 => br (decide (x21.1 < (a0.1.length : Int))) (chk (0 ≤ x21.1 ∧ x21.1 < (a0.1.length : Int)) (let v23 := (a0.1.getD x21.1.toNat zProgram); chk (0 ≤ x21.1 ∧ x21.1 < (a1.1.length : Int)) (let v24 := (a1.1.getD x21.1.toNat zActor); (isActor.f n v23 v24).bind fun r25 => br (!r25.1) (some (false, ())) (ih22 ((w64 (x21.1 + 1)), ()))))) (iter (α := (Int × Unit)) n (fun ih42 x41 => br (decide (x41.1 < (a0.2.length : Int))) (chk (0 ≤ x41.1 ∧ x41.1 < (a0.2.length : Int)) (let v43 := (a0.2.getD x41.1.toNat zLink); chk (0 ≤ x41.1 ∧ x41.1 < (a1.2.1.length : Int)) (let v44 := (a1.2.1.getD x41.1.toNat []); chk (0 ≤ x41.1 ∧ x41.1 < (a1.2.2.1.length : Int)) (let v45 := (a1.2.2.1.getD x41.1.toNat []); cut (α := (Bool × Unit)) ((iIsStream.f n v44).bind fun r50 => br (!r50.1) (some (.inr (true, ()))) ((iIsPrefix.f n v43.2.2.2.2 v45).bind fun r51 => br (!r51.1) (some (.inr (true, ()))) (br (decide ((v45.length : Int) < (v44.length : Int))) (some (.inr (true, ()))) (chk (0 ≤ (w64 ((v45.length : Int) - (v44.length : Int))) ∧ (w64 ((v45.length : Int) - (v44.length : Int))) ≤ (v45.length : Int) ∧ (v45.length : Int) ≤ (v45.length : Int)) ((equalI.f n v44 ((v45.take (v45.length : Int).toNat).drop (w64 ((v45.length : Int) - (v44.length : Int))).toNat)).bind fun r52 => some (.inr ((!r52.1), ()))))))) fun y49 => br y49.1 (some (false, ())) (br (decide (v43.1 = (-1))) (br (!decide ((v45.length : Int) = (v43.2.2.2.2.length : Int))) (some (false, ())) (br (decide (v43.2.2.1 = (-1))) (br (!decide ((v44.length : Int) = (v45.length : Int))) (some (false, ())) (ih42 ((w64 (x41.1 + 1)), ()))) (ih42 ((w64 (x41.1 + 1)), ())))) (br (decide (v43.2.2.1 = (-1))) (br (!decide ((v44.length : Int) = (v45.length : Int))) (some (false, ())) (ih42 ((w64 (x41.1 + 1)), ()))) (ih42 ((w64 (x41.1 + 1)), ())))))))) (some (true, ()))) (0, ()))) (0, ()))
noncomputable def iIsState.mng (n : Nat) : Mng := ⟨[.val tNetwork, .val tState], [.val .bool], fun x => iIsState.f n x.1 x.2.1⟩
noncomputable def iIsState.cfg (n : Nat) : Cfg := ⟨tys2, [(57, iIsNetwork.mng n), (131, isActor.mng n), (126, iIsStream.mng n), (132, iIsPrefix.mng n), (133, equalI.mng n)], [], []⟩
theorem iIsState.eq : ∀ (n : Nat) (a0 : Network) (a1 : State), runF (iIsState.cfg n) n Try.f68 (annOf Try.f68 iIsState.las) [.val tNetwork, .val tState] [.val .bool] (a0, (a1, ())) = iIsState.f n a0 a1 := by
  intros
  kernel_rfl
theorem iIsState.gof : GoF Try.prog 68 := ⟨_, Try.func68, by kernel_rfl, by kernel_rfl⟩
theorem iIsState.sound (n : Nat) : Sound Try.prog 68 (iIsState.mng n) := runF_sound (fn := Try.f68) (m := iIsState.mng n) (c := iIsState.cfg n) (regOK mixed (opOK (.of (c := iIsState.cfg n) ⟨⟨iIsNetwork.sound n, iIsNetwork.gof⟩, ⟨⟨isActor.sound n, isActor.gof⟩, ⟨⟨iIsStream.sound n, iIsStream.gof⟩, ⟨⟨iIsPrefix.sound n, iIsPrefix.gof⟩, ⟨⟨equalI.sound n, equalI.gof⟩, trivial⟩⟩⟩⟩⟩) (.of (c := iIsState.cfg n) trivial)) (tysOK tys2_ok)) (tysOK tys2_ok) Try.func68 (fun x => (iIsState.eq n x.1 x.2.1).symm)
end Go.AmT
