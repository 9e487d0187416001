/- Functions that the law FnAcyclic reaches, each as a plain Lean function, and that each does what that says. No condition. -/
import Derived.Test.YtfcehikkpoeebaaGreatPCap
namespace Go.AmT
open Go Go.Am Go.Proofs
set_option linter.unusedVariables false
set_option maxRecDepth 100000
abbrev tActor : Ty := (.pair I IS)
abbrev tState : Ty := (.pair (.sl tActor) (.pair (.sl IS) (.pair (.sl IS) I)))
abbrev Actor : Type := Int × List Int
def zActor : Actor := (0, [])
abbrev State : Type := List Actor × (List (List Int) × (List (List Int) × Int))
def tys2 : List (Nat × TInfo) := [(3, ⟨false, 1, 8, [.int .i64 0], .int .i64, 0, some I, [], false⟩),
  (23, ⟨false, 1, 24, [.nil], .slice, 35, some (.sl tProgram), [], false⟩),
  (24, ⟨false, 1, 24, [.nil], .slice, 59, some (.sl tLink), [], false⟩),
  (26, ⟨true, 2, 48, [.nil, .nil], .struct, 0, some tNetwork, [(0, 23), (1, 24)], false⟩),
  (29, ⟨false, 1, 24, [.nil], .slice, 40, some (.sl IS), [], false⟩),
  (33, ⟨false, 1, 24, [.nil], .slice, 98, some (.sl tInstr), [], false⟩),
  (35, ⟨true, 3, 40, [.int .i64 0, .int .i64 0, .nil], .struct, 0, some tProgram, [(0, 3), (1, 3), (2, 33)], false⟩),
  (40, ⟨false, 1, 24, [.nil], .slice, 3, some IS, [], false⟩),
  (43, ⟨false, 1, 24, [.nil], .slice, 76, some (.sl tActor), [], false⟩),
  (45, ⟨true, 4, 80, [.nil, .nil, .nil, .int .i64 0], .struct, 0, some tState, [(0, 43), (1, 29), (2, 29), (3, 3)], false⟩),
  (59, ⟨true, 5, 56, [.int .i64 0, .int .i64 0, .int .i64 0, .int .i64 0, .nil], .struct, 0, some tLink, [(0, 3), (1, 3), (2, 3), (3, 3), (4, 40)], false⟩),
  (76, ⟨true, 2, 32, [.int .i64 0, .nil], .struct, 0, some tActor, [(0, 3), (1, 40)], false⟩)]
theorem tys2_ok : (tys2.all fun p => tokB Tryz.prog p.1 p.2) = true := by kernel_rfl

def sL1Begins.las : List (Nat × LA) := [(6, ⟨[(14, .int .i64)], [], [1, 12, 13], []⟩)]
noncomputable def sL1Begins.f (n : Nat) (a0 : List Int) (a1 : List Int) : Option (Bool × Unit) := br (decide ((a1.length : Int) < (a0.length : Int))) (some (false, ())) (iter (α := (Int × Unit)) n (fun ih6 x5 => br (decide (x5.1 < (a0.length : Int))) (chk (0 ≤ x5.1 ∧ x5.1 < (a0.length : Int)) (chk (0 ≤ x5.1 ∧ x5.1 < (a1.length : Int)) (br (!decide ((a1.getD x5.1.toNat 0) = (a0.getD x5.1.toNat 0))) (some (false, ())) (ih6 ((w64 (x5.1 + 1)), ()))))) (some (true, ()))) (0, ()))
noncomputable def sL1Begins.mng (n : Nat) : Mng := ⟨[.val IS, .val IS], [.val .bool], fun x => sL1Begins.f n x.1 x.2.1⟩
noncomputable def sL1Begins.cfg (n : Nat) : Cfg := ⟨tys2, [], [], []⟩
theorem sL1Begins.eq : ∀ (n : Nat) (a0 : List Int) (a1 : List Int), runF (sL1Begins.cfg n) n Tryz.f59 (annOf Tryz.f59 sL1Begins.las) [.val IS, .val IS] [.val .bool] (a0, (a1, ())) = sL1Begins.f n a0 a1 := by
  intros
  kernel_rfl
theorem sL1Begins.gof : GoF Tryz.prog 59 := ⟨_, Tryz.func59, by kernel_rfl, by kernel_rfl⟩
theorem sL1Begins.sound (n : Nat) : Sound Tryz.prog 59 (sL1Begins.mng n) := runF_sound (fn := Tryz.f59) (m := sL1Begins.mng n) (c := sL1Begins.cfg n) (regOK mixed (opOK (.of (c := sL1Begins.cfg n) trivial) (.of (c := sL1Begins.cfg n) trivial)) (tysOK tys2_ok)) (tysOK tys2_ok) Tryz.func59 (fun x => (sL1Begins.eq n x.1 x.2.1).symm)

def isActor.las : List (Nat × LA) := []
noncomputable def isActor.f (n : Nat) (a0 : Program) (a1 : Actor) : Option (Bool × Unit) := br (decide (0 ≤ a1.1)) (br (decide (a1.1 ≤ (a0.2.2.length : Int))) (br (decide ((a1.2.length : Int) = 4)) ((iIsStream.f n a1.2).bind fun r1 => some (r1.1, ())) (some (false, ()))) (some (false, ()))) (some (false, ()))
noncomputable def isActor.mng (n : Nat) : Mng := ⟨[.val tProgram, .val tActor], [.val .bool], fun x => isActor.f n x.1 x.2.1⟩
noncomputable def isActor.cfg (n : Nat) : Cfg := ⟨tys2, [(46, iIsStream.mng n)], [], []⟩
theorem isActor.eq : ∀ (n : Nat) (a0 : Program) (a1 : Actor), runF (isActor.cfg n) n Tryz.f87 (annOf Tryz.f87 isActor.las) [.val tProgram, .val tActor] [.val .bool] (a0, (a1, ())) = isActor.f n a0 a1 := by
  intros
  kernel_rfl
theorem isActor.gof : GoF Tryz.prog 87 := ⟨_, Tryz.func87, by kernel_rfl, by kernel_rfl⟩
theorem isActor.sound (n : Nat) : Sound Tryz.prog 87 (isActor.mng n) := runF_sound (fn := Tryz.f87) (m := isActor.mng n) (c := isActor.cfg n) (regOK mixed (opOK (.of (c := isActor.cfg n) ⟨⟨iIsStream.sound n, iIsStream.gof⟩, trivial⟩) (.of (c := isActor.cfg n) trivial)) (tysOK tys2_ok)) (tysOK tys2_ok) Tryz.func87 (fun x => (isActor.eq n x.1 x.2.1).symm)

def equalI.las : List (Nat × LA) := [(6, ⟨[(13, .int .i64)], [], [0, 1, 12], []⟩)]
noncomputable def equalI.f (n : Nat) (a0 : List Int) (a1 : List Int) : Option (Bool × Unit) := br (!decide ((a0.length : Int) = (a1.length : Int))) (some (false, ())) (iter (α := (Int × Unit)) n (fun ih6 x5 => br (decide (x5.1 < (a0.length : Int))) (chk (0 ≤ x5.1 ∧ x5.1 < (a0.length : Int)) (chk (0 ≤ x5.1 ∧ x5.1 < (a1.length : Int)) (br (!decide ((a0.getD x5.1.toNat 0) = (a1.getD x5.1.toNat 0))) (some (false, ())) (ih6 ((w64 (x5.1 + 1)), ()))))) (some (true, ()))) (0, ()))
noncomputable def equalI.mng (n : Nat) : Mng := ⟨[.val IS, .val IS], [.val .bool], fun x => equalI.f n x.1 x.2.1⟩
noncomputable def equalI.cfg (n : Nat) : Cfg := ⟨tys2, [], [], []⟩
theorem equalI.eq : ∀ (n : Nat) (a0 : List Int) (a1 : List Int), runF (equalI.cfg n) n Tryz.f50 (annOf Tryz.f50 equalI.las) [.val IS, .val IS] [.val .bool] (a0, (a1, ())) = equalI.f n a0 a1 := by
  intros
  kernel_rfl
theorem equalI.gof : GoF Tryz.prog 50 := ⟨_, Tryz.func50, by kernel_rfl, by kernel_rfl⟩
theorem equalI.sound (n : Nat) : Sound Tryz.prog 50 (equalI.mng n) := runF_sound (fn := Tryz.f50) (m := equalI.mng n) (c := equalI.cfg n) (regOK mixed (opOK (.of (c := equalI.cfg n) trivial) (.of (c := equalI.cfg n) trivial)) (tysOK tys2_ok)) (tysOK tys2_ok) Tryz.func50 (fun x => (equalI.eq n x.1 x.2.1).symm)

def iIsPrefix.las : List (Nat × LA) := []
noncomputable def iIsPrefix.f (n : Nat) (a0 : List Int) (a1 : List Int) : Option (Bool × Unit) := (iIsStream.f n a0).bind fun r1 => br r1.1 ((iIsStream.f n a1).bind fun r2 => br r2.1 (br (decide ((a0.length : Int) ≤ (a1.length : Int))) (chk ((0 : Int) ≤ 0 ∧ (0 : Int) ≤ (a0.length : Int) ∧ (a0.length : Int) ≤ (a1.length : Int)) ((equalI.f n a0 ((a1.take (a0.length : Int).toNat).drop 0)).bind fun r3 => some (r3.1, ()))) (some (false, ()))) (some (false, ()))) (some (false, ()))
noncomputable def iIsPrefix.mng (n : Nat) : Mng := ⟨[.val IS, .val IS], [.val .bool], fun x => iIsPrefix.f n x.1 x.2.1⟩
noncomputable def iIsPrefix.cfg (n : Nat) : Cfg := ⟨tys2, [(46, iIsStream.mng n), (50, equalI.mng n)], [], []⟩
theorem iIsPrefix.eq : ∀ (n : Nat) (a0 : List Int) (a1 : List Int), runF (iIsPrefix.cfg n) n Tryz.f88 (annOf Tryz.f88 iIsPrefix.las) [.val IS, .val IS] [.val .bool] (a0, (a1, ())) = iIsPrefix.f n a0 a1 := by
  intros
  kernel_rfl
theorem iIsPrefix.gof : GoF Tryz.prog 88 := ⟨_, Tryz.func88, by kernel_rfl, by kernel_rfl⟩
theorem iIsPrefix.sound (n : Nat) : Sound Tryz.prog 88 (iIsPrefix.mng n) := runF_sound (fn := Tryz.f88) (m := iIsPrefix.mng n) (c := iIsPrefix.cfg n) (regOK mixed (opOK (.of (c := iIsPrefix.cfg n) ⟨⟨iIsStream.sound n, iIsStream.gof⟩, ⟨⟨equalI.sound n, equalI.gof⟩, trivial⟩⟩) (.of (c := iIsPrefix.cfg n) trivial)) (tysOK tys2_ok)) (tysOK tys2_ok) Tryz.func88 (fun x => (iIsPrefix.eq n x.1 x.2.1).symm)

def iIsState.las : List (Nat × LA) := [(1, ⟨[(50, .bool)], [], [2, 3], []⟩), (6, ⟨[(54, .int .i64)], [], [2, 3, 52, 53], []⟩), (17, ⟨[(71, .int .i64)], [], [3, 69, 70], []⟩), (23, ⟨[(114, .bool)], [], [3, 8, 9, 10, 69, 70, 71], []⟩)]
noncomputable def iIsState.f (n : Nat) (a0 : Network) (a1 : State) : Option (Bool × Unit) := cut (α := (Bool × Unit)) ((iIsNetwork.f n a0).bind fun r3 => br (!r3.1) (some (.inr (true, ()))) (br (!decide ((a1.1.length : Int) = (a0.1.length : Int))) (some (.inr (true, ()))) (br (!decide ((a1.2.1.length : Int) = (a0.2.length : Int))) (some (.inr (true, ()))) (br (!decide ((a1.2.2.1.length : Int) = (a0.2.length : Int))) (some (.inr (true, ()))) (br (decide (a1.2.2.2 < 0)) (some (.inr (true, ()))) (some (.inr ((decide (20000 < a1.2.2.2)), ())))))))) fun y2 => br y2.1 (some (false, ())) (iter (α := (Int × Unit)) n (fun ih22 x21 => br (decide (x21.1 < (a0.1.length : Int))) (chk (0 ≤ x21.1 ∧ x21.1 < (a0.1.length : Int)) (let v23 := (a0.1.getD x21.1.toNat zProgram); chk (0 ≤ x21.1 ∧ x21.1 < (a1.1.length : Int)) (let v24 := (a1.1.getD x21.1.toNat zActor); (isActor.f n v23 v24).bind fun r25 => br (!r25.1) (some (false, ())) (ih22 ((w64 (x21.1 + 1)), ()))))) (iter (α := (Int × Unit)) n (fun ih42 x41 => br (decide (x41.1 < (a0.2.length : Int))) (chk (0 ≤ x41.1 ∧ x41.1 < (a0.2.length : Int)) (let v43 := (a0.2.getD x41.1.toNat zLink); chk (0 ≤ x41.1 ∧ x41.1 < (a1.2.1.length : Int)) (let v44 := (a1.2.1.getD x41.1.toNat []); chk (0 ≤ x41.1 ∧ x41.1 < (a1.2.2.1.length : Int)) (let v45 := (a1.2.2.1.getD x41.1.toNat []); cut (α := (Bool × Unit)) ((iIsStream.f n v44).bind fun r50 => br (!r50.1) (some (.inr (true, ()))) ((iIsPrefix.f n v43.2.2.2.2 v45).bind fun r51 => br (!r51.1) (some (.inr (true, ()))) (br (decide ((v45.length : Int) < (v44.length : Int))) (some (.inr (true, ()))) (chk (0 ≤ (w64 ((v45.length : Int) - (v44.length : Int))) ∧ (w64 ((v45.length : Int) - (v44.length : Int))) ≤ (v45.length : Int) ∧ (v45.length : Int) ≤ (v45.length : Int)) ((equalI.f n v44 ((v45.take (v45.length : Int).toNat).drop (w64 ((v45.length : Int) - (v44.length : Int))).toNat)).bind fun r52 => some (.inr ((!r52.1), ()))))))) fun y49 => br y49.1 (some (false, ())) (br (decide (v43.1 = (-1))) (br (!decide ((v45.length : Int) = (v43.2.2.2.2.length : Int))) (some (false, ())) (br (decide (v43.2.2.1 = (-1))) (br (!decide ((v44.length : Int) = (v45.length : Int))) (some (false, ())) (ih42 ((w64 (x41.1 + 1)), ()))) (ih42 ((w64 (x41.1 + 1)), ())))) (br (decide (v43.2.2.1 = (-1))) (br (!decide ((v44.length : Int) = (v45.length : Int))) (some (false, ())) (ih42 ((w64 (x41.1 + 1)), ()))) (ih42 ((w64 (x41.1 + 1)), ())))))))) (some (true, ()))) (0, ()))) (0, ()))
noncomputable def iIsState.mng (n : Nat) : Mng := ⟨[.val tNetwork, .val tState], [.val .bool], fun x => iIsState.f n x.1 x.2.1⟩
noncomputable def iIsState.cfg (n : Nat) : Cfg := ⟨tys2, [(21, iIsNetwork.mng n), (87, isActor.mng n), (46, iIsStream.mng n), (88, iIsPrefix.mng n), (50, equalI.mng n)], [], []⟩
theorem iIsState.eq : ∀ (n : Nat) (a0 : Network) (a1 : State), runF (iIsState.cfg n) n Tryz.f62 (annOf Tryz.f62 iIsState.las) [.val tNetwork, .val tState] [.val .bool] (a0, (a1, ())) = iIsState.f n a0 a1 := by
  intros
  kernel_rfl
theorem iIsState.gof : GoF Tryz.prog 62 := ⟨_, Tryz.func62, by kernel_rfl, by kernel_rfl⟩
theorem iIsState.sound (n : Nat) : Sound Tryz.prog 62 (iIsState.mng n) := runF_sound (fn := Tryz.f62) (m := iIsState.mng n) (c := iIsState.cfg n) (regOK mixed (opOK (.of (c := iIsState.cfg n) ⟨⟨iIsNetwork.sound n, iIsNetwork.gof⟩, ⟨⟨isActor.sound n, isActor.gof⟩, ⟨⟨iIsStream.sound n, iIsStream.gof⟩, ⟨⟨iIsPrefix.sound n, iIsPrefix.gof⟩, ⟨⟨equalI.sound n, equalI.gof⟩, trivial⟩⟩⟩⟩⟩) (.of (c := iIsState.cfg n) trivial)) (tysOK tys2_ok)) (tysOK tys2_ok) Tryz.func62 (fun x => (iIsState.eq n x.1 x.2.1).symm)
end Go.AmT
