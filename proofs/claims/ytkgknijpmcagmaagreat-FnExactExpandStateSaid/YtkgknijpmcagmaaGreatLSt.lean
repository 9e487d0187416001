/- Functions that the law FnExactExpandState reaches, each as a plain Lean function, and that each does what that says. No condition. -/
import Derived.Test.YtkgknijpmcagmaaGreatPCap
namespace Go.AmT
open Go Go.Am Go.Proofs
set_option linter.unusedVariables false
set_option maxRecDepth 100000
abbrev tActor : Ty := (.pair I IS)
abbrev tState : Ty := (.pair (.sl tActor) (.pair (.sl IS) (.pair (.sl IS) I)))
abbrev Actor : Type := Int × List Int
def zActor : Actor := (0, [])
abbrev State : Type := List Actor × (List (List Int) × (List (List Int) × Int))
def tys2 : List (Nat × TInfo) := [(3, ⟨false, 1, 8, [.int .i64 0], .int .i64, 0, some I, [], false⟩),
  (26, ⟨false, 1, 24, [.nil], .slice, 139, some (.sl tActor), [], false⟩),
  (27, ⟨false, 1, 24, [.nil], .slice, 75, some (.sl IS), [], false⟩),
  (29, ⟨true, 4, 80, [.nil, .nil, .nil, .int .i64 0], .struct, 0, some tState, [(0, 26), (1, 27), (2, 27), (3, 3)], false⟩),
  (32, ⟨false, 1, 24, [.nil], .slice, 77, some (.sl tActor), [], false⟩),
  (34, ⟨true, 4, 80, [.nil, .nil, .nil, .int .i64 0], .struct, 0, some tState, [(0, 32), (1, 27), (2, 27), (3, 3)], false⟩),
  (37, ⟨false, 1, 24, [.nil], .slice, 53, some (.sl tProgram), [], false⟩),
  (38, ⟨false, 1, 24, [.nil], .slice, 81, some (.sl tLink), [], false⟩),
  (40, ⟨true, 2, 48, [.nil, .nil], .struct, 0, some tNetwork, [(0, 37), (1, 38)], false⟩),
  (51, ⟨false, 1, 24, [.nil], .slice, 103, some (.sl tInstr), [], false⟩),
  (53, ⟨true, 3, 40, [.int .i64 0, .int .i64 0, .nil], .struct, 0, some tProgram, [(0, 3), (1, 3), (2, 51)], false⟩),
  (75, ⟨false, 1, 24, [.nil], .slice, 3, some IS, [], false⟩),
  (77, ⟨true, 2, 32, [.int .i64 0, .nil], .struct, 0, some tActor, [(0, 3), (1, 75)], false⟩),
  (81, ⟨true, 5, 56, [.int .i64 0, .int .i64 0, .int .i64 0, .int .i64 0, .nil], .struct, 0, some tLink, [(0, 3), (1, 3), (2, 3), (3, 3), (4, 75)], false⟩),
  (139, ⟨true, 2, 32, [.int .i64 0, .nil], .struct, 0, some tActor, [(0, 3), (1, 75)], false⟩)]
theorem tys2_ok : (tys2.all fun p => tokB Tryz.prog p.1 p.2) = true := by kernel_rfl

def szActor.las : List (Nat × LA) := []
noncomputable def szActor.f (n : Nat) (a0 : Actor) (a1 : Int) : Option (Int × Unit) := (szIntS.f n a0.2 a1).bind fun r1 => br (decide (r1.1 < 0)) (some ((-1), ())) (some (r1.1, ()))
noncomputable def szActor.mng (n : Nat) : Mng := ⟨[.val tActor, .val I], [.val I], fun x => szActor.f n x.1 x.2.1⟩
noncomputable def szActor.cfg (n : Nat) : Cfg := ⟨tys2, [(102, szIntS.mng n)], [], []⟩
theorem szActor.eq : ∀ (n : Nat) (a0 : Actor) (a1 : Int), runF (szActor.cfg n) n Tryz.f101 (annOf Tryz.f101 szActor.las) [.val tActor, .val I] [.val I] (a0, (a1, ())) = szActor.f n a0 a1 := by
  intros
  kernel_rfl
theorem szActor.gof : GoF Tryz.prog 101 := ⟨_, Tryz.func101, by kernel_rfl, by kernel_rfl⟩
theorem szActor.sound (n : Nat) : Sound Tryz.prog 101 (szActor.mng n) := runF_sound (fn := Tryz.f101) (m := szActor.mng n) (c := szActor.cfg n) (regOK mixed (opOK (.of (c := szActor.cfg n) ⟨⟨szIntS.sound n, szIntS.gof⟩, trivial⟩) (.of (c := szActor.cfg n) trivial)) (tysOK tys2_ok)) (tysOK tys2_ok) Tryz.func101 (fun x => (szActor.eq n x.1 x.2.1).symm)

def szActorS.las : List (Nat × LA) := [(7, ⟨[(1, .int .i64), (5, .int .i64)], [], [0], []⟩)]
noncomputable def szActorS.f (n : Nat) (a0 : List Actor) (a1 : Int) : Option (Int × Unit) := br (decide ((w64 (a1 - (a0.length : Int))) < 0)) (some ((-1), ())) (iter (α := (Int × (Int × Unit))) n (fun ih7 x6 => br (decide (x6.2.1 < (a0.length : Int))) (chk (0 ≤ x6.2.1 ∧ x6.2.1 < (a0.length : Int)) (let v8 := (a0.getD x6.2.1.toNat zActor); (szActor.f n v8 x6.1).bind fun r9 => br (decide (r9.1 < 0)) (some ((-1), ())) (ih7 (r9.1, ((w64 (x6.2.1 + 1)), ()))))) (some (x6.1, ()))) ((w64 (a1 - (a0.length : Int))), (0, ())))
noncomputable def szActorS.mng (n : Nat) : Mng := ⟨[.val (.sl tActor), .val I], [.val I], fun x => szActorS.f n x.1 x.2.1⟩
noncomputable def szActorS.cfg (n : Nat) : Cfg := ⟨tys2, [(101, szActor.mng n)], [], []⟩
theorem szActorS.eq : ∀ (n : Nat) (a0 : List Actor) (a1 : Int), runF (szActorS.cfg n) n Tryz.f33 (annOf Tryz.f33 szActorS.las) [.val (.sl tActor), .val I] [.val I] (a0, (a1, ())) = szActorS.f n a0 a1 := by
  intros
  kernel_rfl
theorem szActorS.gof : GoF Tryz.prog 33 := ⟨_, Tryz.func33, by kernel_rfl, by kernel_rfl⟩
theorem szActorS.sound (n : Nat) : Sound Tryz.prog 33 (szActorS.mng n) := runF_sound (fn := Tryz.f33) (m := szActorS.mng n) (c := szActorS.cfg n) (regOK mixed (opOK (.of (c := szActorS.cfg n) ⟨⟨szActor.sound n, szActor.gof⟩, trivial⟩) (.of (c := szActorS.cfg n) trivial)) (tysOK tys2_ok)) (tysOK tys2_ok) Tryz.func33 (fun x => (szActorS.eq n x.1 x.2.1).symm)

def szIntSS.las : List (Nat × LA) := [(7, ⟨[(1, .int .i64), (5, .int .i64)], [], [0], []⟩)]
noncomputable def szIntSS.f (n : Nat) (a0 : List (List Int)) (a1 : Int) : Option (Int × Unit) := br (decide ((w64 (a1 - (a0.length : Int))) < 0)) (some ((-1), ())) (iter (α := (Int × (Int × Unit))) n (fun ih6 x5 => br (decide (x5.2.1 < (a0.length : Int))) (chk (0 ≤ x5.2.1 ∧ x5.2.1 < (a0.length : Int)) (let v7 := (a0.getD x5.2.1.toNat []); (szIntS.f n v7 x5.1).bind fun r8 => br (decide (r8.1 < 0)) (some ((-1), ())) (ih6 (r8.1, ((w64 (x5.2.1 + 1)), ()))))) (some (x5.1, ()))) ((w64 (a1 - (a0.length : Int))), (0, ())))
noncomputable def szIntSS.mng (n : Nat) : Mng := ⟨[.val (.sl IS), .val I], [.val I], fun x => szIntSS.f n x.1 x.2.1⟩
noncomputable def szIntSS.cfg (n : Nat) : Cfg := ⟨tys2, [(102, szIntS.mng n)], [], []⟩
theorem szIntSS.eq : ∀ (n : Nat) (a0 : List (List Int)) (a1 : Int), runF (szIntSS.cfg n) n Tryz.f34 (annOf Tryz.f34 szIntSS.las) [.val (.sl IS), .val I] [.val I] (a0, (a1, ())) = szIntSS.f n a0 a1 := by
  intros
  kernel_rfl
theorem szIntSS.gof : GoF Tryz.prog 34 := ⟨_, Tryz.func34, by kernel_rfl, by kernel_rfl⟩
theorem szIntSS.sound (n : Nat) : Sound Tryz.prog 34 (szIntSS.mng n) := runF_sound (fn := Tryz.f34) (m := szIntSS.mng n) (c := szIntSS.cfg n) (regOK mixed (opOK (.of (c := szIntSS.cfg n) ⟨⟨szIntS.sound n, szIntS.gof⟩, trivial⟩) (.of (c := szIntSS.cfg n) trivial)) (tysOK tys2_ok)) (tysOK tys2_ok) Tryz.func34 (fun x => (szIntSS.eq n x.1 x.2.1).symm)

def szState.las : List (Nat × LA) := []
noncomputable def szState.f (n : Nat) (a0 : State) (a1 : Int) : Option (Int × Unit) := (szActorS.f n a0.1 a1).bind fun r1 => br (decide (r1.1 < 0)) (some ((-1), ())) ((szIntSS.f n a0.2.1 r1.1).bind fun r2 => br (decide (r2.1 < 0)) (some ((-1), ())) ((szIntSS.f n a0.2.2.1 r2.1).bind fun r3 => br (decide (r3.1 < 0)) (some ((-1), ())) (some (r3.1, ()))))
noncomputable def szState.mng (n : Nat) : Mng := ⟨[.val tState, .val I], [.val I], fun x => szState.f n x.1 x.2.1⟩
noncomputable def szState.cfg (n : Nat) : Cfg := ⟨tys2, [(33, szActorS.mng n), (34, szIntSS.mng n)], [], []⟩
theorem szState.eq : ∀ (n : Nat) (a0 : State) (a1 : Int), runF (szState.cfg n) n Tryz.f6 (annOf Tryz.f6 szState.las) [.val tState, .val I] [.val I] (a0, (a1, ())) = szState.f n a0 a1 := by
  intros
  kernel_rfl
theorem szState.gof : GoF Tryz.prog 6 := ⟨_, Tryz.func6, by kernel_rfl, by kernel_rfl⟩
theorem szState.sound (n : Nat) : Sound Tryz.prog 6 (szState.mng n) := runF_sound (fn := Tryz.f6) (m := szState.mng n) (c := szState.cfg n) (regOK mixed (opOK (.of (c := szState.cfg n) ⟨⟨szActorS.sound n, szActorS.gof⟩, ⟨⟨szIntSS.sound n, szIntSS.gof⟩, trivial⟩⟩) (.of (c := szState.cfg n) trivial)) (tysOK tys2_ok)) (tysOK tys2_ok) Tryz.func6 (fun x => (szState.eq n x.1 x.2.1).symm)

def toActor.las : List (Nat × LA) := []
noncomputable def toActor.f (n : Nat) (a0 : Actor) : Option (Actor × Unit) := (toIntS.f n a0.2).bind fun r1 => some ((a0.1, r1.1), ())
noncomputable def toActor.mng (n : Nat) : Mng := ⟨[.val tActor], [.val tActor], fun x => toActor.f n x.1⟩
noncomputable def toActor.cfg (n : Nat) : Cfg := ⟨tys2, [(111, toIntS.mng n)], [], []⟩
theorem toActor.eq : ∀ (n : Nat) (a0 : Actor), runF (toActor.cfg n) n Tryz.f110 (annOf Tryz.f110 toActor.las) [.val tActor] [.val tActor] (a0, ()) = toActor.f n a0 := by
  intros
  kernel_rfl
theorem toActor.gof : GoF Tryz.prog 110 := ⟨_, Tryz.func110, by kernel_rfl, by kernel_rfl⟩
theorem toActor.sound (n : Nat) : Sound Tryz.prog 110 (toActor.mng n) := runF_sound (fn := Tryz.f110) (m := toActor.mng n) (c := toActor.cfg n) (regOK mixed (opOK (.of (c := toActor.cfg n) ⟨⟨toIntS.sound n, toIntS.gof⟩, trivial⟩) (.of (c := toActor.cfg n) trivial)) (tysOK tys2_ok)) (tysOK tys2_ok) Tryz.func110 (fun x => (toActor.eq n x.1).symm)

def toActorS.las : List (Nat × LA) := [(4, ⟨[(3, .own 1000 tActor), (4, .int .i64)], [(1000, .row true tActor)], [0], []⟩)]
noncomputable def toActorS.f (n : Nat) (a0 : List Actor) : Option ((List Actor) × Unit) := chk ((a0.length : Int) = (a0.length : Int) ∧ 0 ≤ (a0.length : Int) ∧ (a0.length : Int) * (32 : Int) ≤ (maxB : Int)) (iter (α := (Int × (List Actor) × Unit)) n (fun ih7 x6 => br (decide (x6.1 < (a0.length : Int))) (chk (0 ≤ x6.1 ∧ x6.1 < (a0.length : Int)) (let v8 := (a0.getD x6.1.toNat zActor); (toActor.f n v8).bind fun r9 => chk (0 ≤ x6.1 ∧ x6.1 < (x6.2.1.length : Int)) (let v10 := (x6.2.1.set x6.1.toNat r9.1); ih7 ((w64 (x6.1 + 1)), (v10, ()))))) (some (x6.2.1, ()))) (0, ((List.replicate (a0.length : Int).toNat ((0, []) : Actor)), ())))
noncomputable def toActorS.mng (n : Nat) : Mng := ⟨[.val (.sl tActor)], [.val (.sl tActor)], fun x => toActorS.f n x.1⟩
noncomputable def toActorS.cfg (n : Nat) : Cfg := ⟨tys2, [(110, toActor.mng n)], [], []⟩
theorem toActorS.eq : ∀ (n : Nat) (a0 : List Actor), runF (toActorS.cfg n) n Tryz.f42 (annOf Tryz.f42 toActorS.las) [.val (.sl tActor)] [.val (.sl tActor)] (a0, ()) = toActorS.f n a0 := by
  intros
  kernel_rfl
theorem toActorS.gof : GoF Tryz.prog 42 := ⟨_, Tryz.func42, by kernel_rfl, by kernel_rfl⟩
theorem toActorS.sound (n : Nat) : Sound Tryz.prog 42 (toActorS.mng n) := runF_sound (fn := Tryz.f42) (m := toActorS.mng n) (c := toActorS.cfg n) (regOK mixed (opOK (.of (c := toActorS.cfg n) ⟨⟨toActor.sound n, toActor.gof⟩, trivial⟩) (.of (c := toActorS.cfg n) trivial)) (tysOK tys2_ok)) (tysOK tys2_ok) Tryz.func42 (fun x => (toActorS.eq n x.1).symm)

def toIntSS.las : List (Nat × LA) := [(4, ⟨[(3, .own 1000 IS), (4, .int .i64)], [(1000, .row true IS)], [0], []⟩)]
noncomputable def toIntSS.f (n : Nat) (a0 : List (List Int)) : Option ((List (List Int)) × Unit) := chk ((a0.length : Int) = (a0.length : Int) ∧ 0 ≤ (a0.length : Int) ∧ (a0.length : Int) * (24 : Int) ≤ (maxB : Int)) (iter (α := (Int × (List (List Int)) × Unit)) n (fun ih6 x5 => br (decide (x5.1 < (a0.length : Int))) (chk (0 ≤ x5.1 ∧ x5.1 < (a0.length : Int)) ((toIntS.f n (a0.getD x5.1.toNat [])).bind fun r7 => chk (0 ≤ x5.1 ∧ x5.1 < (x5.2.1.length : Int)) (let v8 := (x5.2.1.set x5.1.toNat r7.1); ih6 ((w64 (x5.1 + 1)), (v8, ()))))) (some (x5.2.1, ()))) (0, ((List.replicate (a0.length : Int).toNat ([] : List Int)), ())))
noncomputable def toIntSS.mng (n : Nat) : Mng := ⟨[.val (.sl IS)], [.val (.sl IS)], fun x => toIntSS.f n x.1⟩
noncomputable def toIntSS.cfg (n : Nat) : Cfg := ⟨tys2, [(111, toIntS.mng n)], [], []⟩
theorem toIntSS.eq : ∀ (n : Nat) (a0 : List (List Int)), runF (toIntSS.cfg n) n Tryz.f43 (annOf Tryz.f43 toIntSS.las) [.val (.sl IS)] [.val (.sl IS)] (a0, ()) = toIntSS.f n a0 := by
  intros
  kernel_rfl
theorem toIntSS.gof : GoF Tryz.prog 43 := ⟨_, Tryz.func43, by kernel_rfl, by kernel_rfl⟩
theorem toIntSS.sound (n : Nat) : Sound Tryz.prog 43 (toIntSS.mng n) := runF_sound (fn := Tryz.f43) (m := toIntSS.mng n) (c := toIntSS.cfg n) (regOK mixed (opOK (.of (c := toIntSS.cfg n) ⟨⟨toIntS.sound n, toIntS.gof⟩, trivial⟩) (.of (c := toIntSS.cfg n) trivial)) (tysOK tys2_ok)) (tysOK tys2_ok) Tryz.func43 (fun x => (toIntSS.eq n x.1).symm)

def toState.las : List (Nat × LA) := []
noncomputable def toState.f (n : Nat) (a0 : State) : Option (State × Unit) := (toActorS.f n a0.1).bind fun r1 => (toIntSS.f n a0.2.1).bind fun r2 => (toIntSS.f n a0.2.2.1).bind fun r3 => some ((r1.1, (r2.1, (r3.1, a0.2.2.2))), ())
noncomputable def toState.mng (n : Nat) : Mng := ⟨[.val tState], [.val tState], fun x => toState.f n x.1⟩
noncomputable def toState.cfg (n : Nat) : Cfg := ⟨tys2, [(42, toActorS.mng n), (43, toIntSS.mng n)], [], []⟩
theorem toState.eq : ∀ (n : Nat) (a0 : State), runF (toState.cfg n) n Tryz.f9 (annOf Tryz.f9 toState.las) [.val tState] [.val tState] (a0, ()) = toState.f n a0 := by
  intros
  kernel_rfl
theorem toState.gof : GoF Tryz.prog 9 := ⟨_, Tryz.func9, by kernel_rfl, by kernel_rfl⟩
theorem toState.sound (n : Nat) : Sound Tryz.prog 9 (toState.mng n) := runF_sound (fn := Tryz.f9) (m := toState.mng n) (c := toState.cfg n) (regOK mixed (opOK (.of (c := toState.cfg n) ⟨⟨toActorS.sound n, toActorS.gof⟩, ⟨⟨toIntSS.sound n, toIntSS.gof⟩, trivial⟩⟩) (.of (c := toState.cfg n) trivial)) (tysOK tys2_ok)) (tysOK tys2_ok) Tryz.func9 (fun x => (toState.eq n x.1).symm)

def sL2Actor.las : List (Nat × LA) := []
noncomputable def sL2Actor.f (n : Nat) (a0 : Program) (a1 : Actor) : Option (Bool × Unit) := (sL1In.f n a1.1 0 (a0.2.2.length : Int)).bind fun r1 => br r1.1 (br (decide ((a1.2.length : Int) = 4)) ((sIsStream.f n a1.2).bind fun r2 => some (r2.1, ())) (some (false, ()))) (some (false, ()))
noncomputable def sL2Actor.mng (n : Nat) : Mng := ⟨[.val tProgram, .val tActor], [.val .bool], fun x => sL2Actor.f n x.1 x.2.1⟩
noncomputable def sL2Actor.cfg (n : Nat) : Cfg := ⟨tys2, [(103, sL1In.mng n), (105, sIsStream.mng n)], [], []⟩
theorem sL2Actor.eq : ∀ (n : Nat) (a0 : Program) (a1 : Actor), runF (sL2Actor.cfg n) n Tryz.f104 (annOf Tryz.f104 sL2Actor.las) [.val tProgram, .val tActor] [.val .bool] (a0, (a1, ())) = sL2Actor.f n a0 a1 := by
  intros
  kernel_rfl
theorem sL2Actor.gof : GoF Tryz.prog 104 := ⟨_, Tryz.func104, by kernel_rfl, by kernel_rfl⟩
theorem sL2Actor.sound (n : Nat) : Sound Tryz.prog 104 (sL2Actor.mng n) := runF_sound (fn := Tryz.f104) (m := sL2Actor.mng n) (c := sL2Actor.cfg n) (regOK mixed (opOK (.of (c := sL2Actor.cfg n) ⟨⟨sL1In.sound n, sL1In.gof⟩, ⟨⟨sIsStream.sound n, sIsStream.gof⟩, trivial⟩⟩) (.of (c := sL2Actor.cfg n) trivial)) (tysOK tys2_ok)) (tysOK tys2_ok) Tryz.func104 (fun x => (sL2Actor.eq n x.1 x.2.1).symm)

def sL1Begins.las : List (Nat × LA) := [(6, ⟨[(14, .int .i64)], [], [1, 12, 13], []⟩)]
noncomputable def sL1Begins.f (n : Nat) (a0 : List Int) (a1 : List Int) : Option (Bool × Unit) := br (decide ((a1.length : Int) < (a0.length : Int))) (some (false, ())) (iter (α := (Int × Unit)) n (fun ih6 x5 => br (decide (x5.1 < (a0.length : Int))) (chk (0 ≤ x5.1 ∧ x5.1 < (a0.length : Int)) (chk (0 ≤ x5.1 ∧ x5.1 < (a1.length : Int)) (br (!decide ((a1.getD x5.1.toNat 0) = (a0.getD x5.1.toNat 0))) (some (false, ())) (ih6 ((w64 (x5.1 + 1)), ()))))) (some (true, ()))) (0, ()))
noncomputable def sL1Begins.mng (n : Nat) : Mng := ⟨[.val IS, .val IS], [.val .bool], fun x => sL1Begins.f n x.1 x.2.1⟩
noncomputable def sL1Begins.cfg (n : Nat) : Cfg := ⟨tys2, [], [], []⟩
theorem sL1Begins.eq : ∀ (n : Nat) (a0 : List Int) (a1 : List Int), runF (sL1Begins.cfg n) n Tryz.f106 (annOf Tryz.f106 sL1Begins.las) [.val IS, .val IS] [.val .bool] (a0, (a1, ())) = sL1Begins.f n a0 a1 := by
  intros
  kernel_rfl
theorem sL1Begins.gof : GoF Tryz.prog 106 := ⟨_, Tryz.func106, by kernel_rfl, by kernel_rfl⟩
theorem sL1Begins.sound (n : Nat) : Sound Tryz.prog 106 (sL1Begins.mng n) := runF_sound (fn := Tryz.f106) (m := sL1Begins.mng n) (c := sL1Begins.cfg n) (regOK mixed (opOK (.of (c := sL1Begins.cfg n) trivial) (.of (c := sL1Begins.cfg n) trivial)) (tysOK tys2_ok)) (tysOK tys2_ok) Tryz.func106 (fun x => (sL1Begins.eq n x.1 x.2.1).symm)

def sL5Ends.las : List (Nat × LA) := []
noncomputable def sL5Ends.f (n : Nat) (a0 : List Int) (a1 : List Int) : Option (Bool × Unit) := br (decide ((a0.length : Int) ≤ (a1.length : Int))) (chk (0 ≤ (w64 ((a1.length : Int) - (a0.length : Int))) ∧ (w64 ((a1.length : Int) - (a0.length : Int))) ≤ (a1.length : Int) ∧ (a1.length : Int) ≤ (a1.length : Int)) ((sL1Begins.f n a0 ((a1.take (a1.length : Int).toNat).drop (w64 ((a1.length : Int) - (a0.length : Int))).toNat)).bind fun r1 => some (r1.1, ()))) (some (false, ()))
noncomputable def sL5Ends.mng (n : Nat) : Mng := ⟨[.val IS, .val IS], [.val .bool], fun x => sL5Ends.f n x.1 x.2.1⟩
noncomputable def sL5Ends.cfg (n : Nat) : Cfg := ⟨tys2, [(106, sL1Begins.mng n)], [], []⟩
theorem sL5Ends.eq : ∀ (n : Nat) (a0 : List Int) (a1 : List Int), runF (sL5Ends.cfg n) n Tryz.f107 (annOf Tryz.f107 sL5Ends.las) [.val IS, .val IS] [.val .bool] (a0, (a1, ())) = sL5Ends.f n a0 a1 := by
  intros
  kernel_rfl
theorem sL5Ends.gof : GoF Tryz.prog 107 := ⟨_, Tryz.func107, by kernel_rfl, by kernel_rfl⟩
theorem sL5Ends.sound (n : Nat) : Sound Tryz.prog 107 (sL5Ends.mng n) := runF_sound (fn := Tryz.f107) (m := sL5Ends.mng n) (c := sL5Ends.cfg n) (regOK mixed (opOK (.of (c := sL5Ends.cfg n) ⟨⟨sL1Begins.sound n, sL1Begins.gof⟩, trivial⟩) (.of (c := sL5Ends.cfg n) trivial)) (tysOK tys2_ok)) (tysOK tys2_ok) Tryz.func107 (fun x => (sL5Ends.eq n x.1 x.2.1).symm)

def sIsState.las : List (Nat × LA) := [(1, ⟨[(46, .bool)], [], [2, 3], []⟩), (6, ⟨[(50, .int .i64)], [], [2, 3, 48, 49], []⟩), (17, ⟨[(67, .int .i64)], [], [3, 65, 66], []⟩), (24, ⟨[(102, .bool)], [], [3, 8, 9, 10, 65, 66, 67], []⟩)]
noncomputable def sIsState.f (n : Nat) (a0 : Network) (a1 : State) : Option (Bool × Unit) := cut (α := (Bool × Unit)) ((sIsNetwork.f n a0).bind fun r4 => br (!r4.1) (some (.inr (true, ()))) (br (!decide ((a1.1.length : Int) = (a0.1.length : Int))) (some (.inr (true, ()))) (br (!decide ((a1.2.1.length : Int) = (a0.2.length : Int))) (some (.inr (true, ()))) (br (!decide ((a1.2.2.1.length : Int) = (a0.2.length : Int))) (some (.inr (true, ()))) ((sL1In.f n a1.2.2.2 0 20000).bind fun r5 => some (.inr ((!r5.1), ()))))))) fun y3 => br y3.1 (some (false, ())) (iter (α := (Int × Unit)) n (fun ih24 x23 => br (decide (x23.1 < (a1.1.length : Int))) (chk (0 ≤ x23.1 ∧ x23.1 < (a1.1.length : Int)) (let v25 := (a1.1.getD x23.1.toNat zActor); chk (0 ≤ x23.1 ∧ x23.1 < (a0.1.length : Int)) (let v26 := (a0.1.getD x23.1.toNat zProgram); (sL2Actor.f n v26 v25).bind fun r27 => br (!r27.1) (some (false, ())) (ih24 ((w64 (x23.1 + 1)), ()))))) (iter (α := (Int × Unit)) n (fun ih46 x45 => br (decide (x45.1 < (a0.2.length : Int))) (chk (0 ≤ x45.1 ∧ x45.1 < (a0.2.length : Int)) (let v47 := (a0.2.getD x45.1.toNat zLink); chk (0 ≤ x45.1 ∧ x45.1 < (a1.2.1.length : Int)) (let v48 := (a1.2.1.getD x45.1.toNat []); chk (0 ≤ x45.1 ∧ x45.1 < (a1.2.2.1.length : Int)) (let v49 := (a1.2.2.1.getD x45.1.toNat []); cut (α := (Bool × Unit)) ((sIsStream.f n v48).bind fun r55 => br (!r55.1) (some (.inr (true, ()))) ((sIsStream.f n v49).bind fun r56 => br (!r56.1) (some (.inr (true, ()))) ((sL1Begins.f n v47.2.2.2.2 v49).bind fun r57 => br (!r57.1) (some (.inr (true, ()))) ((sL5Ends.f n v48 v49).bind fun r58 => some (.inr ((!r58.1), ())))))) fun y54 => br y54.1 (some (false, ())) (br (decide (v47.1 = (-1))) (br (!decide ((v49.length : Int) = (v47.2.2.2.2.length : Int))) (some (false, ())) (br (decide (v47.2.2.1 = (-1))) (br (!decide ((v49.length : Int) = (v48.length : Int))) (some (false, ())) (ih46 ((w64 (x45.1 + 1)), ()))) (ih46 ((w64 (x45.1 + 1)), ())))) (br (decide (v47.2.2.1 = (-1))) (br (!decide ((v49.length : Int) = (v48.length : Int))) (some (false, ())) (ih46 ((w64 (x45.1 + 1)), ()))) (ih46 ((w64 (x45.1 + 1)), ())))))))) (some (true, ()))) (0, ()))) (0, ()))
noncomputable def sIsState.mng (n : Nat) : Mng := ⟨[.val tNetwork, .val tState], [.val .bool], fun x => sIsState.f n x.1 x.2.1⟩
noncomputable def sIsState.cfg (n : Nat) : Cfg := ⟨tys2, [(84, sIsNetwork.mng n), (103, sL1In.mng n), (104, sL2Actor.mng n), (105, sIsStream.mng n), (106, sL1Begins.mng n), (107, sL5Ends.mng n)], [], []⟩
theorem sIsState.eq : ∀ (n : Nat) (a0 : Network) (a1 : State), runF (sIsState.cfg n) n Tryz.f35 (annOf Tryz.f35 sIsState.las) [.val tNetwork, .val tState] [.val .bool] (a0, (a1, ())) = sIsState.f n a0 a1 := by
  intros
  kernel_rfl
theorem sIsState.gof : GoF Tryz.prog 35 := ⟨_, Tryz.func35, by kernel_rfl, by kernel_rfl⟩
theorem sIsState.sound (n : Nat) : Sound Tryz.prog 35 (sIsState.mng n) := runF_sound (fn := Tryz.f35) (m := sIsState.mng n) (c := sIsState.cfg n) (regOK mixed (opOK (.of (c := sIsState.cfg n) ⟨⟨sIsNetwork.sound n, sIsNetwork.gof⟩, ⟨⟨sL1In.sound n, sL1In.gof⟩, ⟨⟨sL2Actor.sound n, sL2Actor.gof⟩, ⟨⟨sIsStream.sound n, sIsStream.gof⟩, ⟨⟨sL1Begins.sound n, sL1Begins.gof⟩, ⟨⟨sL5Ends.sound n, sL5Ends.gof⟩, trivial⟩⟩⟩⟩⟩⟩) (.of (c := sIsState.cfg n) trivial)) (tysOK tys2_ok)) (tysOK tys2_ok) Tryz.func35 (fun x => (sIsState.eq n x.1 x.2.1).symm)

def isActor.las : List (Nat × LA) := []
noncomputable def isActor.f (n : Nat) (a0 : Program) (a1 : Actor) : Option (Bool × Unit) := br (decide (0 ≤ a1.1)) (br (decide (a1.1 ≤ (a0.2.2.length : Int))) (br (decide ((a1.2.length : Int) = 4)) ((iIsStream.f n a1.2).bind fun r1 => some (r1.1, ())) (some (false, ()))) (some (false, ()))) (some (false, ()))
noncomputable def isActor.mng (n : Nat) : Mng := ⟨[.val tProgram, .val tActor], [.val .bool], fun x => isActor.f n x.1 x.2.1⟩
noncomputable def isActor.cfg (n : Nat) : Cfg := ⟨tys2, [(113, iIsStream.mng n)], [], []⟩
theorem isActor.eq : ∀ (n : Nat) (a0 : Program) (a1 : Actor), runF (isActor.cfg n) n Tryz.f112 (annOf Tryz.f112 isActor.las) [.val tProgram, .val tActor] [.val .bool] (a0, (a1, ())) = isActor.f n a0 a1 := by
  intros
  kernel_rfl
theorem isActor.gof : GoF Tryz.prog 112 := ⟨_, Tryz.func112, by kernel_rfl, by kernel_rfl⟩
theorem isActor.sound (n : Nat) : Sound Tryz.prog 112 (isActor.mng n) := runF_sound (fn := Tryz.f112) (m := isActor.mng n) (c := isActor.cfg n) (regOK mixed (opOK (.of (c := isActor.cfg n) ⟨⟨iIsStream.sound n, iIsStream.gof⟩, trivial⟩) (.of (c := isActor.cfg n) trivial)) (tysOK tys2_ok)) (tysOK tys2_ok) Tryz.func112 (fun x => (isActor.eq n x.1 x.2.1).symm)

def equalI.las : List (Nat × LA) := [(6, ⟨[(13, .int .i64)], [], [0, 1, 12], []⟩)]
noncomputable def equalI.f (n : Nat) (a0 : List Int) (a1 : List Int) : Option (Bool × Unit) := br (!decide ((a0.length : Int) = (a1.length : Int))) (some (false, ())) (iter (α := (Int × Unit)) n (fun ih6 x5 => br (decide (x5.1 < (a0.length : Int))) (chk (0 ≤ x5.1 ∧ x5.1 < (a0.length : Int)) (chk (0 ≤ x5.1 ∧ x5.1 < (a1.length : Int)) (br (!decide ((a0.getD x5.1.toNat 0) = (a1.getD x5.1.toNat 0))) (some (false, ())) (ih6 ((w64 (x5.1 + 1)), ()))))) (some (true, ()))) (0, ()))
noncomputable def equalI.mng (n : Nat) : Mng := ⟨[.val IS, .val IS], [.val .bool], fun x => equalI.f n x.1 x.2.1⟩
noncomputable def equalI.cfg (n : Nat) : Cfg := ⟨tys2, [], [], []⟩
theorem equalI.eq : ∀ (n : Nat) (a0 : List Int) (a1 : List Int), runF (equalI.cfg n) n Tryz.f45 (annOf Tryz.f45 equalI.las) [.val IS, .val IS] [.val .bool] (a0, (a1, ())) = equalI.f n a0 a1 := by
  intros
  kernel_rfl
theorem equalI.gof : GoF Tryz.prog 45 := ⟨_, Tryz.func45, by kernel_rfl, by kernel_rfl⟩
theorem equalI.sound (n : Nat) : Sound Tryz.prog 45 (equalI.mng n) := runF_sound (fn := Tryz.f45) (m := equalI.mng n) (c := equalI.cfg n) (regOK mixed (opOK (.of (c := equalI.cfg n) trivial) (.of (c := equalI.cfg n) trivial)) (tysOK tys2_ok)) (tysOK tys2_ok) Tryz.func45 (fun x => (equalI.eq n x.1 x.2.1).symm)

def iIsPrefix.las : List (Nat × LA) := []
noncomputable def iIsPrefix.f (n : Nat) (a0 : List Int) (a1 : List Int) : Option (Bool × Unit) := (iIsStream.f n a0).bind fun r1 => br r1.1 ((iIsStream.f n a1).bind fun r2 => br r2.1 (br (decide ((a0.length : Int) ≤ (a1.length : Int))) (chk ((0 : Int) ≤ 0 ∧ (0 : Int) ≤ (a0.length : Int) ∧ (a0.length : Int) ≤ (a1.length : Int)) ((equalI.f n a0 ((a1.take (a0.length : Int).toNat).drop 0)).bind fun r3 => some (r3.1, ()))) (some (false, ()))) (some (false, ()))) (some (false, ()))
noncomputable def iIsPrefix.mng (n : Nat) : Mng := ⟨[.val IS, .val IS], [.val .bool], fun x => iIsPrefix.f n x.1 x.2.1⟩
noncomputable def iIsPrefix.cfg (n : Nat) : Cfg := ⟨tys2, [(113, iIsStream.mng n), (45, equalI.mng n)], [], []⟩
theorem iIsPrefix.eq : ∀ (n : Nat) (a0 : List Int) (a1 : List Int), runF (iIsPrefix.cfg n) n Tryz.f114 (annOf Tryz.f114 iIsPrefix.las) [.val IS, .val IS] [.val .bool] (a0, (a1, ())) = iIsPrefix.f n a0 a1 := by
  intros
  kernel_rfl
theorem iIsPrefix.gof : GoF Tryz.prog 114 := ⟨_, Tryz.func114, by kernel_rfl, by kernel_rfl⟩
theorem iIsPrefix.sound (n : Nat) : Sound Tryz.prog 114 (iIsPrefix.mng n) := runF_sound (fn := Tryz.f114) (m := iIsPrefix.mng n) (c := iIsPrefix.cfg n) (regOK mixed (opOK (.of (c := iIsPrefix.cfg n) ⟨⟨iIsStream.sound n, iIsStream.gof⟩, ⟨⟨equalI.sound n, equalI.gof⟩, trivial⟩⟩) (.of (c := iIsPrefix.cfg n) trivial)) (tysOK tys2_ok)) (tysOK tys2_ok) Tryz.func114 (fun x => (iIsPrefix.eq n x.1 x.2.1).symm)

def iIsState.las : List (Nat × LA) := [(1, ⟨[(50, .bool)], [], [2, 3], []⟩), (6, ⟨[(54, .int .i64)], [], [2, 3, 52, 53], []⟩), (17, ⟨[(71, .int .i64)], [], [3, 69, 70], []⟩), (23, ⟨[(114, .bool)], [], [3, 8, 9, 10, 69, 70, 71], []⟩)]
noncomputable def iIsState.f (n : Nat) (a0 : Network) (a1 : State) : Option (Bool × Unit) := cut (α := (Bool × Unit)) ((iIsNetwork.f n a0).bind fun r3 => br (!r3.1) (some (.inr (true, ()))) (br (!decide ((a1.1.length : Int) = (a0.1.length : Int))) (some (.inr (true, ()))) (br (!decide ((a1.2.1.length : Int) = (a0.2.length : Int))) (some (.inr (true, ()))) (br (!decide ((a1.2.2.1.length : Int) = (a0.2.length : Int))) (some (.inr (true, ()))) (br (decide (a1.2.2.2 < 0)) (some (.inr (true, ()))) (some (.inr ((decide (20000 < a1.2.2.2)), ())))))))) fun y2 => br y2.1 (some (false, ())) (iter (α := (Int × Unit)) n (fun ih22 x21 => br (decide (x21.1 < (a0.1.length : Int))) (chk (0 ≤ x21.1 ∧ x21.1 < (a0.1.length : Int)) (let v23 := (a0.1.getD x21.1.toNat zProgram); chk (0 ≤ x21.1 ∧ x21.1 < (a1.1.length : Int)) (let v24 := (a1.1.getD x21.1.toNat zActor); (isActor.f n v23 v24).bind fun r25 => br (!r25.1) (some (false, ())) (ih22 ((w64 (x21.1 + 1)), ()))))) (iter (α := (Int × Unit)) n (fun ih42 x41 => br (decide (x41.1 < (a0.2.length : Int))) (chk (0 ≤ x41.1 ∧ x41.1 < (a0.2.length : Int)) (let v43 := (a0.2.getD x41.1.toNat zLink); chk (0 ≤ x41.1 ∧ x41.1 < (a1.2.1.length : Int)) (let v44 := (a1.2.1.getD x41.1.toNat []); chk (0 ≤ x41.1 ∧ x41.1 < (a1.2.2.1.length : Int)) (let v45 := (a1.2.2.1.getD x41.1.toNat []); cut (α := (Bool × Unit)) ((iIsStream.f n v44).bind fun r50 => br (!r50.1) (some (.inr (true, ()))) ((iIsPrefix.f n v43.2.2.2.2 v45).bind fun r51 => br (!r51.1) (some (.inr (true, ()))) (br (decide ((v45.length : Int) < (v44.length : Int))) (some (.inr (true, ()))) (chk (0 ≤ (w64 ((v45.length : Int) - (v44.length : Int))) ∧ (w64 ((v45.length : Int) - (v44.length : Int))) ≤ (v45.length : Int) ∧ (v45.length : Int) ≤ (v45.length : Int)) ((equalI.f n v44 ((v45.take (v45.length : Int).toNat).drop (w64 ((v45.length : Int) - (v44.length : Int))).toNat)).bind fun r52 => some (.inr ((!r52.1), ()))))))) fun y49 => br y49.1 (some (false, ())) (br (decide (v43.1 = (-1))) (br (!decide ((v45.length : Int) = (v43.2.2.2.2.length : Int))) (some (false, ())) (br (decide (v43.2.2.1 = (-1))) (br (!decide ((v44.length : Int) = (v45.length : Int))) (some (false, ())) (ih42 ((w64 (x41.1 + 1)), ()))) (ih42 ((w64 (x41.1 + 1)), ())))) (br (decide (v43.2.2.1 = (-1))) (br (!decide ((v44.length : Int) = (v45.length : Int))) (some (false, ())) (ih42 ((w64 (x41.1 + 1)), ()))) (ih42 ((w64 (x41.1 + 1)), ())))))))) (some (true, ()))) (0, ()))) (0, ()))
noncomputable def iIsState.mng (n : Nat) : Mng := ⟨[.val tNetwork, .val tState], [.val .bool], fun x => iIsState.f n x.1 x.2.1⟩
noncomputable def iIsState.cfg (n : Nat) : Cfg := ⟨tys2, [(71, iIsNetwork.mng n), (112, isActor.mng n), (113, iIsStream.mng n), (114, iIsPrefix.mng n), (45, equalI.mng n)], [], []⟩
theorem iIsState.eq : ∀ (n : Nat) (a0 : Network) (a1 : State), runF (iIsState.cfg n) n Tryz.f44 (annOf Tryz.f44 iIsState.las) [.val tNetwork, .val tState] [.val .bool] (a0, (a1, ())) = iIsState.f n a0 a1 := by
  intros
  kernel_rfl
theorem iIsState.gof : GoF Tryz.prog 44 := ⟨_, Tryz.func44, by kernel_rfl, by kernel_rfl⟩
theorem iIsState.sound (n : Nat) : Sound Tryz.prog 44 (iIsState.mng n) := runF_sound (fn := Tryz.f44) (m := iIsState.mng n) (c := iIsState.cfg n) (regOK mixed (opOK (.of (c := iIsState.cfg n) ⟨⟨iIsNetwork.sound n, iIsNetwork.gof⟩, ⟨⟨isActor.sound n, isActor.gof⟩, ⟨⟨iIsStream.sound n, iIsStream.gof⟩, ⟨⟨iIsPrefix.sound n, iIsPrefix.gof⟩, ⟨⟨equalI.sound n, equalI.gof⟩, trivial⟩⟩⟩⟩⟩) (.of (c := iIsState.cfg n) trivial)) (tysOK tys2_ok)) (tysOK tys2_ok) Tryz.func44 (fun x => (iIsState.eq n x.1 x.2.1).symm)

def eqActor.las : List (Nat × LA) := []
noncomputable def eqActor.f (n : Nat) (a0 : Actor) (a1 : Actor) : Option (Bool × Unit) := br (!decide (a0.1 = a1.1)) (some (false, ())) ((eqIntS.f n a0.2 a1.2).bind fun r1 => br (!r1.1) (some (false, ())) (some (true, ())))
noncomputable def eqActor.mng (n : Nat) : Mng := ⟨[.val tActor, .val tActor], [.val .bool], fun x => eqActor.f n x.1 x.2.1⟩
noncomputable def eqActor.cfg (n : Nat) : Cfg := ⟨tys2, [(118, eqIntS.mng n)], [], []⟩
theorem eqActor.eq : ∀ (n : Nat) (a0 : Actor) (a1 : Actor), runF (eqActor.cfg n) n Tryz.f117 (annOf Tryz.f117 eqActor.las) [.val tActor, .val tActor] [.val .bool] (a0, (a1, ())) = eqActor.f n a0 a1 := by
  intros
  kernel_rfl
theorem eqActor.gof : GoF Tryz.prog 117 := ⟨_, Tryz.func117, by kernel_rfl, by kernel_rfl⟩
theorem eqActor.sound (n : Nat) : Sound Tryz.prog 117 (eqActor.mng n) := runF_sound (fn := Tryz.f117) (m := eqActor.mng n) (c := eqActor.cfg n) (regOK mixed (opOK (.of (c := eqActor.cfg n) ⟨⟨eqIntS.sound n, eqIntS.gof⟩, trivial⟩) (.of (c := eqActor.cfg n) trivial)) (tysOK tys2_ok)) (tysOK tys2_ok) Tryz.func117 (fun x => (eqActor.eq n x.1 x.2.1).symm)

def eqActorS.las : List (Nat × LA) := [(6, ⟨[(5, .int .i64)], [], [0, 1], []⟩)]
noncomputable def eqActorS.f (n : Nat) (a0 : List Actor) (a1 : List Actor) : Option (Bool × Unit) := br (!decide ((a0.length : Int) = (a1.length : Int))) (some (false, ())) (iter (α := (Int × Unit)) n (fun ih8 x7 => br (decide (x7.1 < (a0.length : Int))) (chk (0 ≤ x7.1 ∧ x7.1 < (a0.length : Int)) (let v9 := (a0.getD x7.1.toNat zActor); chk (0 ≤ x7.1 ∧ x7.1 < (a1.length : Int)) (let v10 := (a1.getD x7.1.toNat zActor); (eqActor.f n v9 v10).bind fun r11 => br (!r11.1) (some (false, ())) (ih8 ((w64 (x7.1 + 1)), ()))))) (some (true, ()))) (0, ()))
noncomputable def eqActorS.mng (n : Nat) : Mng := ⟨[.val (.sl tActor), .val (.sl tActor)], [.val .bool], fun x => eqActorS.f n x.1 x.2.1⟩
noncomputable def eqActorS.cfg (n : Nat) : Cfg := ⟨tys2, [(117, eqActor.mng n)], [], []⟩
theorem eqActorS.eq : ∀ (n : Nat) (a0 : List Actor) (a1 : List Actor), runF (eqActorS.cfg n) n Tryz.f50 (annOf Tryz.f50 eqActorS.las) [.val (.sl tActor), .val (.sl tActor)] [.val .bool] (a0, (a1, ())) = eqActorS.f n a0 a1 := by
  intros
  kernel_rfl
theorem eqActorS.gof : GoF Tryz.prog 50 := ⟨_, Tryz.func50, by kernel_rfl, by kernel_rfl⟩
theorem eqActorS.sound (n : Nat) : Sound Tryz.prog 50 (eqActorS.mng n) := runF_sound (fn := Tryz.f50) (m := eqActorS.mng n) (c := eqActorS.cfg n) (regOK mixed (opOK (.of (c := eqActorS.cfg n) ⟨⟨eqActor.sound n, eqActor.gof⟩, trivial⟩) (.of (c := eqActorS.cfg n) trivial)) (tysOK tys2_ok)) (tysOK tys2_ok) Tryz.func50 (fun x => (eqActorS.eq n x.1 x.2.1).symm)

def eqIntSS.las : List (Nat × LA) := [(6, ⟨[(5, .int .i64)], [], [0, 1], []⟩)]
noncomputable def eqIntSS.f (n : Nat) (a0 : List (List Int)) (a1 : List (List Int)) : Option (Bool × Unit) := br (!decide ((a0.length : Int) = (a1.length : Int))) (some (false, ())) (iter (α := (Int × Unit)) n (fun ih6 x5 => br (decide (x5.1 < (a0.length : Int))) (chk (0 ≤ x5.1 ∧ x5.1 < (a0.length : Int)) (chk (0 ≤ x5.1 ∧ x5.1 < (a1.length : Int)) ((eqIntS.f n (a0.getD x5.1.toNat []) (a1.getD x5.1.toNat [])).bind fun r7 => br (!r7.1) (some (false, ())) (ih6 ((w64 (x5.1 + 1)), ()))))) (some (true, ()))) (0, ()))
noncomputable def eqIntSS.mng (n : Nat) : Mng := ⟨[.val (.sl IS), .val (.sl IS)], [.val .bool], fun x => eqIntSS.f n x.1 x.2.1⟩
noncomputable def eqIntSS.cfg (n : Nat) : Cfg := ⟨tys2, [(118, eqIntS.mng n)], [], []⟩
theorem eqIntSS.eq : ∀ (n : Nat) (a0 : List (List Int)) (a1 : List (List Int)), runF (eqIntSS.cfg n) n Tryz.f51 (annOf Tryz.f51 eqIntSS.las) [.val (.sl IS), .val (.sl IS)] [.val .bool] (a0, (a1, ())) = eqIntSS.f n a0 a1 := by
  intros
  kernel_rfl
theorem eqIntSS.gof : GoF Tryz.prog 51 := ⟨_, Tryz.func51, by kernel_rfl, by kernel_rfl⟩
theorem eqIntSS.sound (n : Nat) : Sound Tryz.prog 51 (eqIntSS.mng n) := runF_sound (fn := Tryz.f51) (m := eqIntSS.mng n) (c := eqIntSS.cfg n) (regOK mixed (opOK (.of (c := eqIntSS.cfg n) ⟨⟨eqIntS.sound n, eqIntS.gof⟩, trivial⟩) (.of (c := eqIntSS.cfg n) trivial)) (tysOK tys2_ok)) (tysOK tys2_ok) Tryz.func51 (fun x => (eqIntSS.eq n x.1 x.2.1).symm)

def eqState.las : List (Nat × LA) := []
noncomputable def eqState.f (n : Nat) (a0 : State) (a1 : State) : Option (Bool × Unit) := (eqActorS.f n a0.1 a1.1).bind fun r1 => br (!r1.1) (some (false, ())) ((eqIntSS.f n a0.2.1 a1.2.1).bind fun r2 => br (!r2.1) (some (false, ())) ((eqIntSS.f n a0.2.2.1 a1.2.2.1).bind fun r3 => br (!r3.1) (some (false, ())) (br (!decide (a0.2.2.2 = a1.2.2.2)) (some (false, ())) (some (true, ())))))
noncomputable def eqState.mng (n : Nat) : Mng := ⟨[.val tState, .val tState], [.val .bool], fun x => eqState.f n x.1 x.2.1⟩
noncomputable def eqState.cfg (n : Nat) : Cfg := ⟨tys2, [(50, eqActorS.mng n), (51, eqIntSS.mng n)], [], []⟩
theorem eqState.eq : ∀ (n : Nat) (a0 : State) (a1 : State), runF (eqState.cfg n) n Tryz.f11 (annOf Tryz.f11 eqState.las) [.val tState, .val tState] [.val .bool] (a0, (a1, ())) = eqState.f n a0 a1 := by
  intros
  kernel_rfl
theorem eqState.gof : GoF Tryz.prog 11 := ⟨_, Tryz.func11, by kernel_rfl, by kernel_rfl⟩
theorem eqState.sound (n : Nat) : Sound Tryz.prog 11 (eqState.mng n) := runF_sound (fn := Tryz.f11) (m := eqState.mng n) (c := eqState.cfg n) (regOK mixed (opOK (.of (c := eqState.cfg n) ⟨⟨eqActorS.sound n, eqActorS.gof⟩, ⟨⟨eqIntSS.sound n, eqIntSS.gof⟩, trivial⟩⟩) (.of (c := eqState.cfg n) trivial)) (tysOK tys2_ok)) (tysOK tys2_ok) Tryz.func11 (fun x => (eqState.eq n x.1 x.2.1).symm)
end Go.AmT
