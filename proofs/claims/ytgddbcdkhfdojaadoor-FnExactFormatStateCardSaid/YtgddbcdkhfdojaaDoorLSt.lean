/- Functions that the law FnExactFormatState reaches, each as a plain Lean function, and that each does what that says. No condition. -/
import Derived.Test.YtgddbcdkhfdojaaDoorPCap
namespace Go.AmT
open Go Go.Am Go.Proofs
set_option linter.unusedVariables false
set_option maxRecDepth 100000
abbrev tActor : Ty := (.pair I IS)
abbrev tState : Ty := (.pair (.sl tActor) (.pair (.sl IS) (.pair (.sl IS) I)))
abbrev Actor : Type := Int × List Int
def zActor : Actor := (0, [])
abbrev State : Type := List Actor × (List (List Int) × (List (List Int) × Int))
def tys2 : List (Nat × TInfo) := [(3, ⟨false, 1, 8, [.int .i64 0], .int .i64, 0, some I, [], false⟩),
  (33, ⟨false, 1, 24, [.nil], .slice, 25, some (.sl tInstr), [], false⟩),
  (35, ⟨true, 3, 40, [.int .i64 0, .int .i64 0, .nil], .struct, 0, some tProgram, [(0, 3), (1, 3), (2, 33)], false⟩),
  (45, ⟨false, 1, 24, [.nil], .slice, 35, some (.sl tProgram), [], false⟩),
  (46, ⟨false, 1, 24, [.nil], .slice, 92, some (.sl tLink), [], false⟩),
  (48, ⟨true, 2, 48, [.nil, .nil], .struct, 0, some tNetwork, [(0, 45), (1, 46)], false⟩),
  (56, ⟨false, 1, 24, [.nil], .slice, 137, some (.sl tActor), [], false⟩),
  (57, ⟨false, 1, 24, [.nil], .slice, 76, some (.sl IS), [], false⟩),
  (59, ⟨true, 4, 80, [.nil, .nil, .nil, .int .i64 0], .struct, 0, some tState, [(0, 56), (1, 57), (2, 57), (3, 3)], false⟩),
  (62, ⟨false, 1, 24, [.nil], .slice, 108, some (.sl tActor), [], false⟩),
  (64, ⟨true, 4, 80, [.nil, .nil, .nil, .int .i64 0], .struct, 0, some tState, [(0, 62), (1, 57), (2, 57), (3, 3)], false⟩),
  (76, ⟨false, 1, 24, [.nil], .slice, 3, some IS, [], false⟩),
  (92, ⟨true, 5, 56, [.int .i64 0, .int .i64 0, .int .i64 0, .int .i64 0, .nil], .struct, 0, some tLink, [(0, 3), (1, 3), (2, 3), (3, 3), (4, 76)], false⟩),
  (108, ⟨true, 2, 32, [.int .i64 0, .nil], .struct, 0, some tActor, [(0, 3), (1, 76)], false⟩),
  (137, ⟨true, 2, 32, [.int .i64 0, .nil], .struct, 0, some tActor, [(0, 3), (1, 76)], false⟩)]
theorem tys2_ok : (tys2.all fun p => tokB Tryd.prog p.1 p.2) = true := by kernel_rfl

def szActor.las : List (Nat × LA) := []
noncomputable def szActor.f (n : Nat) (a0 : Actor) (a1 : Int) : Option (Int × Unit) := (szIntS.f n a0.2 a1).bind fun r1 => br (decide (r1.1 < 0)) (some ((-1), ())) (some (r1.1, ()))
noncomputable def szActor.mng (n : Nat) : Mng := ⟨[.val tActor, .val I], [.val I], fun x => szActor.f n x.1 x.2.1⟩
noncomputable def szActor.cfg (n : Nat) : Cfg := ⟨tys2, [(95, szIntS.mng n)], [], []⟩
theorem szActor.eq : ∀ (n : Nat) (a0 : Actor) (a1 : Int), runF (szActor.cfg n) n Tryd.f94 (annOf Tryd.f94 szActor.las) [.val tActor, .val I] [.val I] (a0, (a1, ())) = szActor.f n a0 a1 := by
  intros
  kernel_rfl
theorem szActor.gof : GoF Tryd.prog 94 := ⟨_, Tryd.func94, by kernel_rfl, by kernel_rfl⟩
theorem szActor.sound (n : Nat) : Sound Tryd.prog 94 (szActor.mng n) := runF_sound (fn := Tryd.f94) (m := szActor.mng n) (c := szActor.cfg n) (regOK mixed (opOK (.of (c := szActor.cfg n) ⟨⟨szIntS.sound n, szIntS.gof⟩, trivial⟩) (.of (c := szActor.cfg n) trivial)) (tysOK tys2_ok)) (tysOK tys2_ok) Tryd.func94 (fun x => (szActor.eq n x.1 x.2.1).symm)

def szActorS.las : List (Nat × LA) := [(7, ⟨[(1, .int .i64), (5, .int .i64)], [], [0], []⟩)]
noncomputable def szActorS.f (n : Nat) (a0 : List Actor) (a1 : Int) : Option (Int × Unit) := br (decide ((w64 (a1 - (a0.length : Int))) < 0)) (some ((-1), ())) (iter (α := (Int × (Int × Unit))) n (fun ih7 x6 => br (decide (x6.2.1 < (a0.length : Int))) (chk (0 ≤ x6.2.1 ∧ x6.2.1 < (a0.length : Int)) (let v8 := (a0.getD x6.2.1.toNat zActor); (szActor.f n v8 x6.1).bind fun r9 => br (decide (r9.1 < 0)) (some ((-1), ())) (ih7 (r9.1, ((w64 (x6.2.1 + 1)), ()))))) (some (x6.1, ()))) ((w64 (a1 - (a0.length : Int))), (0, ())))
noncomputable def szActorS.mng (n : Nat) : Mng := ⟨[.val (.sl tActor), .val I], [.val I], fun x => szActorS.f n x.1 x.2.1⟩
noncomputable def szActorS.cfg (n : Nat) : Cfg := ⟨tys2, [(94, szActor.mng n)], [], []⟩
theorem szActorS.eq : ∀ (n : Nat) (a0 : List Actor) (a1 : Int), runF (szActorS.cfg n) n Tryd.f64 (annOf Tryd.f64 szActorS.las) [.val (.sl tActor), .val I] [.val I] (a0, (a1, ())) = szActorS.f n a0 a1 := by
  intros
  kernel_rfl
theorem szActorS.gof : GoF Tryd.prog 64 := ⟨_, Tryd.func64, by kernel_rfl, by kernel_rfl⟩
theorem szActorS.sound (n : Nat) : Sound Tryd.prog 64 (szActorS.mng n) := runF_sound (fn := Tryd.f64) (m := szActorS.mng n) (c := szActorS.cfg n) (regOK mixed (opOK (.of (c := szActorS.cfg n) ⟨⟨szActor.sound n, szActor.gof⟩, trivial⟩) (.of (c := szActorS.cfg n) trivial)) (tysOK tys2_ok)) (tysOK tys2_ok) Tryd.func64 (fun x => (szActorS.eq n x.1 x.2.1).symm)

def szIntSS.las : List (Nat × LA) := [(7, ⟨[(1, .int .i64), (5, .int .i64)], [], [0], []⟩)]
noncomputable def szIntSS.f (n : Nat) (a0 : List (List Int)) (a1 : Int) : Option (Int × Unit) := br (decide ((w64 (a1 - (a0.length : Int))) < 0)) (some ((-1), ())) (iter (α := (Int × (Int × Unit))) n (fun ih6 x5 => br (decide (x5.2.1 < (a0.length : Int))) (chk (0 ≤ x5.2.1 ∧ x5.2.1 < (a0.length : Int)) (let v7 := (a0.getD x5.2.1.toNat []); (szIntS.f n v7 x5.1).bind fun r8 => br (decide (r8.1 < 0)) (some ((-1), ())) (ih6 (r8.1, ((w64 (x5.2.1 + 1)), ()))))) (some (x5.1, ()))) ((w64 (a1 - (a0.length : Int))), (0, ())))
noncomputable def szIntSS.mng (n : Nat) : Mng := ⟨[.val (.sl IS), .val I], [.val I], fun x => szIntSS.f n x.1 x.2.1⟩
noncomputable def szIntSS.cfg (n : Nat) : Cfg := ⟨tys2, [(95, szIntS.mng n)], [], []⟩
theorem szIntSS.eq : ∀ (n : Nat) (a0 : List (List Int)) (a1 : Int), runF (szIntSS.cfg n) n Tryd.f65 (annOf Tryd.f65 szIntSS.las) [.val (.sl IS), .val I] [.val I] (a0, (a1, ())) = szIntSS.f n a0 a1 := by
  intros
  kernel_rfl
theorem szIntSS.gof : GoF Tryd.prog 65 := ⟨_, Tryd.func65, by kernel_rfl, by kernel_rfl⟩
theorem szIntSS.sound (n : Nat) : Sound Tryd.prog 65 (szIntSS.mng n) := runF_sound (fn := Tryd.f65) (m := szIntSS.mng n) (c := szIntSS.cfg n) (regOK mixed (opOK (.of (c := szIntSS.cfg n) ⟨⟨szIntS.sound n, szIntS.gof⟩, trivial⟩) (.of (c := szIntSS.cfg n) trivial)) (tysOK tys2_ok)) (tysOK tys2_ok) Tryd.func65 (fun x => (szIntSS.eq n x.1 x.2.1).symm)

def szState.las : List (Nat × LA) := []
noncomputable def szState.f (n : Nat) (a0 : State) (a1 : Int) : Option (Int × Unit) := (szActorS.f n a0.1 a1).bind fun r1 => br (decide (r1.1 < 0)) (some ((-1), ())) ((szIntSS.f n a0.2.1 r1.1).bind fun r2 => br (decide (r2.1 < 0)) (some ((-1), ())) ((szIntSS.f n a0.2.2.1 r2.1).bind fun r3 => br (decide (r3.1 < 0)) (some ((-1), ())) (some (r3.1, ()))))
noncomputable def szState.mng (n : Nat) : Mng := ⟨[.val tState, .val I], [.val I], fun x => szState.f n x.1 x.2.1⟩
noncomputable def szState.cfg (n : Nat) : Cfg := ⟨tys2, [(64, szActorS.mng n), (65, szIntSS.mng n)], [], []⟩
theorem szState.eq : ∀ (n : Nat) (a0 : State) (a1 : Int), runF (szState.cfg n) n Tryd.f25 (annOf Tryd.f25 szState.las) [.val tState, .val I] [.val I] (a0, (a1, ())) = szState.f n a0 a1 := by
  intros
  kernel_rfl
theorem szState.gof : GoF Tryd.prog 25 := ⟨_, Tryd.func25, by kernel_rfl, by kernel_rfl⟩
theorem szState.sound (n : Nat) : Sound Tryd.prog 25 (szState.mng n) := runF_sound (fn := Tryd.f25) (m := szState.mng n) (c := szState.cfg n) (regOK mixed (opOK (.of (c := szState.cfg n) ⟨⟨szActorS.sound n, szActorS.gof⟩, ⟨⟨szIntSS.sound n, szIntSS.gof⟩, trivial⟩⟩) (.of (c := szState.cfg n) trivial)) (tysOK tys2_ok)) (tysOK tys2_ok) Tryd.func25 (fun x => (szState.eq n x.1 x.2.1).symm)

def toActor.las : List (Nat × LA) := []
noncomputable def toActor.f (n : Nat) (a0 : Actor) : Option (Actor × Unit) := (toIntS.f n a0.2).bind fun r1 => some ((a0.1, r1.1), ())
noncomputable def toActor.mng (n : Nat) : Mng := ⟨[.val tActor], [.val tActor], fun x => toActor.f n x.1⟩
noncomputable def toActor.cfg (n : Nat) : Cfg := ⟨tys2, [(100, toIntS.mng n)], [], []⟩
theorem toActor.eq : ∀ (n : Nat) (a0 : Actor), runF (toActor.cfg n) n Tryd.f99 (annOf Tryd.f99 toActor.las) [.val tActor] [.val tActor] (a0, ()) = toActor.f n a0 := by
  intros
  kernel_rfl
theorem toActor.gof : GoF Tryd.prog 99 := ⟨_, Tryd.func99, by kernel_rfl, by kernel_rfl⟩
theorem toActor.sound (n : Nat) : Sound Tryd.prog 99 (toActor.mng n) := runF_sound (fn := Tryd.f99) (m := toActor.mng n) (c := toActor.cfg n) (regOK mixed (opOK (.of (c := toActor.cfg n) ⟨⟨toIntS.sound n, toIntS.gof⟩, trivial⟩) (.of (c := toActor.cfg n) trivial)) (tysOK tys2_ok)) (tysOK tys2_ok) Tryd.func99 (fun x => (toActor.eq n x.1).symm)

def toActorS.las : List (Nat × LA) := [(4, ⟨[(3, .own 1000 tActor), (4, .int .i64)], [(1000, .row true tActor)], [0], []⟩)]
noncomputable def toActorS.f (n : Nat) (a0 : List Actor) : Option ((List Actor) × Unit) := chk ((a0.length : Int) = (a0.length : Int) ∧ 0 ≤ (a0.length : Int) ∧ (a0.length : Int) * (32 : Int) ≤ (maxB : Int)) (iter (α := (Int × (List Actor) × Unit)) n (fun ih7 x6 => br (decide (x6.1 < (a0.length : Int))) (chk (0 ≤ x6.1 ∧ x6.1 < (a0.length : Int)) (let v8 := (a0.getD x6.1.toNat zActor); (toActor.f n v8).bind fun r9 => chk (0 ≤ x6.1 ∧ x6.1 < (x6.2.1.length : Int)) (let v10 := (x6.2.1.set x6.1.toNat r9.1); ih7 ((w64 (x6.1 + 1)), (v10, ()))))) (some (x6.2.1, ()))) (0, ((List.replicate (a0.length : Int).toNat ((0, []) : Actor)), ())))
noncomputable def toActorS.mng (n : Nat) : Mng := ⟨[.val (.sl tActor)], [.val (.sl tActor)], fun x => toActorS.f n x.1⟩
noncomputable def toActorS.cfg (n : Nat) : Cfg := ⟨tys2, [(99, toActor.mng n)], [], []⟩
theorem toActorS.eq : ∀ (n : Nat) (a0 : List Actor), runF (toActorS.cfg n) n Tryd.f67 (annOf Tryd.f67 toActorS.las) [.val (.sl tActor)] [.val (.sl tActor)] (a0, ()) = toActorS.f n a0 := by
  intros
  kernel_rfl
theorem toActorS.gof : GoF Tryd.prog 67 := ⟨_, Tryd.func67, by kernel_rfl, by kernel_rfl⟩
theorem toActorS.sound (n : Nat) : Sound Tryd.prog 67 (toActorS.mng n) := runF_sound (fn := Tryd.f67) (m := toActorS.mng n) (c := toActorS.cfg n) (regOK mixed (opOK (.of (c := toActorS.cfg n) ⟨⟨toActor.sound n, toActor.gof⟩, trivial⟩) (.of (c := toActorS.cfg n) trivial)) (tysOK tys2_ok)) (tysOK tys2_ok) Tryd.func67 (fun x => (toActorS.eq n x.1).symm)

def toIntSS.las : List (Nat × LA) := [(4, ⟨[(3, .own 1000 IS), (4, .int .i64)], [(1000, .row true IS)], [0], []⟩)]
noncomputable def toIntSS.f (n : Nat) (a0 : List (List Int)) : Option ((List (List Int)) × Unit) := chk ((a0.length : Int) = (a0.length : Int) ∧ 0 ≤ (a0.length : Int) ∧ (a0.length : Int) * (24 : Int) ≤ (maxB : Int)) (iter (α := (Int × (List (List Int)) × Unit)) n (fun ih6 x5 => br (decide (x5.1 < (a0.length : Int))) (chk (0 ≤ x5.1 ∧ x5.1 < (a0.length : Int)) ((toIntS.f n (a0.getD x5.1.toNat [])).bind fun r7 => chk (0 ≤ x5.1 ∧ x5.1 < (x5.2.1.length : Int)) (let v8 := (x5.2.1.set x5.1.toNat r7.1); ih6 ((w64 (x5.1 + 1)), (v8, ()))))) (some (x5.2.1, ()))) (0, ((List.replicate (a0.length : Int).toNat ([] : List Int)), ())))
noncomputable def toIntSS.mng (n : Nat) : Mng := ⟨[.val (.sl IS)], [.val (.sl IS)], fun x => toIntSS.f n x.1⟩
noncomputable def toIntSS.cfg (n : Nat) : Cfg := ⟨tys2, [(100, toIntS.mng n)], [], []⟩
theorem toIntSS.eq : ∀ (n : Nat) (a0 : List (List Int)), runF (toIntSS.cfg n) n Tryd.f68 (annOf Tryd.f68 toIntSS.las) [.val (.sl IS)] [.val (.sl IS)] (a0, ()) = toIntSS.f n a0 := by
  intros
  kernel_rfl
theorem toIntSS.gof : GoF Tryd.prog 68 := ⟨_, Tryd.func68, by kernel_rfl, by kernel_rfl⟩
theorem toIntSS.sound (n : Nat) : Sound Tryd.prog 68 (toIntSS.mng n) := runF_sound (fn := Tryd.f68) (m := toIntSS.mng n) (c := toIntSS.cfg n) (regOK mixed (opOK (.of (c := toIntSS.cfg n) ⟨⟨toIntS.sound n, toIntS.gof⟩, trivial⟩) (.of (c := toIntSS.cfg n) trivial)) (tysOK tys2_ok)) (tysOK tys2_ok) Tryd.func68 (fun x => (toIntSS.eq n x.1).symm)

def toState.las : List (Nat × LA) := []
noncomputable def toState.f (n : Nat) (a0 : State) : Option (State × Unit) := (toActorS.f n a0.1).bind fun r1 => (toIntSS.f n a0.2.1).bind fun r2 => (toIntSS.f n a0.2.2.1).bind fun r3 => some ((r1.1, (r2.1, (r3.1, a0.2.2.2))), ())
noncomputable def toState.mng (n : Nat) : Mng := ⟨[.val tState], [.val tState], fun x => toState.f n x.1⟩
noncomputable def toState.cfg (n : Nat) : Cfg := ⟨tys2, [(67, toActorS.mng n), (68, toIntSS.mng n)], [], []⟩
theorem toState.eq : ∀ (n : Nat) (a0 : State), runF (toState.cfg n) n Tryd.f27 (annOf Tryd.f27 toState.las) [.val tState] [.val tState] (a0, ()) = toState.f n a0 := by
  intros
  kernel_rfl
theorem toState.gof : GoF Tryd.prog 27 := ⟨_, Tryd.func27, by kernel_rfl, by kernel_rfl⟩
theorem toState.sound (n : Nat) : Sound Tryd.prog 27 (toState.mng n) := runF_sound (fn := Tryd.f27) (m := toState.mng n) (c := toState.cfg n) (regOK mixed (opOK (.of (c := toState.cfg n) ⟨⟨toActorS.sound n, toActorS.gof⟩, ⟨⟨toIntSS.sound n, toIntSS.gof⟩, trivial⟩⟩) (.of (c := toState.cfg n) trivial)) (tysOK tys2_ok)) (tysOK tys2_ok) Tryd.func27 (fun x => (toState.eq n x.1).symm)

def sL2Actor.las : List (Nat × LA) := []
noncomputable def sL2Actor.f (n : Nat) (a0 : Program) (a1 : Actor) : Option (Bool × Unit) := (sL1In.f n a1.1 0 (a0.2.2.length : Int)).bind fun r1 => br r1.1 (br (decide ((a1.2.length : Int) = 4)) ((sIsStream.f n a1.2).bind fun r2 => some (r2.1, ())) (some (false, ()))) (some (false, ()))
noncomputable def sL2Actor.mng (n : Nat) : Mng := ⟨[.val tProgram, .val tActor], [.val .bool], fun x => sL2Actor.f n x.1 x.2.1⟩
noncomputable def sL2Actor.cfg (n : Nat) : Cfg := ⟨tys2, [(72, sL1In.mng n), (86, sIsStream.mng n)], [], []⟩
theorem sL2Actor.eq : ∀ (n : Nat) (a0 : Program) (a1 : Actor), runF (sL2Actor.cfg n) n Tryd.f96 (annOf Tryd.f96 sL2Actor.las) [.val tProgram, .val tActor] [.val .bool] (a0, (a1, ())) = sL2Actor.f n a0 a1 := by
  intros
  kernel_rfl
theorem sL2Actor.gof : GoF Tryd.prog 96 := ⟨_, Tryd.func96, by kernel_rfl, by kernel_rfl⟩
theorem sL2Actor.sound (n : Nat) : Sound Tryd.prog 96 (sL2Actor.mng n) := runF_sound (fn := Tryd.f96) (m := sL2Actor.mng n) (c := sL2Actor.cfg n) (regOK mixed (opOK (.of (c := sL2Actor.cfg n) ⟨⟨sL1In.sound n, sL1In.gof⟩, ⟨⟨sIsStream.sound n, sIsStream.gof⟩, trivial⟩⟩) (.of (c := sL2Actor.cfg n) trivial)) (tysOK tys2_ok)) (tysOK tys2_ok) Tryd.func96 (fun x => (sL2Actor.eq n x.1 x.2.1).symm)

def sL1Begins.las : List (Nat × LA) := [(6, ⟨[(14, .int .i64)], [], [1, 12, 13], []⟩)]
noncomputable def sL1Begins.f (n : Nat) (a0 : List Int) (a1 : List Int) : Option (Bool × Unit) := br (decide ((a1.length : Int) < (a0.length : Int))) (some (false, ())) (iter (α := (Int × Unit)) n (fun ih6 x5 => br (decide (x5.1 < (a0.length : Int))) (chk (0 ≤ x5.1 ∧ x5.1 < (a0.length : Int)) (chk (0 ≤ x5.1 ∧ x5.1 < (a1.length : Int)) (br (!decide ((a1.getD x5.1.toNat 0) = (a0.getD x5.1.toNat 0))) (some (false, ())) (ih6 ((w64 (x5.1 + 1)), ()))))) (some (true, ()))) (0, ()))
noncomputable def sL1Begins.mng (n : Nat) : Mng := ⟨[.val IS, .val IS], [.val .bool], fun x => sL1Begins.f n x.1 x.2.1⟩
noncomputable def sL1Begins.cfg (n : Nat) : Cfg := ⟨tys2, [], [], []⟩
theorem sL1Begins.eq : ∀ (n : Nat) (a0 : List Int) (a1 : List Int), runF (sL1Begins.cfg n) n Tryd.f97 (annOf Tryd.f97 sL1Begins.las) [.val IS, .val IS] [.val .bool] (a0, (a1, ())) = sL1Begins.f n a0 a1 := by
  intros
  kernel_rfl
theorem sL1Begins.gof : GoF Tryd.prog 97 := ⟨_, Tryd.func97, by kernel_rfl, by kernel_rfl⟩
theorem sL1Begins.sound (n : Nat) : Sound Tryd.prog 97 (sL1Begins.mng n) := runF_sound (fn := Tryd.f97) (m := sL1Begins.mng n) (c := sL1Begins.cfg n) (regOK mixed (opOK (.of (c := sL1Begins.cfg n) trivial) (.of (c := sL1Begins.cfg n) trivial)) (tysOK tys2_ok)) (tysOK tys2_ok) Tryd.func97 (fun x => (sL1Begins.eq n x.1 x.2.1).symm)

def sL5Ends.las : List (Nat × LA) := []
noncomputable def sL5Ends.f (n : Nat) (a0 : List Int) (a1 : List Int) : Option (Bool × Unit) := br (decide ((a0.length : Int) ≤ (a1.length : Int))) (chk (0 ≤ (w64 ((a1.length : Int) - (a0.length : Int))) ∧ (w64 ((a1.length : Int) - (a0.length : Int))) ≤ (a1.length : Int) ∧ (a1.length : Int) ≤ (a1.length : Int)) ((sL1Begins.f n a0 ((a1.take (a1.length : Int).toNat).drop (w64 ((a1.length : Int) - (a0.length : Int))).toNat)).bind fun r1 => some (r1.1, ()))) (some (false, ()))
noncomputable def sL5Ends.mng (n : Nat) : Mng := ⟨[.val IS, .val IS], [.val .bool], fun x => sL5Ends.f n x.1 x.2.1⟩
noncomputable def sL5Ends.cfg (n : Nat) : Cfg := ⟨tys2, [(97, sL1Begins.mng n)], [], []⟩
theorem sL5Ends.eq : ∀ (n : Nat) (a0 : List Int) (a1 : List Int), runF (sL5Ends.cfg n) n Tryd.f98 (annOf Tryd.f98 sL5Ends.las) [.val IS, .val IS] [.val .bool] (a0, (a1, ())) = sL5Ends.f n a0 a1 := by
  intros
  kernel_rfl
theorem sL5Ends.gof : GoF Tryd.prog 98 := ⟨_, Tryd.func98, by kernel_rfl, by kernel_rfl⟩
theorem sL5Ends.sound (n : Nat) : Sound Tryd.prog 98 (sL5Ends.mng n) := runF_sound (fn := Tryd.f98) (m := sL5Ends.mng n) (c := sL5Ends.cfg n) (regOK mixed (opOK (.of (c := sL5Ends.cfg n) ⟨⟨sL1Begins.sound n, sL1Begins.gof⟩, trivial⟩) (.of (c := sL5Ends.cfg n) trivial)) (tysOK tys2_ok)) (tysOK tys2_ok) Tryd.func98 (fun x => (sL5Ends.eq n x.1 x.2.1).symm)

def sIsState.las : List (Nat × LA) := [(1, ⟨[(46, .bool)], [], [2, 3], []⟩), (6, ⟨[(50, .int .i64)], [], [2, 3, 48, 49], []⟩), (17, ⟨[(67, .int .i64)], [], [3, 65, 66], []⟩), (24, ⟨[(102, .bool)], [], [3, 8, 9, 10, 65, 66, 67], []⟩)]
noncomputable def sIsState.f (n : Nat) (a0 : Network) (a1 : State) : Option (Bool × Unit) := cut (α := (Bool × Unit)) ((sIsNetwork.f n a0).bind fun r4 => br (!r4.1) (some (.inr (true, ()))) (br (!decide ((a1.1.length : Int) = (a0.1.length : Int))) (some (.inr (true, ()))) (br (!decide ((a1.2.1.length : Int) = (a0.2.length : Int))) (some (.inr (true, ()))) (br (!decide ((a1.2.2.1.length : Int) = (a0.2.length : Int))) (some (.inr (true, ()))) ((sL1In.f n a1.2.2.2 0 20000).bind fun r5 => some (.inr ((!r5.1), ()))))))) fun y3 => br y3.1 (some (false, ())) (iter (α := (Int × Unit)) n (fun ih24 x23 => br (decide (x23.1 < (a1.1.length : Int))) (chk (0 ≤ x23.1 ∧ x23.1 < (a1.1.length : Int)) (let v25 := (a1.1.getD x23.1.toNat zActor); chk (0 ≤ x23.1 ∧ x23.1 < (a0.1.length : Int)) (let v26 := (a0.1.getD x23.1.toNat zProgram); (sL2Actor.f n v26 v25).bind fun r27 => br (!r27.1) (some (false, ())) (ih24 ((w64 (x23.1 + 1)), ()))))) (iter (α := (Int × Unit)) n (fun ih46 x45 => br (decide (x45.1 < (a0.2.length : Int))) (chk (0 ≤ x45.1 ∧ x45.1 < (a0.2.length : Int)) (let v47 := (a0.2.getD x45.1.toNat zLink); chk (0 ≤ x45.1 ∧ x45.1 < (a1.2.1.length : Int)) (let v48 := (a1.2.1.getD x45.1.toNat []); chk (0 ≤ x45.1 ∧ x45.1 < (a1.2.2.1.length : Int)) (let v49 := (a1.2.2.1.getD x45.1.toNat []); cut (α := (Bool × Unit)) ((sIsStream.f n v48).bind fun r55 => br (!r55.1) (some (.inr (true, ()))) ((sIsStream.f n v49).bind fun r56 => br (!r56.1) (some (.inr (true, ()))) ((sL1Begins.f n v47.2.2.2.2 v49).bind fun r57 => br (!r57.1) (some (.inr (true, ()))) ((sL5Ends.f n v48 v49).bind fun r58 => some (.inr ((!r58.1), ())))))) fun y54 => br y54.1 (some (false, ())) (br (decide (v47.1 = (-1))) (br (!decide ((v49.length : Int) = (v47.2.2.2.2.length : Int))) (some (false, ())) (br (decide (v47.2.2.1 = (-1))) (br (!decide ((v49.length : Int) = (v48.length : Int))) (some (false, ())) (ih46 ((w64 (x45.1 + 1)), ()))) (ih46 ((w64 (x45.1 + 1)), ())))) (br (decide (v47.2.2.1 = (-1))) (br (!decide ((v49.length : Int) = (v48.length : Int))) (some (false, ())) (ih46 ((w64 (x45.1 + 1)), ()))) (ih46 ((w64 (x45.1 + 1)), ())))))))) (some (true, ()))) (0, ()))) (0, ()))
noncomputable def sIsState.mng (n : Nat) : Mng := ⟨[.val tNetwork, .val tState], [.val .bool], fun x => sIsState.f n x.1 x.2.1⟩
noncomputable def sIsState.cfg (n : Nat) : Cfg := ⟨tys2, [(50, sIsNetwork.mng n), (72, sL1In.mng n), (96, sL2Actor.mng n), (86, sIsStream.mng n), (97, sL1Begins.mng n), (98, sL5Ends.mng n)], [], []⟩
theorem sIsState.eq : ∀ (n : Nat) (a0 : Network) (a1 : State), runF (sIsState.cfg n) n Tryd.f66 (annOf Tryd.f66 sIsState.las) [.val tNetwork, .val tState] [.val .bool] (a0, (a1, ())) = sIsState.f n a0 a1 := by
  intros
  kernel_rfl
theorem sIsState.gof : GoF Tryd.prog 66 := ⟨_, Tryd.func66, by kernel_rfl, by kernel_rfl⟩
theorem sIsState.sound (n : Nat) : Sound Tryd.prog 66 (sIsState.mng n) := runF_sound (fn := Tryd.f66) (m := sIsState.mng n) (c := sIsState.cfg n) (regOK mixed (opOK (.of (c := sIsState.cfg n) ⟨⟨sIsNetwork.sound n, sIsNetwork.gof⟩, ⟨⟨sL1In.sound n, sL1In.gof⟩, ⟨⟨sL2Actor.sound n, sL2Actor.gof⟩, ⟨⟨sIsStream.sound n, sIsStream.gof⟩, ⟨⟨sL1Begins.sound n, sL1Begins.gof⟩, ⟨⟨sL5Ends.sound n, sL5Ends.gof⟩, trivial⟩⟩⟩⟩⟩⟩) (.of (c := sIsState.cfg n) trivial)) (tysOK tys2_ok)) (tysOK tys2_ok) Tryd.func66 (fun x => (sIsState.eq n x.1 x.2.1).symm)

def isActor.las : List (Nat × LA) := []
noncomputable def isActor.f (n : Nat) (a0 : Program) (a1 : Actor) : Option (Bool × Unit) := br (decide (0 ≤ a1.1)) (br (decide (a1.1 ≤ (a0.2.2.length : Int))) (br (decide ((a1.2.length : Int) = 4)) ((iIsStream.f n a1.2).bind fun r1 => some (r1.1, ())) (some (false, ()))) (some (false, ()))) (some (false, ()))
noncomputable def isActor.mng (n : Nat) : Mng := ⟨[.val tProgram, .val tActor], [.val .bool], fun x => isActor.f n x.1 x.2.1⟩
noncomputable def isActor.cfg (n : Nat) : Cfg := ⟨tys2, [(90, iIsStream.mng n)], [], []⟩
theorem isActor.eq : ∀ (n : Nat) (a0 : Program) (a1 : Actor), runF (isActor.cfg n) n Tryd.f101 (annOf Tryd.f101 isActor.las) [.val tProgram, .val tActor] [.val .bool] (a0, (a1, ())) = isActor.f n a0 a1 := by
  intros
  kernel_rfl
theorem isActor.gof : GoF Tryd.prog 101 := ⟨_, Tryd.func101, by kernel_rfl, by kernel_rfl⟩
theorem isActor.sound (n : Nat) : Sound Tryd.prog 101 (isActor.mng n) := runF_sound (fn := Tryd.f101) (m := isActor.mng n) (c := isActor.cfg n) (regOK mixed (opOK (.of (c := isActor.cfg n) ⟨⟨iIsStream.sound n, iIsStream.gof⟩, trivial⟩) (.of (c := isActor.cfg n) trivial)) (tysOK tys2_ok)) (tysOK tys2_ok) Tryd.func101 (fun x => (isActor.eq n x.1 x.2.1).symm)

def equalI.las : List (Nat × LA) := [(6, ⟨[(13, .int .i64)], [], [0, 1, 12], []⟩)]
noncomputable def equalI.f (n : Nat) (a0 : List Int) (a1 : List Int) : Option (Bool × Unit) := br (!decide ((a0.length : Int) = (a1.length : Int))) (some (false, ())) (iter (α := (Int × Unit)) n (fun ih6 x5 => br (decide (x5.1 < (a0.length : Int))) (chk (0 ≤ x5.1 ∧ x5.1 < (a0.length : Int)) (chk (0 ≤ x5.1 ∧ x5.1 < (a1.length : Int)) (br (!decide ((a0.getD x5.1.toNat 0) = (a1.getD x5.1.toNat 0))) (some (false, ())) (ih6 ((w64 (x5.1 + 1)), ()))))) (some (true, ()))) (0, ()))
noncomputable def equalI.mng (n : Nat) : Mng := ⟨[.val IS, .val IS], [.val .bool], fun x => equalI.f n x.1 x.2.1⟩
noncomputable def equalI.cfg (n : Nat) : Cfg := ⟨tys2, [], [], []⟩
theorem equalI.eq : ∀ (n : Nat) (a0 : List Int) (a1 : List Int), runF (equalI.cfg n) n Tryd.f103 (annOf Tryd.f103 equalI.las) [.val IS, .val IS] [.val .bool] (a0, (a1, ())) = equalI.f n a0 a1 := by
  intros
  kernel_rfl
theorem equalI.gof : GoF Tryd.prog 103 := ⟨_, Tryd.func103, by kernel_rfl, by kernel_rfl⟩
theorem equalI.sound (n : Nat) : Sound Tryd.prog 103 (equalI.mng n) := runF_sound (fn := Tryd.f103) (m := equalI.mng n) (c := equalI.cfg n) (regOK mixed (opOK (.of (c := equalI.cfg n) trivial) (.of (c := equalI.cfg n) trivial)) (tysOK tys2_ok)) (tysOK tys2_ok) Tryd.func103 (fun x => (equalI.eq n x.1 x.2.1).symm)

def iIsPrefix.las : List (Nat × LA) := []
noncomputable def iIsPrefix.f (n : Nat) (a0 : List Int) (a1 : List Int) : Option (Bool × Unit) := (iIsStream.f n a0).bind fun r1 => br r1.1 ((iIsStream.f n a1).bind fun r2 => br r2.1 (br (decide ((a0.length : Int) ≤ (a1.length : Int))) (chk ((0 : Int) ≤ 0 ∧ (0 : Int) ≤ (a0.length : Int) ∧ (a0.length : Int) ≤ (a1.length : Int)) ((equalI.f n a0 ((a1.take (a0.length : Int).toNat).drop 0)).bind fun r3 => some (r3.1, ()))) (some (false, ()))) (some (false, ()))) (some (false, ()))
noncomputable def iIsPrefix.mng (n : Nat) : Mng := ⟨[.val IS, .val IS], [.val .bool], fun x => iIsPrefix.f n x.1 x.2.1⟩
noncomputable def iIsPrefix.cfg (n : Nat) : Cfg := ⟨tys2, [(90, iIsStream.mng n), (103, equalI.mng n)], [], []⟩
theorem iIsPrefix.eq : ∀ (n : Nat) (a0 : List Int) (a1 : List Int), runF (iIsPrefix.cfg n) n Tryd.f102 (annOf Tryd.f102 iIsPrefix.las) [.val IS, .val IS] [.val .bool] (a0, (a1, ())) = iIsPrefix.f n a0 a1 := by
  intros
  kernel_rfl
theorem iIsPrefix.gof : GoF Tryd.prog 102 := ⟨_, Tryd.func102, by kernel_rfl, by kernel_rfl⟩
theorem iIsPrefix.sound (n : Nat) : Sound Tryd.prog 102 (iIsPrefix.mng n) := runF_sound (fn := Tryd.f102) (m := iIsPrefix.mng n) (c := iIsPrefix.cfg n) (regOK mixed (opOK (.of (c := iIsPrefix.cfg n) ⟨⟨iIsStream.sound n, iIsStream.gof⟩, ⟨⟨equalI.sound n, equalI.gof⟩, trivial⟩⟩) (.of (c := iIsPrefix.cfg n) trivial)) (tysOK tys2_ok)) (tysOK tys2_ok) Tryd.func102 (fun x => (iIsPrefix.eq n x.1 x.2.1).symm)

def iIsState.las : List (Nat × LA) := [(1, ⟨[(50, .bool)], [], [2, 3], []⟩), (6, ⟨[(54, .int .i64)], [], [2, 3, 52, 53], []⟩), (17, ⟨[(71, .int .i64)], [], [3, 69, 70], []⟩), (23, ⟨[(114, .bool)], [], [3, 8, 9, 10, 69, 70, 71], []⟩)]
noncomputable def iIsState.f (n : Nat) (a0 : Network) (a1 : State) : Option (Bool × Unit) := cut (α := (Bool × Unit)) ((iIsNetwork.f n a0).bind fun r3 => br (!r3.1) (some (.inr (true, ()))) (br (!decide ((a1.1.length : Int) = (a0.1.length : Int))) (some (.inr (true, ()))) (br (!decide ((a1.2.1.length : Int) = (a0.2.length : Int))) (some (.inr (true, ()))) (br (!decide ((a1.2.2.1.length : Int) = (a0.2.length : Int))) (some (.inr (true, ()))) (br (decide (a1.2.2.2 < 0)) (some (.inr (true, ()))) (some (.inr ((decide (20000 < a1.2.2.2)), ())))))))) fun y2 => br y2.1 (some (false, ())) (iter (α := (Int × Unit)) n (fun ih22 x21 => br (decide (x21.1 < (a0.1.length : Int))) (chk (0 ≤ x21.1 ∧ x21.1 < (a0.1.length : Int)) (let v23 := (a0.1.getD x21.1.toNat zProgram); chk (0 ≤ x21.1 ∧ x21.1 < (a1.1.length : Int)) (let v24 := (a1.1.getD x21.1.toNat zActor); (isActor.f n v23 v24).bind fun r25 => br (!r25.1) (some (false, ())) (ih22 ((w64 (x21.1 + 1)), ()))))) (iter (α := (Int × Unit)) n (fun ih42 x41 => br (decide (x41.1 < (a0.2.length : Int))) (chk (0 ≤ x41.1 ∧ x41.1 < (a0.2.length : Int)) (let v43 := (a0.2.getD x41.1.toNat zLink); chk (0 ≤ x41.1 ∧ x41.1 < (a1.2.1.length : Int)) (let v44 := (a1.2.1.getD x41.1.toNat []); chk (0 ≤ x41.1 ∧ x41.1 < (a1.2.2.1.length : Int)) (let v45 := (a1.2.2.1.getD x41.1.toNat []); cut (α := (Bool × Unit)) ((iIsStream.f n v44).bind fun r50 => br (!r50.1) (some (.inr (true, ()))) ((iIsPrefix.f n v43.2.2.2.2 v45).bind fun r51 => br (!r51.1) (some (.inr (true, ()))) (br (decide ((v45.length : Int) < (v44.length : Int))) (some (.inr (true, ()))) (chk (0 ≤ (w64 ((v45.length : Int) - (v44.length : Int))) ∧ (w64 ((v45.length : Int) - (v44.length : Int))) ≤ (v45.length : Int) ∧ (v45.length : Int) ≤ (v45.length : Int)) ((equalI.f n v44 ((v45.take (v45.length : Int).toNat).drop (w64 ((v45.length : Int) - (v44.length : Int))).toNat)).bind fun r52 => some (.inr ((!r52.1), ()))))))) fun y49 => br y49.1 (some (false, ())) (br (decide (v43.1 = (-1))) (br (!decide ((v45.length : Int) = (v43.2.2.2.2.length : Int))) (some (false, ())) (br (decide (v43.2.2.1 = (-1))) (br (!decide ((v44.length : Int) = (v45.length : Int))) (some (false, ())) (ih42 ((w64 (x41.1 + 1)), ()))) (ih42 ((w64 (x41.1 + 1)), ())))) (br (decide (v43.2.2.1 = (-1))) (br (!decide ((v44.length : Int) = (v45.length : Int))) (some (false, ())) (ih42 ((w64 (x41.1 + 1)), ()))) (ih42 ((w64 (x41.1 + 1)), ())))))))) (some (true, ()))) (0, ()))) (0, ()))
noncomputable def iIsState.mng (n : Nat) : Mng := ⟨[.val tNetwork, .val tState], [.val .bool], fun x => iIsState.f n x.1 x.2.1⟩
noncomputable def iIsState.cfg (n : Nat) : Cfg := ⟨tys2, [(54, iIsNetwork.mng n), (101, isActor.mng n), (90, iIsStream.mng n), (102, iIsPrefix.mng n), (103, equalI.mng n)], [], []⟩
theorem iIsState.eq : ∀ (n : Nat) (a0 : Network) (a1 : State), runF (iIsState.cfg n) n Tryd.f69 (annOf Tryd.f69 iIsState.las) [.val tNetwork, .val tState] [.val .bool] (a0, (a1, ())) = iIsState.f n a0 a1 := by
  intros
  kernel_rfl
theorem iIsState.gof : GoF Tryd.prog 69 := ⟨_, Tryd.func69, by kernel_rfl, by kernel_rfl⟩
theorem iIsState.sound (n : Nat) : Sound Tryd.prog 69 (iIsState.mng n) := runF_sound (fn := Tryd.f69) (m := iIsState.mng n) (c := iIsState.cfg n) (regOK mixed (opOK (.of (c := iIsState.cfg n) ⟨⟨iIsNetwork.sound n, iIsNetwork.gof⟩, ⟨⟨isActor.sound n, isActor.gof⟩, ⟨⟨iIsStream.sound n, iIsStream.gof⟩, ⟨⟨iIsPrefix.sound n, iIsPrefix.gof⟩, ⟨⟨equalI.sound n, equalI.gof⟩, trivial⟩⟩⟩⟩⟩) (.of (c := iIsState.cfg n) trivial)) (tysOK tys2_ok)) (tysOK tys2_ok) Tryd.func69 (fun x => (iIsState.eq n x.1 x.2.1).symm)

def eqActor.las : List (Nat × LA) := []
noncomputable def eqActor.f (n : Nat) (a0 : Actor) (a1 : Actor) : Option (Bool × Unit) := br (!decide (a0.1 = a1.1)) (some (false, ())) ((eqIntS.f n a0.2 a1.2).bind fun r1 => br (!r1.1) (some (false, ())) (some (true, ())))
noncomputable def eqActor.mng (n : Nat) : Mng := ⟨[.val tActor, .val tActor], [.val .bool], fun x => eqActor.f n x.1 x.2.1⟩
noncomputable def eqActor.cfg (n : Nat) : Cfg := ⟨tys2, [(105, eqIntS.mng n)], [], []⟩
theorem eqActor.eq : ∀ (n : Nat) (a0 : Actor) (a1 : Actor), runF (eqActor.cfg n) n Tryd.f104 (annOf Tryd.f104 eqActor.las) [.val tActor, .val tActor] [.val .bool] (a0, (a1, ())) = eqActor.f n a0 a1 := by
  intros
  kernel_rfl
theorem eqActor.gof : GoF Tryd.prog 104 := ⟨_, Tryd.func104, by kernel_rfl, by kernel_rfl⟩
theorem eqActor.sound (n : Nat) : Sound Tryd.prog 104 (eqActor.mng n) := runF_sound (fn := Tryd.f104) (m := eqActor.mng n) (c := eqActor.cfg n) (regOK mixed (opOK (.of (c := eqActor.cfg n) ⟨⟨eqIntS.sound n, eqIntS.gof⟩, trivial⟩) (.of (c := eqActor.cfg n) trivial)) (tysOK tys2_ok)) (tysOK tys2_ok) Tryd.func104 (fun x => (eqActor.eq n x.1 x.2.1).symm)

def eqActorS.las : List (Nat × LA) := [(6, ⟨[(5, .int .i64)], [], [0, 1], []⟩)]
noncomputable def eqActorS.f (n : Nat) (a0 : List Actor) (a1 : List Actor) : Option (Bool × Unit) := br (!decide ((a0.length : Int) = (a1.length : Int))) (some (false, ())) (iter (α := (Int × Unit)) n (fun ih8 x7 => br (decide (x7.1 < (a0.length : Int))) (chk (0 ≤ x7.1 ∧ x7.1 < (a0.length : Int)) (let v9 := (a0.getD x7.1.toNat zActor); chk (0 ≤ x7.1 ∧ x7.1 < (a1.length : Int)) (let v10 := (a1.getD x7.1.toNat zActor); (eqActor.f n v9 v10).bind fun r11 => br (!r11.1) (some (false, ())) (ih8 ((w64 (x7.1 + 1)), ()))))) (some (true, ()))) (0, ()))
noncomputable def eqActorS.mng (n : Nat) : Mng := ⟨[.val (.sl tActor), .val (.sl tActor)], [.val .bool], fun x => eqActorS.f n x.1 x.2.1⟩
noncomputable def eqActorS.cfg (n : Nat) : Cfg := ⟨tys2, [(104, eqActor.mng n)], [], []⟩
theorem eqActorS.eq : ∀ (n : Nat) (a0 : List Actor) (a1 : List Actor), runF (eqActorS.cfg n) n Tryd.f70 (annOf Tryd.f70 eqActorS.las) [.val (.sl tActor), .val (.sl tActor)] [.val .bool] (a0, (a1, ())) = eqActorS.f n a0 a1 := by
  intros
  kernel_rfl
theorem eqActorS.gof : GoF Tryd.prog 70 := ⟨_, Tryd.func70, by kernel_rfl, by kernel_rfl⟩
theorem eqActorS.sound (n : Nat) : Sound Tryd.prog 70 (eqActorS.mng n) := runF_sound (fn := Tryd.f70) (m := eqActorS.mng n) (c := eqActorS.cfg n) (regOK mixed (opOK (.of (c := eqActorS.cfg n) ⟨⟨eqActor.sound n, eqActor.gof⟩, trivial⟩) (.of (c := eqActorS.cfg n) trivial)) (tysOK tys2_ok)) (tysOK tys2_ok) Tryd.func70 (fun x => (eqActorS.eq n x.1 x.2.1).symm)

def eqIntSS.las : List (Nat × LA) := [(6, ⟨[(5, .int .i64)], [], [0, 1], []⟩)]
noncomputable def eqIntSS.f (n : Nat) (a0 : List (List Int)) (a1 : List (List Int)) : Option (Bool × Unit) := br (!decide ((a0.length : Int) = (a1.length : Int))) (some (false, ())) (iter (α := (Int × Unit)) n (fun ih6 x5 => br (decide (x5.1 < (a0.length : Int))) (chk (0 ≤ x5.1 ∧ x5.1 < (a0.length : Int)) (chk (0 ≤ x5.1 ∧ x5.1 < (a1.length : Int)) ((eqIntS.f n (a0.getD x5.1.toNat []) (a1.getD x5.1.toNat [])).bind fun r7 => br (!r7.1) (some (false, ())) (ih6 ((w64 (x5.1 + 1)), ()))))) (some (true, ()))) (0, ()))
noncomputable def eqIntSS.mng (n : Nat) : Mng := ⟨[.val (.sl IS), .val (.sl IS)], [.val .bool], fun x => eqIntSS.f n x.1 x.2.1⟩
noncomputable def eqIntSS.cfg (n : Nat) : Cfg := ⟨tys2, [(105, eqIntS.mng n)], [], []⟩
theorem eqIntSS.eq : ∀ (n : Nat) (a0 : List (List Int)) (a1 : List (List Int)), runF (eqIntSS.cfg n) n Tryd.f71 (annOf Tryd.f71 eqIntSS.las) [.val (.sl IS), .val (.sl IS)] [.val .bool] (a0, (a1, ())) = eqIntSS.f n a0 a1 := by
  intros
  kernel_rfl
theorem eqIntSS.gof : GoF Tryd.prog 71 := ⟨_, Tryd.func71, by kernel_rfl, by kernel_rfl⟩
theorem eqIntSS.sound (n : Nat) : Sound Tryd.prog 71 (eqIntSS.mng n) := runF_sound (fn := Tryd.f71) (m := eqIntSS.mng n) (c := eqIntSS.cfg n) (regOK mixed (opOK (.of (c := eqIntSS.cfg n) ⟨⟨eqIntS.sound n, eqIntS.gof⟩, trivial⟩) (.of (c := eqIntSS.cfg n) trivial)) (tysOK tys2_ok)) (tysOK tys2_ok) Tryd.func71 (fun x => (eqIntSS.eq n x.1 x.2.1).symm)

def eqState.las : List (Nat × LA) := []
noncomputable def eqState.f (n : Nat) (a0 : State) (a1 : State) : Option (Bool × Unit) := (eqActorS.f n a0.1 a1.1).bind fun r1 => br (!r1.1) (some (false, ())) ((eqIntSS.f n a0.2.1 a1.2.1).bind fun r2 => br (!r2.1) (some (false, ())) ((eqIntSS.f n a0.2.2.1 a1.2.2.1).bind fun r3 => br (!r3.1) (some (false, ())) (br (!decide (a0.2.2.2 = a1.2.2.2)) (some (false, ())) (some (true, ())))))
noncomputable def eqState.mng (n : Nat) : Mng := ⟨[.val tState, .val tState], [.val .bool], fun x => eqState.f n x.1 x.2.1⟩
noncomputable def eqState.cfg (n : Nat) : Cfg := ⟨tys2, [(70, eqActorS.mng n), (71, eqIntSS.mng n)], [], []⟩
theorem eqState.eq : ∀ (n : Nat) (a0 : State) (a1 : State), runF (eqState.cfg n) n Tryd.f29 (annOf Tryd.f29 eqState.las) [.val tState, .val tState] [.val .bool] (a0, (a1, ())) = eqState.f n a0 a1 := by
  intros
  kernel_rfl
theorem eqState.gof : GoF Tryd.prog 29 := ⟨_, Tryd.func29, by kernel_rfl, by kernel_rfl⟩
theorem eqState.sound (n : Nat) : Sound Tryd.prog 29 (eqState.mng n) := runF_sound (fn := Tryd.f29) (m := eqState.mng n) (c := eqState.cfg n) (regOK mixed (opOK (.of (c := eqState.cfg n) ⟨⟨eqActorS.sound n, eqActorS.gof⟩, ⟨⟨eqIntSS.sound n, eqIntSS.gof⟩, trivial⟩⟩) (.of (c := eqState.cfg n) trivial)) (tysOK tys2_ok)) (tysOK tys2_ok) Tryd.func29 (fun x => (eqState.eq n x.1 x.2.1).symm)
end Go.AmT
