/- Functions that the law FnExactExpandState reaches, each as a plain Lean function, and that each does what that says. No condition. -/
import Derived.Test.YtkgknijpmcagmaaGreatPMarkS
import Derived.Test.YtkgknijpmcagmaaGreatPRun
import Derived.Test.YtkgknijpmcagmaaGreatPExp0
namespace Go.AmT
open Go Go.Am Go.Proofs
set_option linter.unusedVariables false
set_option maxRecDepth 100000
def tys9 : List (Nat × TInfo) := [(3, ⟨false, 1, 8, [.int .i64 0], .int .i64, 0, some I, [], false⟩),
  (22, ⟨false, 1, 24, [.nil], .slice, 135, some (.sl tProgram), [], false⟩),
  (23, ⟨false, 1, 24, [.nil], .slice, 137, some (.sl tLink), [], false⟩),
  (25, ⟨true, 2, 48, [.nil, .nil], .struct, 0, some tNetwork, [(0, 22), (1, 23)], false⟩),
  (26, ⟨false, 1, 24, [.nil], .slice, 139, some (.sl tActor), [], false⟩),
  (27, ⟨false, 1, 24, [.nil], .slice, 75, some (.sl IS), [], false⟩),
  (29, ⟨true, 4, 80, [.nil, .nil, .nil, .int .i64 0], .struct, 0, some tState, [(0, 26), (1, 27), (2, 27), (3, 3)], false⟩),
  (32, ⟨false, 1, 24, [.nil], .slice, 77, some (.sl tActor), [], false⟩),
  (34, ⟨true, 4, 80, [.nil, .nil, .nil, .int .i64 0], .struct, 0, some tState, [(0, 32), (1, 27), (2, 27), (3, 3)], false⟩),
  (37, ⟨false, 1, 24, [.nil], .slice, 53, some (.sl tProgram), [], false⟩),
  (38, ⟨false, 1, 24, [.nil], .slice, 81, some (.sl tLink), [], false⟩),
  (40, ⟨true, 2, 48, [.nil, .nil], .struct, 0, some tNetwork, [(0, 37), (1, 38)], false⟩),
  (53, ⟨true, 3, 40, [.int .i64 0, .int .i64 0, .nil], .struct, 0, some tProgram, [(0, 3), (1, 3), (2, 51)], false⟩),
  (75, ⟨false, 1, 24, [.nil], .slice, 3, some IS, [], false⟩),
  (77, ⟨true, 2, 32, [.int .i64 0, .nil], .struct, 0, some tActor, [(0, 3), (1, 75)], false⟩),
  (81, ⟨true, 5, 56, [.int .i64 0, .int .i64 0, .int .i64 0, .int .i64 0, .nil], .struct, 0, some tLink, [(0, 3), (1, 3), (2, 3), (3, 3), (4, 75)], false⟩)]
theorem tys9_ok : (tys9.all fun p => tokB Tryz.prog p.1 p.2) = true := by kernel_rfl

def sL8New.las : List (Nat × LA) := [(3, ⟨[(8, .int .i64)], [], [1, 6, 7], []⟩)]
noncomputable def sL8New.f (n : Nat) (a0 : Actor) : Option (Bool × Unit) := iter (α := (Int × Unit)) n (fun ih7 x6 => br (decide (x6.1 < (a0.2.length : Int))) (chk (0 ≤ x6.1 ∧ x6.1 < (a0.2.length : Int)) (br (!decide ((a0.2.getD x6.1.toNat 0) = 0)) (some (false, ())) (ih7 ((w64 (x6.1 + 1)), ())))) (some ((decide (a0.1 = 0)), ()))) (0, ())
noncomputable def sL8New.mng (n : Nat) : Mng := ⟨[.val tActor], [.val .bool], fun x => sL8New.f n x.1⟩
noncomputable def sL8New.cfg (n : Nat) : Cfg := ⟨tys9, [], [], []⟩
theorem sL8New.eq : ∀ (n : Nat) (a0 : Actor), runF (sL8New.cfg n) n Tryz.f36 (annOf Tryz.f36 sL8New.las) [.val tActor] [.val .bool] (a0, ()) = sL8New.f n a0 := by
  intros
  kernel_rfl
theorem sL8New.gof : GoF Tryz.prog 36 := ⟨_, Tryz.func36, by kernel_rfl, by kernel_rfl⟩
theorem sL8New.sound (n : Nat) : Sound Tryz.prog 36 (sL8New.mng n) := runF_sound (fn := Tryz.f36) (m := sL8New.mng n) (c := sL8New.cfg n) (regOK mixed (opOK (.of (c := sL8New.cfg n) trivial) (.of (c := sL8New.cfg n) trivial)) (tysOK tys9_ok)) (tysOK tys9_ok) Tryz.func36 (fun x => (sL8New.eq n x.1).symm)

def toNetworkR.las : List (Nat × LA) := []
noncomputable def toNetworkR.f (n : Nat) (a0 : Network) : Option (Network × Unit) := (toProgramS.f n a0.1).bind fun r1 => (toLinkS.f n a0.2).bind fun r2 => some ((r1.1, r2.1), ())
noncomputable def toNetworkR.mng (n : Nat) : Mng := ⟨[.val tNetwork], [.sh tNetwork], fun x => toNetworkR.f n x.1⟩
noncomputable def toNetworkR.cfg (n : Nat) : Cfg := ⟨tys9, [(40, toProgramS.mng n), (41, toLinkS.mng n)], [], []⟩
theorem toNetworkR.eq : ∀ (n : Nat) (a0 : Network), runF (toNetworkR.cfg n) n Tryz.f8 (annOf Tryz.f8 toNetworkR.las) [.val tNetwork] [.sh tNetwork] (a0, ()) = toNetworkR.f n a0 := by
  intros
  kernel_rfl
theorem toNetworkR.gof : GoF Tryz.prog 8 := ⟨_, Tryz.func8, by kernel_rfl, by kernel_rfl⟩
theorem toNetworkR.sound (n : Nat) : Sound Tryz.prog 8 (toNetworkR.mng n) := runF_sound (fn := Tryz.f8) (m := toNetworkR.mng n) (c := toNetworkR.cfg n) (regOK mixed (opOK (.of (c := toNetworkR.cfg n) ⟨⟨toProgramS.sound n, toProgramS.gof⟩, ⟨⟨toLinkS.sound n, toLinkS.gof⟩, trivial⟩⟩) (.of (c := toNetworkR.cfg n) trivial)) (tysOK tys9_ok)) (tysOK tys9_ok) Tryz.func8 (fun x => (toNetworkR.eq n x.1).symm)

def toStateR.las : List (Nat × LA) := []
noncomputable def toStateR.f (n : Nat) (a0 : State) : Option (State × Unit) := (toActorS.f n a0.1).bind fun r1 => (toIntSS.f n a0.2.1).bind fun r2 => (toIntSS.f n a0.2.2.1).bind fun r3 => some ((r1.1, (r2.1, (r3.1, a0.2.2.2))), ())
noncomputable def toStateR.mng (n : Nat) : Mng := ⟨[.val tState], [.sh tState], fun x => toStateR.f n x.1⟩
noncomputable def toStateR.cfg (n : Nat) : Cfg := ⟨tys9, [(42, toActorS.mng n), (43, toIntSS.mng n)], [], []⟩
theorem toStateR.eq : ∀ (n : Nat) (a0 : State), runF (toStateR.cfg n) n Tryz.f9 (annOf Tryz.f9 toStateR.las) [.val tState] [.sh tState] (a0, ()) = toStateR.f n a0 := by
  intros
  kernel_rfl
theorem toStateR.gof : GoF Tryz.prog 9 := ⟨_, Tryz.func9, by kernel_rfl, by kernel_rfl⟩
theorem toStateR.sound (n : Nat) : Sound Tryz.prog 9 (toStateR.mng n) := runF_sound (fn := Tryz.f9) (m := toStateR.mng n) (c := toStateR.cfg n) (regOK mixed (opOK (.of (c := toStateR.cfg n) ⟨⟨toActorS.sound n, toActorS.gof⟩, ⟨⟨toIntSS.sound n, toIntSS.gof⟩, trivial⟩⟩) (.of (c := toStateR.cfg n) trivial)) (tysOK tys9_ok)) (tysOK tys9_ok) Tryz.func9 (fun x => (toStateR.eq n x.1).symm)

def sL1CopyR.las : List (Nat × LA) := []
noncomputable def sL1CopyR.f (n : Nat) (a0 : List Int) : Option ((List Int) × Unit) := chk ((([] : List Int).length + a0.length) * 8 ≤ maxB) (some ((([] : List Int) ++ a0), ()))
noncomputable def sL1CopyR.mng (n : Nat) : Mng := ⟨[.val IS], [.sh IS], fun x => sL1CopyR.f n x.1⟩
noncomputable def sL1CopyR.cfg (n : Nat) : Cfg := ⟨tys9, [], [], []⟩
theorem sL1CopyR.eq : ∀ (n : Nat) (a0 : List Int), runF (sL1CopyR.cfg n) n Tryz.f39 (annOf Tryz.f39 sL1CopyR.las) [.val IS] [.sh IS] (a0, ()) = sL1CopyR.f n a0 := by
  intros
  kernel_rfl
theorem sL1CopyR.gof : GoF Tryz.prog 39 := ⟨_, Tryz.func39, by kernel_rfl, by kernel_rfl⟩
theorem sL1CopyR.sound (n : Nat) : Sound Tryz.prog 39 (sL1CopyR.mng n) := runF_sound (fn := Tryz.f39) (m := sL1CopyR.mng n) (c := sL1CopyR.cfg n) (regOK mixed (opOK (.of (c := sL1CopyR.cfg n) trivial) (.of (c := sL1CopyR.cfg n) trivial)) (tysOK tys9_ok)) (tysOK tys9_ok) Tryz.func39 (fun x => (sL1CopyR.eq n x.1).symm)

def sNewActorR.las : List (Nat × LA) := []
noncomputable def sNewActorR.f (n : Nat) (a0 : Program) : Option (Actor × Unit) := (sIsProgram.f n a0).bind fun r1 => br (!r1.1) (some ((0, []), ())) (some ((0, [0, 0, 0, 0]), ()))
noncomputable def sNewActorR.mng (n : Nat) : Mng := ⟨[.val tProgram], [.sh tActor], fun x => sNewActorR.f n x.1⟩
noncomputable def sNewActorR.cfg (n : Nat) : Cfg := ⟨tys9, [(64, sIsProgram.mng n)], [], []⟩
theorem sNewActorR.eq : ∀ (n : Nat) (a0 : Program), runF (sNewActorR.cfg n) n Tryz.f38 (annOf Tryz.f38 sNewActorR.las) [.val tProgram] [.sh tActor] (a0, ()) = sNewActorR.f n a0 := by
  intros
  kernel_rfl
theorem sNewActorR.gof : GoF Tryz.prog 38 := ⟨_, Tryz.func38, by kernel_rfl, by kernel_rfl⟩
theorem sNewActorR.sound (n : Nat) : Sound Tryz.prog 38 (sNewActorR.mng n) := runF_sound (fn := Tryz.f38) (m := sNewActorR.mng n) (c := sNewActorR.cfg n) (regOK mixed (opOK (.of (c := sNewActorR.cfg n) ⟨⟨sIsProgram.sound n, sIsProgram.gof⟩, trivial⟩) (.of (c := sNewActorR.cfg n) trivial)) (tysOK tys9_ok)) (tysOK tys9_ok) Tryz.func38 (fun x => (sNewActorR.eq n x.1).symm)

def sL5CopyF.las : List (Nat × LA) := [(4, ⟨[(3, .vptr 1000 0), (16, .int .i64)], [(1000, .cells [] [.own 1001 tActor, .con (.nil), .con (.nil), .int .i64]), (1001, .row false tActor)], [1, 2, 14, 15], []⟩), (13, ⟨[(3, .vptr 1000 0), (35, .int .i64)], [(1000, .cells [] [.own 1001 tActor, .own 1002 IS, .con (.nil), .int .i64]), (1001, .row false tActor), (1002, .row true IS)], [1, 2, 33, 34], []⟩), (22, ⟨[(3, .vptr 1000 0), (50, .int .i64)], [(1000, .cells [] [.own 1001 tActor, .own 1002 IS, .own 1003 IS, .int .i64]), (1001, .row false tActor), (1002, .row true IS), (1003, .row true IS)], [2, 48, 49], []⟩)]
def sL5CopyF.la : LA := ⟨[(0, .agg [.sh tActor, .sh IS, .sh IS, .int .i64])], [], [], []⟩
def sL5CopyF.lb : LA := ⟨[(0, .agg [.own 1000 tActor, .own 1001 IS, .own 1002 IS, .int .i64])], [(1000, .row false tActor), (1001, .row true IS), (1002, .row true IS)], [], []⟩
noncomputable def sL5CopyF.f (n : Nat) (a0 : List Actor) (a1 : List (List Int)) (a2 : List (List Int)) (a3 : Int) : Option (Int × (List Actor) × (List (List Int)) × (List (List Int)) × Unit) := iter (α := (Int × (Int × (List Actor) × Unit))) n (fun ih29 x28 => br (decide (x28.1 < (a0.length : Int))) (chk (0 ≤ x28.1 ∧ x28.1 < (a0.length : Int)) (let v30 := (a0.getD x28.1.toNat zActor); (sL1CopyR.f n v30.2).bind fun r31 => chk ((x28.2.2.1.length + ([(v30.1, r31.1)] : List Actor).length) * 32 ≤ maxB) (ih29 ((w64 (x28.1 + 1)), (x28.2.1, ((x28.2.2.1 ++ [(v30.1, r31.1)]), ())))))) (iter (α := (Int × (Int × (List Actor) × (List (List Int)) × Unit))) n (fun ih59 x58 => br (decide (x58.1 < (a1.length : Int))) (chk (0 ≤ x58.1 ∧ x58.1 < (a1.length : Int)) ((sL1Copy.f n (a1.getD x58.1.toNat [])).bind fun r60 => chk ((x58.2.2.2.1.length + ([r60.1] : List (List Int)).length) * 24 ≤ maxB) (ih59 ((w64 (x58.1 + 1)), (x58.2.1, (x58.2.2.1, ((x58.2.2.2.1 ++ [r60.1]), ()))))))) (iter (α := (Int × (Int × (List Actor) × (List (List Int)) × (List (List Int)) × Unit))) n (fun ih79 x78 => br (decide (x78.1 < (a2.length : Int))) (chk (0 ≤ x78.1 ∧ x78.1 < (a2.length : Int)) ((sL1Copy.f n (a2.getD x78.1.toNat [])).bind fun r80 => chk ((x78.2.2.2.2.1.length + ([r80.1] : List (List Int)).length) * 24 ≤ maxB) (ih79 ((w64 (x78.1 + 1)), (x78.2.1, (x78.2.2.1, (x78.2.2.2.1, ((x78.2.2.2.2.1 ++ [r80.1]), ())))))))) (some (x78.2.1, (x78.2.2.1, (x78.2.2.2.1, (x78.2.2.2.2.1, ())))))) (0, (x58.2.1, (x58.2.2.1, (x58.2.2.2.1, ([], ()))))))) (0, (x28.2.1, (x28.2.2.1, ([], ())))))) (0, (a3, ([], ())))
noncomputable def sL5CopyF.mng (n : Nat) : LMng := ⟨sL5CopyF.la, sL5CopyF.lb, fun x => sL5CopyF.f n x.1 x.2.1 x.2.2.1 x.2.2.2.1⟩
noncomputable def sL5CopyF.cfg (n : Nat) : Cfg := ⟨tys9, [(1000039, sL1CopyR.mng n), (39, sL1Copy.mng n)], [], [2000044]⟩
theorem sL5CopyF.eq : ∀ (n : Nat) (a0 : List Actor) (a1 : List (List Int)) (a2 : List (List Int)) (a3 : Int) (mp : Mp), LMng.run (sL5CopyF.cfg n) n Tryz.f37 (annOf Tryz.f37 sL5CopyF.las) sL5CopyF.la sL5CopyF.lb (a0, (a1, (a2, (a3, mp)))) = sL5CopyF.f n a0 a1 a2 a3 := by
  intros
  kernel_rfl
theorem sL5CopyF.gof : GoF Tryz.prog 37 := ⟨_, Tryz.func37, by kernel_rfl, by kernel_rfl⟩
theorem sL5CopyF.sound (n : Nat) : LSound Tryz.prog 37 (sL5CopyF.mng n) := runL_sound (fn := Tryz.f37) (M := sL5CopyF.mng n) (c := sL5CopyF.cfg n) (regOK mixed (opOK (.of (c := sL5CopyF.cfg n) ⟨⟨sL1CopyR.sound n, sL1CopyR.gof⟩, ⟨⟨sL1Copy.sound n, sL1Copy.gof⟩, trivial⟩⟩) (.of (c := sL5CopyF.cfg n) trivial)) (tysOK tys9_ok)) (tysOK tys9_ok) Tryz.func37 (fun x => (sL5CopyF.eq n x.1 x.2.1 x.2.2.1 x.2.2.2.1 x.2.2.2.2).symm)

def sExpandState.las : List (Nat × LA) := [(2, ⟨[(43, .bool)], [], [2, 5, 7, 8, 10], []⟩), (9, ⟨[(13, .vptr 1000 0), (57, .int .i64)], [(1000, .cells [] [.own 1001 tActor, .own 1002 IS, .own 1003 IS, .int .i64]), (1001, .row false tActor), (1002, .row true IS), (1003, .row true IS)], [2, 7, 8, 10, 55, 56], []⟩), (20, ⟨[(13, .vptr 1000 0), (75, .int .i64)], [(1000, .cells [] [.own 1001 tActor, .own 1002 IS, .own 1003 IS, .int .i64]), (1001, .row false tActor), (1002, .row true IS), (1003, .row true IS)], [7, 8, 10, 73, 74], []⟩), (29, ⟨[(13, .vptr 1000 0), (90, .int .i64)], [(1000, .cells [] [.own 1001 tActor, .own 1002 IS, .own 1003 IS, .int .i64]), (1001, .row false tActor), (1002, .row true IS), (1003, .row true IS)], [8, 10, 88, 89], []⟩), (34, ⟨[(101, .bool)], [], [8, 10, 13, 19, 88, 89, 90], []⟩)]
noncomputable def sExpandState.f (n : Nat) (a0 : Network) (a1 : State) (a2 : Int) (a3 : Network) : Option (State × (Bool × Unit)) := (sExpandNetwork.f n a0 a2 a3).bind fun r1 => cut (α := (Bool × Unit)) (br (!r1.2.1) (some (.inr (true, ()))) ((sIsState.f n a0 a1).bind fun r6 => br (!r6.1) (some (.inr (true, ()))) (chk (0 ≤ a2 ∧ a2 < (a1.1.length : Int)) (let v7 := (a1.1.getD a2.toNat zActor); (sL8New.f n v7).bind fun r8 => some (.inr ((!r8.1), ())))))) fun y5 => br y5.1 (some (([], ([], ([], 0))), (false, ()))) ((sL5CopyF.f n a1.1 a1.2.1 a1.2.2.1 a1.2.2.2).bind fun r9 => iter (α := (Int × (Int × (List Actor) × (List (List Int)) × (List (List Int)) × Unit))) n (fun ih38 x37 => br (decide (x37.1 < (r9.2.1.length : Int))) (chk (0 ≤ x37.1 ∧ x37.1 < (r9.2.1.length : Int)) (br (!decide (x37.1 = a2)) (chk ((x37.2.2.1.length + ([(r9.2.1.getD x37.1.toNat zActor)] : List Actor).length) * 32 ≤ maxB) (ih38 ((w64 (x37.1 + 1)), (x37.2.1, ((x37.2.2.1 ++ [(r9.2.1.getD x37.1.toNat zActor)]), (x37.2.2.2.1, (x37.2.2.2.2.1, ()))))))) (ih38 ((w64 (x37.1 + 1)), (x37.2.1, (x37.2.2.1, (x37.2.2.2.1, (x37.2.2.2.2.1, ())))))))) (iter (α := (Int × (Int × (List Actor) × (List (List Int)) × (List (List Int)) × Unit))) n (fun ih58 x57 => br (decide (x57.1 < (a3.1.length : Int))) (chk (0 ≤ x57.1 ∧ x57.1 < (a3.1.length : Int)) (let v59 := (a3.1.getD x57.1.toNat zProgram); (sNewActorR.f n v59).bind fun r60 => chk ((x57.2.2.1.length + ([r60.1] : List Actor).length) * 32 ≤ maxB) (ih58 ((w64 (x57.1 + 1)), (x57.2.1, ((x57.2.2.1 ++ [r60.1]), (x57.2.2.2.1, (x57.2.2.2.2.1, ())))))))) (iter (α := (Int × (Int × (List Actor) × (List (List Int)) × (List (List Int)) × Unit))) n (fun ih82 x81 => br (decide (x81.1 < (a3.2.length : Int))) (chk (0 ≤ x81.1 ∧ x81.1 < (a3.2.length : Int)) (let v83 := (a3.2.getD x81.1.toNat zLink); cut (α := (Bool × Unit)) (br (decide (0 ≤ v83.1)) (some (.inr ((decide (0 ≤ v83.2.2.1)), ()))) (some (.inr (false, ())))) fun y84 => br y84.1 ((sL1Copy.f n v83.2.2.2.2).bind fun r85 => chk ((x81.2.2.2.1.length + ([r85.1] : List (List Int)).length) * 24 ≤ maxB) ((sL1Copy.f n v83.2.2.2.2).bind fun r86 => chk ((x81.2.2.2.2.1.length + ([r86.1] : List (List Int)).length) * 24 ≤ maxB) (ih82 ((w64 (x81.1 + 1)), (x81.2.1, (x81.2.2.1, ((x81.2.2.2.1 ++ [r85.1]), ((x81.2.2.2.2.1 ++ [r86.1]), ())))))))) (ih82 ((w64 (x81.1 + 1)), (x81.2.1, (x81.2.2.1, (x81.2.2.2.1, (x81.2.2.2.2.1, ())))))))) ((sIsState.f n r1.1 (x81.2.2.1, (x81.2.2.2.1, (x81.2.2.2.2.1, x81.2.1)))).bind fun r87 => br (!r87.1) (some (([], ([], ([], 0))), (false, ()))) (some ((x81.2.2.1, (x81.2.2.2.1, (x81.2.2.2.2.1, x81.2.1))), (true, ()))))) (0, (x57.2.1, (x57.2.2.1, (x57.2.2.2.1, (x57.2.2.2.2.1, ()))))))) (0, (x37.2.1, (x37.2.2.1, (x37.2.2.2.1, (x37.2.2.2.2.1, ()))))))) (0, (a1.2.2.2, ([], (r9.2.2.1, (r9.2.2.2.1, ()))))))
noncomputable def sExpandState.mng (n : Nat) : Mng := ⟨[.val tNetwork, .val tState, .val I, .val tNetwork], [.sh tState, .val .bool], fun x => sExpandState.f n x.1 x.2.1 x.2.2.1 x.2.2.2.1⟩
noncomputable def sExpandState.cfg (n : Nat) : Cfg := ⟨tys9, [(24, sExpandNetwork.mng n), (35, sIsState.mng n), (36, sL8New.mng n), (38, sNewActorR.mng n), (39, sL1Copy.mng n)], [(37, sL5CopyF.mng n)], []⟩
theorem sExpandState.eq : ∀ (n : Nat) (a0 : Network) (a1 : State) (a2 : Int) (a3 : Network), runF (sExpandState.cfg n) n Tryz.f7 (annOf Tryz.f7 sExpandState.las) [.val tNetwork, .val tState, .val I, .val tNetwork] [.sh tState, .val .bool] (a0, (a1, (a2, (a3, ())))) = sExpandState.f n a0 a1 a2 a3 := by
  intros
  kernel_rfl
theorem sExpandState.gof : GoF Tryz.prog 7 := ⟨_, Tryz.func7, by kernel_rfl, by kernel_rfl⟩
theorem sExpandState.sound (n : Nat) : Sound Tryz.prog 7 (sExpandState.mng n) := runF_sound (fn := Tryz.f7) (m := sExpandState.mng n) (c := sExpandState.cfg n) (regOK mixed (opOK (.of (c := sExpandState.cfg n) ⟨⟨sExpandNetwork.sound n, sExpandNetwork.gof⟩, ⟨⟨sIsState.sound n, sIsState.gof⟩, ⟨⟨sL8New.sound n, sL8New.gof⟩, ⟨⟨sNewActorR.sound n, sNewActorR.gof⟩, ⟨⟨sL1Copy.sound n, sL1Copy.gof⟩, trivial⟩⟩⟩⟩⟩) (.of (c := sExpandState.cfg n) ⟨⟨sL5CopyF.sound n, sL5CopyF.gof⟩, trivial⟩)) (tysOK tys9_ok)) (tysOK tys9_ok) Tryz.func7 (fun x => (sExpandState.eq n x.1 x.2.1 x.2.2.1 x.2.2.2.1).symm)

def iNewActor.las : List (Nat × LA) := []
noncomputable def iNewActor.f (n : Nat) (a0 : Program) : Option (Actor × Unit) := (iIsProgram.f n a0).bind fun r1 => br (!r1.1) (some ((0, []), ())) (chk (4 = 4 ∧ 0 ≤ 4 ∧ 4 * (8 : Int) ≤ (maxB : Int)) (some ((0, (List.replicate 4 (0 : Int))), ())))
noncomputable def iNewActor.mng (n : Nat) : Mng := ⟨[.val tProgram], [.val tActor], fun x => iNewActor.f n x.1⟩
noncomputable def iNewActor.cfg (n : Nat) : Cfg := ⟨tys9, [(116, iIsProgram.mng n)], [], []⟩
theorem iNewActor.eq : ∀ (n : Nat) (a0 : Program), runF (iNewActor.cfg n) n Tryz.f48 (annOf Tryz.f48 iNewActor.las) [.val tProgram] [.val tActor] (a0, ()) = iNewActor.f n a0 := by
  intros
  kernel_rfl
theorem iNewActor.gof : GoF Tryz.prog 48 := ⟨_, Tryz.func48, by kernel_rfl, by kernel_rfl⟩
theorem iNewActor.sound (n : Nat) : Sound Tryz.prog 48 (iNewActor.mng n) := runF_sound (fn := Tryz.f48) (m := iNewActor.mng n) (c := iNewActor.cfg n) (regOK mixed (opOK (.of (c := iNewActor.cfg n) ⟨⟨iIsProgram.sound n, iIsProgram.gof⟩, trivial⟩) (.of (c := iNewActor.cfg n) trivial)) (tysOK tys9_ok)) (tysOK tys9_ok) Tryz.func48 (fun x => (iNewActor.eq n x.1).symm)
end Go.AmT
