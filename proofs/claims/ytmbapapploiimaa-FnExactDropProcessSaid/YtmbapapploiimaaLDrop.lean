/- Functions that the law FnExactDropProcess reaches, each as a plain Lean function, and that each does what that says. No condition. -/
import Derived.Test.YtmbapapploiimaaPCopy
namespace Go.AmT
open Go Go.Am Go.Proofs
set_option linter.unusedVariables false
set_option maxRecDepth 100000
def tys3 : List (Nat × TInfo) := [(3, ⟨false, 1, 8, [.int .i64 0], .int .i64, 0, some I, [], false⟩),
  (4, ⟨false, 1, 1, [.bool false], .bool, 0, some .bool, [], false⟩),
  (25, ⟨true, 2, 48, [.nil, .nil], .struct, 0, some tNetwork, [(0, 22), (1, 23)], false⟩),
  (29, ⟨false, 1, 24, [.nil], .slice, 100, some (.sl tProgram), [], false⟩),
  (30, ⟨false, 1, 24, [.nil], .slice, 89, some (.sl tLink), [], false⟩),
  (32, ⟨true, 2, 48, [.nil, .nil], .struct, 0, some tNetwork, [(0, 29), (1, 30)], false⟩),
  (89, ⟨true, 5, 56, [.int .i64 0, .int .i64 0, .int .i64 0, .int .i64 0, .nil], .struct, 0, some tLink, [(0, 3), (1, 3), (2, 3), (3, 3), (4, 26)], false⟩),
  (100, ⟨true, 3, 40, [.int .i64 0, .int .i64 0, .nil], .struct, 0, some tProgram, [(0, 3), (1, 3), (2, 98)], false⟩),
  (162, ⟨false, 1, 24, [.nil], .slice, 29, some (.sl (.sl tProgram)), [], false⟩)]
theorem tys3_ok : (tys3.all fun p => tokB Try.prog p.1 p.2) = true := by kernel_rfl

def sL3Has.las : List (Nat × LA) := []
noncomputable def sL3Has.f (n : Nat) (a0 : Network) (a1 : Int) : Option (Bool × Unit) := br (decide (0 ≤ a1)) (some ((decide (a1 < (a0.1.length : Int))), ())) (some (false, ()))
noncomputable def sL3Has.mng (n : Nat) : Mng := ⟨[.val tNetwork, .val I], [.val .bool], fun x => sL3Has.f n x.1 x.2.1⟩
noncomputable def sL3Has.cfg (n : Nat) : Cfg := ⟨tys3, [], [], []⟩
theorem sL3Has.eq : ∀ (n : Nat) (a0 : Network) (a1 : Int), runF (sL3Has.cfg n) n Try.f66 (annOf Try.f66 sL3Has.las) [.val tNetwork, .val I] [.val .bool] (a0, (a1, ())) = sL3Has.f n a0 a1 := by
  intros
  kernel_rfl
theorem sL3Has.gof : GoF Try.prog 66 := ⟨_, Try.func66, by kernel_rfl, by kernel_rfl⟩
theorem sL3Has.sound (n : Nat) : Sound Try.prog 66 (sL3Has.mng n) := runF_sound (fn := Try.f66) (m := sL3Has.mng n) (c := sL3Has.cfg n) (regOK mixed (opOK (.of (c := sL3Has.cfg n) trivial) (.of (c := sL3Has.cfg n) trivial)) (tysOK tys3_ok)) (tysOK tys3_ok) Try.func66 (fun x => (sL3Has.eq n x.1 x.2.1).symm)

def sL8Less.las : List (Nat × LA) := []
noncomputable def sL8Less.f (n : Nat) (a0 : Int) (a1 : Int) : Option (Int × Unit) := br (decide (a1 < a0)) (some ((w64 (a0 - 1)), ())) (some (a0, ()))
noncomputable def sL8Less.mng (n : Nat) : Mng := ⟨[.val I, .val I], [.val I], fun x => sL8Less.f n x.1 x.2.1⟩
noncomputable def sL8Less.cfg (n : Nat) : Cfg := ⟨tys3, [], [], []⟩
theorem sL8Less.eq : ∀ (n : Nat) (a0 : Int) (a1 : Int), runF (sL8Less.cfg n) n Try.f75 (annOf Try.f75 sL8Less.las) [.val I, .val I] [.val I] (a0, (a1, ())) = sL8Less.f n a0 a1 := by
  intros
  kernel_rfl
theorem sL8Less.gof : GoF Try.prog 75 := ⟨_, Try.func75, by kernel_rfl, by kernel_rfl⟩
theorem sL8Less.sound (n : Nat) : Sound Try.prog 75 (sL8Less.mng n) := runF_sound (fn := Try.f75) (m := sL8Less.mng n) (c := sL8Less.cfg n) (regOK mixed (opOK (.of (c := sL8Less.cfg n) trivial) (.of (c := sL8Less.cfg n) trivial)) (tysOK tys3_ok)) (tysOK tys3_ok) Try.func75 (fun x => (sL8Less.eq n x.1 x.2.1).symm)

def sDropProcess.las : List (Nat × LA) := [(1, ⟨[(20, .bool)], [], [1, 2, 4], []⟩), (7, ⟨[(6, .vptr 1000 0), (26, .int .i64)], [(1000, .cells [] [.own 1001 tProgram, .con (.nil)]), (1001, .row true tProgram)], [1, 2, 4, 24, 25], []⟩), (18, ⟨[(6, .vptr 1000 0), (45, .int .i64)], [(1000, .cells [] [.own 1001 tProgram, .own 1002 tLink]), (1001, .row true tProgram), (1002, .row true tLink)], [1, 4, 43, 44], []⟩), (27, ⟨[(11, .vptr 1000 0)], [(1000, .cells [] [.int .i64, .int .i64, .int .i64, .int .i64, .own 1001 I]), (1001, .row true I)], [1, 4, 6, 10, 43, 44, 45], []⟩), (31, ⟨[(11, .vptr 1000 0)], [(1000, .cells [] [.int .i64, .int .i64, .int .i64, .int .i64, .own 1001 I]), (1001, .row true I)], [1, 4, 6, 43, 44, 45], []⟩), (34, ⟨[(80, .bool)], [], [1, 4, 6, 11, 43, 44, 45], []⟩)]
noncomputable def sDropProcess.f (n : Nat) (a0 : Network) (a1 : Int) : Option (Network × (Bool × Unit)) := cut (α := (Bool × Unit)) ((sIsNetwork.f n a0).bind fun r4 => br (!r4.1) (some (.inr (true, ()))) ((sL3Has.f n a0 a1).bind fun r5 => some (.inr ((!r5.1), ())))) fun y3 => br y3.1 (some (([], []), (false, ()))) (iter (α := (Int × (List Program) × Unit)) n (fun ih28 x27 => br (decide (x27.1 < (a0.1.length : Int))) (chk (0 ≤ x27.1 ∧ x27.1 < (a0.1.length : Int)) (let v29 := (a0.1.getD x27.1.toNat zProgram); br (!decide (x27.1 = a1)) ((sL3Program.f n v29).bind fun r30 => chk ((x27.2.1.length + ([r30.1] : List Program).length) * 40 ≤ maxB) (ih28 ((w64 (x27.1 + 1)), ((x27.2.1 ++ [r30.1]), ())))) (ih28 ((w64 (x27.1 + 1)), (x27.2.1, ()))))) (iter (α := (Int × (List Program) × (List Link) × Unit)) n (fun ih66 x65 => br (decide (x65.1 < (a0.2.length : Int))) (chk (0 ≤ x65.1 ∧ x65.1 < (a0.2.length : Int)) (let v67 := (a0.2.getD x65.1.toNat zLink); (sL3Link.f n v67).bind fun r68 => (sL8Less.f n v67.1 a1).bind fun r69 => (sL8Less.f n v67.2.2.1 a1).bind fun r70 => cut (α := (Int × (Int × (Int × (Int × (List Int) × Unit))))) (br (decide (v67.1 = a1)) (some (.inr ((-1), (0, (r70.1, (r68.1.2.2.2.1, (r68.1.2.2.2.2, ()))))))) (some (.inr (r69.1, (r68.1.2.1, (r70.1, (r68.1.2.2.2.1, (r68.1.2.2.2.2, ())))))))) fun y71 => cut (α := (Int × (Int × (Int × (Int × (List Int) × Unit))))) (br (decide (v67.2.2.1 = a1)) (some (.inr (y71.1, (y71.2.1, ((-1), (0, (y71.2.2.2.2.1, ()))))))) (some (.inr (y71.1, (y71.2.1, (y71.2.2.1, (y71.2.2.2.1, (y71.2.2.2.2.1, ())))))))) fun y72 => cut (α := (Bool × Unit)) (br (decide (0 ≤ y72.1)) (some (.inr (true, ()))) (some (.inr ((decide (0 ≤ y72.2.2.1)), ())))) fun y73 => br y73.1 (chk ((x65.2.2.1.length + ([(y72.1, (y72.2.1, (y72.2.2.1, (y72.2.2.2.1, y72.2.2.2.2.1))))] : List Link).length) * 56 ≤ maxB) (ih66 ((w64 (x65.1 + 1)), (x65.2.1, ((x65.2.2.1 ++ [(y72.1, (y72.2.1, (y72.2.2.1, (y72.2.2.2.1, y72.2.2.2.2.1))))]), ()))))) (ih66 ((w64 (x65.1 + 1)), (x65.2.1, (x65.2.2.1, ())))))) ((sIsNetwork.f n (x65.2.1, x65.2.2.1)).bind fun r74 => some ((x65.2.1, x65.2.2.1), (r74.1, ())))) (0, (x27.2.1, ([], ()))))) (0, ([], ())))
noncomputable def sDropProcess.mng (n : Nat) : Mng := ⟨[.val tNetwork, .val I], [.val tNetwork, .val .bool], fun x => sDropProcess.f n x.1 x.2.1⟩
noncomputable def sDropProcess.cfg (n : Nat) : Cfg := ⟨tys3, [(57, sIsNetwork.mng n), (66, sL3Has.mng n), (73, sL3Program.mng n), (74, sL3Link.mng n), (75, sL8Less.mng n)], [], []⟩
theorem sDropProcess.eq : ∀ (n : Nat) (a0 : Network) (a1 : Int), runF (sDropProcess.cfg n) n Try.f28 (annOf Try.f28 sDropProcess.las) [.val tNetwork, .val I] [.val tNetwork, .val .bool] (a0, (a1, ())) = sDropProcess.f n a0 a1 := by
  intros
  kernel_rfl
theorem sDropProcess.gof : GoF Try.prog 28 := ⟨_, Try.func28, by kernel_rfl, by kernel_rfl⟩
theorem sDropProcess.sound (n : Nat) : Sound Try.prog 28 (sDropProcess.mng n) := runF_sound (fn := Try.f28) (m := sDropProcess.mng n) (c := sDropProcess.cfg n) (regOK mixed (opOK (.of (c := sDropProcess.cfg n) ⟨⟨sIsNetwork.sound n, sIsNetwork.gof⟩, ⟨⟨sL3Has.sound n, sL3Has.gof⟩, ⟨⟨sL3Program.sound n, sL3Program.gof⟩, ⟨⟨sL3Link.sound n, sL3Link.gof⟩, ⟨⟨sL8Less.sound n, sL8Less.gof⟩, trivial⟩⟩⟩⟩⟩) (.of (c := sDropProcess.cfg n) trivial)) (tysOK tys3_ok)) (tysOK tys3_ok) Try.func28 (fun x => (sDropProcess.eq n x.1 x.2.1).symm)

def concatPG.las : List (Nat × LA) := []
def concatPG.la : LA := ⟨[(0, .con (.nil)), (1, .int .i64)], [], [], []⟩
def concatPG.lb : LA := ⟨[(0, .own 1000 tProgram)], [(1000, .row false tProgram)], [], []⟩
noncomputable def concatPG.f (n : Nat) (a0 : Int) : Option ((List Program) × Unit) := br (decide (a0 < 0)) (none) (br (decide (0 < (w64 (a0 - 0)))) (chk ((0 : Int) ≤ 0 ∧ (0 : Int) ≤ 0 ∧ 0 ≤ 0) (chk (0 < (w64 (a0 - 0)) ∧ (w64 (a0 - 0)) * (40 : Int) ≤ (maxB : Int)) (chk ((0 : Int) ≤ 0 ∧ (0 : Int) ≤ 0 ∧ 0 ≤ ((List.replicate (w64 (a0 - 0)).toNat ((0, (0, [])) : Program)).length : Int)) (some ([], ()))))) (some ([], ())))
noncomputable def concatPG.mng (n : Nat) : LMng := ⟨concatPG.la, concatPG.lb, fun x => concatPG.f n x.1⟩
noncomputable def concatPG.cfg (n : Nat) : Cfg := ⟨tys3, [], [], [41]⟩
theorem concatPG.eq : ∀ (n : Nat) (a0 : Int) (mp : Mp), LMng.run (concatPG.cfg n) n Try.f139 (annOf Try.f139 concatPG.las) concatPG.la concatPG.lb (a0, mp) = concatPG.f n a0 := by
  intros
  kernel_rfl
theorem concatPG.gof : GoF Try.prog 139 := ⟨_, Try.func139, by kernel_rfl, by kernel_rfl⟩
theorem concatPG.sound (n : Nat) : LSound Try.prog 139 (concatPG.mng n) := runL_sound (fn := Try.f139) (M := concatPG.mng n) (c := concatPG.cfg n) (regOK mixed (opOK (.of (c := concatPG.cfg n) trivial) (.of (c := concatPG.cfg n) trivial)) (tysOK tys3_ok)) (tysOK tys3_ok) Try.func139 (fun x => (concatPG.eq n x.1 x.2).symm)

def concatP.las : List (Nat × LA) := [(4, ⟨[(3, .int .i64), (11, .int .i64)], [], [0, 9, 10], [0]⟩), (17, ⟨[(6, .own 1000 tProgram), (27, .int .i64)], [(1000, .row false tProgram)], [25, 26], [0]⟩)]
def concatP.la : LA := ⟨[(0, .own 0 (.sl tProgram))], [(0, .row false (.sl tProgram))], [], []⟩
def concatP.lb : LA := ⟨[(0, .own 1000 tProgram)], [(1000, .row false tProgram)], [], []⟩
noncomputable def concatP.f (n : Nat) (a0 : List (List Program)) : Option ((List Program) × Unit) := iter (α := (Int × (Int × Unit))) n (fun ih8 x7 => br (decide (x7.2.1 < (a0.length : Int))) (chk (0 ≤ x7.2.1 ∧ x7.2.1 < (a0.length : Int)) (br (decide ((w64 (x7.1 + ((a0.getD x7.2.1.toNat []).length : Int))) < 0)) (none) (ih8 ((w64 (x7.1 + ((a0.getD x7.2.1.toNat []).length : Int))), ((w64 (x7.2.1 + 1)), ()))))) ((concatPG.f n x7.1).bind fun r9 => iter (α := (Int × (List Program) × Unit)) n (fun ih15 x14 => br (decide (x14.1 < (a0.length : Int))) (chk (0 ≤ x14.1 ∧ x14.1 < (a0.length : Int)) (chk ((x14.2.1.length + (a0.getD x14.1.toNat []).length) * 40 ≤ maxB) (ih15 ((w64 (x14.1 + 1)), ((x14.2.1 ++ (a0.getD x14.1.toNat [])), ()))))) (some (x14.2.1, ()))) (0, (r9.1, ())))) (0, (0, ()))
noncomputable def concatP.mng (n : Nat) : LMng := ⟨concatP.la, concatP.lb, fun x => concatP.f n x.1⟩
noncomputable def concatP.cfg (n : Nat) : Cfg := ⟨tys3, [], [(139, concatPG.mng n)], []⟩
theorem concatP.eq : ∀ (n : Nat) (a0 : List (List Program)) (mp : Mp), LMng.run (concatP.cfg n) n Try.f76 (annOf Try.f76 concatP.las) concatP.la concatP.lb (a0, mp) = concatP.f n a0 := by
  intros
  kernel_rfl
theorem concatP.gof : GoF Try.prog 76 := ⟨_, Try.func76, by kernel_rfl, by kernel_rfl⟩
theorem concatP.sound (n : Nat) : LSound Try.prog 76 (concatP.mng n) := runL_sound (fn := Try.f76) (M := concatP.mng n) (c := concatP.cfg n) (regOK mixed (opOK (.of (c := concatP.cfg n) trivial) (.of (c := concatP.cfg n) ⟨⟨concatPG.sound n, concatPG.gof⟩, trivial⟩)) (tysOK tys3_ok)) (tysOK tys3_ok) Try.func76 (fun x => (concatP.eq n x.1 x.2).symm)

def iBehind.las : List (Nat × LA) := []
noncomputable def iBehind.f (n : Nat) (a0 : Int) (a1 : Int) : Option (Int × Unit) := br (decide (a1 < a0)) (some ((w64 (a0 - 1)), ())) (some (a0, ()))
noncomputable def iBehind.mng (n : Nat) : Mng := ⟨[.val I, .val I], [.val I], fun x => iBehind.f n x.1 x.2.1⟩
noncomputable def iBehind.cfg (n : Nat) : Cfg := ⟨tys3, [], [], []⟩
theorem iBehind.eq : ∀ (n : Nat) (a0 : Int) (a1 : Int), runF (iBehind.cfg n) n Try.f77 (annOf Try.f77 iBehind.las) [.val I, .val I] [.val I] (a0, (a1, ())) = iBehind.f n a0 a1 := by
  intros
  kernel_rfl
theorem iBehind.gof : GoF Try.prog 77 := ⟨_, Try.func77, by kernel_rfl, by kernel_rfl⟩
theorem iBehind.sound (n : Nat) : Sound Try.prog 77 (iBehind.mng n) := runF_sound (fn := Try.f77) (m := iBehind.mng n) (c := iBehind.cfg n) (regOK mixed (opOK (.of (c := iBehind.cfg n) trivial) (.of (c := iBehind.cfg n) trivial)) (tysOK tys3_ok)) (tysOK tys3_ok) Try.func77 (fun x => (iBehind.eq n x.1 x.2.1).symm)

def iDropProcess.las : List (Nat × LA) := [(1, ⟨[(22, .bool)], [], [1, 2, 4], []⟩), (7, ⟨[(6, .vptr 1000 0), (39, .int .i64)], [(1000, .cells [] [.own 1001 tProgram, .own 1002 tLink]), (1001, .row false tProgram), (1002, .row false tLink)], [1, 4, 37, 38], []⟩), (12, ⟨[(68, .bool)], [], [1, 4, 6, 8, 37, 38, 39], []⟩), (15, ⟨[(8, .vptr 1000 0)], [(1000, .cells [] [.int .i64, .int .i64, .int .i64, .int .i64, .sh I])], [1, 4, 6, 37, 38, 39], []⟩)]
noncomputable def iDropProcess.f (n : Nat) (a0 : Network) (a1 : Int) : Option (Network × (Bool × Unit)) := cut (α := (Bool × Unit)) ((iIsNetwork.f n a0).bind fun r3 => br (!r3.1) (some (.inr (true, ()))) (br (decide (a1 < 0)) (some (.inr (true, ()))) (some (.inr ((decide ((a0.1.length : Int) ≤ a1)), ()))))) fun y2 => br y2.1 (some (([], []), (false, ()))) (chk ((0 : Int) ≤ 0 ∧ (0 : Int) ≤ a1 ∧ a1 ≤ (a0.1.length : Int)) (chk (0 ≤ (w64 (a1 + 1)) ∧ (w64 (a1 + 1)) ≤ (a0.1.length : Int) ∧ (a0.1.length : Int) ≤ (a0.1.length : Int)) ((concatP.f n ([((a0.1.take a1.toNat).drop 0), ((a0.1.take (a0.1.length : Int).toNat).drop (w64 (a1 + 1)).toNat)] : List (List Program))).bind fun r4 => iter (α := (Int × (List Program) × (List Link) × Unit)) n (fun ih26 x25 => br (decide (x25.1 < (a0.2.length : Int))) (chk (0 ≤ x25.1 ∧ x25.1 < (a0.2.length : Int)) (let v27 := (a0.2.getD x25.1.toNat zLink); cut (α := (Bool × Unit)) (br (decide (v27.1 = a1)) (br (decide (v27.2.2.1 = a1)) (some (.inr (true, ()))) (br (decide (v27.2.2.1 = (-1))) (some (.inr (true, ()))) (br (decide (v27.1 = (-1))) (some (.inr ((decide (v27.2.2.1 = a1)), ()))) (some (.inr (false, ())))))) (br (decide (v27.1 = (-1))) (some (.inr ((decide (v27.2.2.1 = a1)), ()))) (some (.inr (false, ()))))) fun y28 => br y28.1 (ih26 ((w64 (x25.1 + 1)), (x25.2.1, (x25.2.2.1, ())))) (cut (α := (Int × (Int × (Int × (Int × (List Int) × Unit))))) (br (decide (a1 = v27.1)) (some (.inr ((-1), (0, (v27.2.2.1, (v27.2.2.2.1, (v27.2.2.2.2, ()))))))) (br (decide (a1 = v27.2.2.1)) (some (.inr (v27.1, (v27.2.1, ((-1), (0, (v27.2.2.2.2, ()))))))) (some (.inr (v27.1, (v27.2.1, (v27.2.2.1, (v27.2.2.2.1, (v27.2.2.2.2, ()))))))))) fun y29 => (iBehind.f n y29.1 a1).bind fun r30 => (iBehind.f n y29.2.2.1 a1).bind fun r31 => chk ((x25.2.2.1.length + ([(r30.1, (y29.2.1, (r31.1, (y29.2.2.2.1, y29.2.2.2.2.1))))] : List Link).length) * 56 ≤ maxB) (ih26 ((w64 (x25.1 + 1)), (x25.2.1, ((x25.2.2.1 ++ [(r30.1, (y29.2.1, (r31.1, (y29.2.2.2.1, y29.2.2.2.2.1))))]), ()))))))) ((iCopyNetwork.f n (x25.2.1, x25.2.2.1)).bind fun r32 => some (r32.1, (true, ())))) (0, (r4.1, ([], ()))))))
noncomputable def iDropProcess.mng (n : Nat) : Mng := ⟨[.val tNetwork, .val I], [.val tNetwork, .val .bool], fun x => iDropProcess.f n x.1 x.2.1⟩
noncomputable def iDropProcess.cfg (n : Nat) : Cfg := ⟨tys3, [(61, iIsNetwork.mng n), (77, iBehind.mng n), (78, iCopyNetwork.mng n)], [(76, concatP.mng n)], []⟩
theorem iDropProcess.eq : ∀ (n : Nat) (a0 : Network) (a1 : Int), runF (iDropProcess.cfg n) n Try.f29 (annOf Try.f29 iDropProcess.las) [.val tNetwork, .val I] [.val tNetwork, .val .bool] (a0, (a1, ())) = iDropProcess.f n a0 a1 := by
  intros
  kernel_rfl
theorem iDropProcess.gof : GoF Try.prog 29 := ⟨_, Try.func29, by kernel_rfl, by kernel_rfl⟩
theorem iDropProcess.sound (n : Nat) : Sound Try.prog 29 (iDropProcess.mng n) := runF_sound (fn := Try.f29) (m := iDropProcess.mng n) (c := iDropProcess.cfg n) (regOK mixed (opOK (.of (c := iDropProcess.cfg n) ⟨⟨iIsNetwork.sound n, iIsNetwork.gof⟩, ⟨⟨iBehind.sound n, iBehind.gof⟩, ⟨⟨iCopyNetwork.sound n, iCopyNetwork.gof⟩, trivial⟩⟩⟩) (.of (c := iDropProcess.cfg n) ⟨⟨concatP.sound n, concatP.gof⟩, trivial⟩)) (tysOK tys3_ok)) (tysOK tys3_ok) Try.func29 (fun x => (iDropProcess.eq n x.1 x.2.1).symm)

def law.las : List (Nat × LA) := [(9, ⟨[(44, .bool)], [], [1, 2, 6, 7, 8, 9, 10], []⟩), (17, ⟨[(65, .bool)], [], [1, 2, 6, 7, 9], []⟩), (31, ⟨[(92, .bool)], [], [9, 12], []⟩)]
noncomputable def law.f (n : Nat) (a0 : Network) (a1 : Int) : Option (Bool × Unit) := (szNetwork.f n a0 1048576).bind fun r1 => br (decide (r1.1 < 0)) (some (true, ())) ((toNetwork.f n a0).bind fun r2 => (sDropProcess.f n r2.1 a1).bind fun r3 => (toNetwork.f n a0).bind fun r4 => (iDropProcess.f n r4.1 a1).bind fun r5 => cut (α := (Bool × Unit)) ((eqNetwork.f n r5.1 r3.1).bind fun r8 => br (!r8.1) (some (.inr (true, ()))) (some (.inr ((!decide (r5.2.1 = r3.2.1)), ())))) fun y7 => br y7.1 (some (false, ())) ((toNetwork.f n a0).bind fun r9 => (eqNetwork.f n r4.1 r9.1).bind fun r10 => br (!r10.1) (some (false, ())) ((markNetwork.f n r4.1 1).bind fun r11 => cut (α := (Bool × Unit)) (br (decide (r11.1 < 0)) (some (.inr (true, ()))) ((eqNetwork.f n r5.1 r3.1).bind fun r14 => br (!r14.1) (some (.inr (true, ()))) (some (.inr ((!decide (r5.2.1 = r3.2.1)), ()))))) fun y13 => br y13.1 (some (false, ())) ((markNetwork.f n r5.1 1).bind fun r15 => (heldNetwork.f n (r15.2.1, r15.2.2.1) 1).bind fun r16 => br (decide (r16.1 < 0)) (some (false, ())) (br (!decide (r16.1 = r15.1)) (some (false, ())) ((toNetwork.f n a0).bind fun r17 => (iDropProcess.f n r17.1 a1).bind fun r18 => cut (α := (Bool × Unit)) ((eqNetwork.f n r18.1 r3.1).bind fun r21 => br (!r21.1) (some (.inr (true, ()))) (some (.inr ((!decide (r18.2.1 = r3.2.1)), ())))) fun y20 => br y20.1 (some (false, ())) ((heldNetwork.f n (r15.2.1, r15.2.2.1) 1).bind fun r22 => br (decide (r22.1 < 0)) (some (false, ())) (br (!decide (r22.1 = r15.1)) (some (false, ())) (some (true, ()))))))))))
noncomputable def law.mng (n : Nat) : Mng := ⟨[.val tNetwork, .val I], [.val .bool], fun x => law.f n x.1 x.2.1⟩
noncomputable def law.cfg (n : Nat) : Cfg := ⟨tys3, [(14, szNetwork.mng n), (16, toNetwork.mng n), (28, sDropProcess.mng n), (29, iDropProcess.mng n), (19, eqNetwork.mng n), (23, markNetwork.mng n), (30, heldNetwork.mng n)], [], []⟩
theorem law.eq : ∀ (n : Nat) (a0 : Network) (a1 : Int), runF (law.cfg n) n Try.f6 (annOf Try.f6 law.las) [.val tNetwork, .val I] [.val .bool] (a0, (a1, ())) = law.f n a0 a1 := by
  intros
  kernel_rfl
theorem law.gof : GoF Try.prog 6 := ⟨_, Try.func6, by kernel_rfl, by kernel_rfl⟩
theorem law.sound (n : Nat) : Sound Try.prog 6 (law.mng n) := runF_sound (fn := Try.f6) (m := law.mng n) (c := law.cfg n) (regOK mixed (opOK (.of (c := law.cfg n) ⟨⟨szNetwork.sound n, szNetwork.gof⟩, ⟨⟨toNetwork.sound n, toNetwork.gof⟩, ⟨⟨sDropProcess.sound n, sDropProcess.gof⟩, ⟨⟨iDropProcess.sound n, iDropProcess.gof⟩, ⟨⟨eqNetwork.sound n, eqNetwork.gof⟩, ⟨⟨markNetwork.sound n, markNetwork.gof⟩, ⟨⟨heldNetwork.sound n, heldNetwork.gof⟩, trivial⟩⟩⟩⟩⟩⟩⟩) (.of (c := law.cfg n) trivial)) (tysOK tys3_ok)) (tysOK tys3_ok) Try.func6 (fun x => (law.eq n x.1 x.2.1).symm)
end Go.AmT
