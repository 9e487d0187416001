/- Functions that the law FnJoined reaches, each as a plain Lean function, and that each does what that says. No condition. -/
import Derived.Test.YtgepghodhnmhjaaGreatPReach
namespace Go.AmT
open Go Go.Am Go.Proofs
set_option linter.unusedVariables false
set_option maxRecDepth 100000
def tys12 : List (Nat × TInfo) := [(3, ⟨false, 1, 8, [.int .i64 0], .int .i64, 0, some I, [], false⟩),
  (23, ⟨false, 1, 24, [.nil], .slice, 47, some (.sl tProgram), [], false⟩),
  (24, ⟨false, 1, 24, [.nil], .slice, 50, some (.sl tLink), [], false⟩),
  (26, ⟨true, 2, 48, [.nil, .nil], .struct, 0, some tNetwork, [(0, 23), (1, 24)], false⟩),
  (36, ⟨false, 1, 24, [.nil], .slice, 3, some IS, [], false⟩),
  (45, ⟨false, 1, 24, [.nil], .slice, 88, some (.sl tInstr), [], false⟩),
  (47, ⟨true, 3, 40, [.int .i64 0, .int .i64 0, .nil], .struct, 0, some tProgram, [(0, 3), (1, 3), (2, 45)], false⟩),
  (50, ⟨true, 5, 56, [.int .i64 0, .int .i64 0, .int .i64 0, .int .i64 0, .nil], .struct, 0, some tLink, [(0, 3), (1, 3), (2, 3), (3, 3), (4, 36)], false⟩),
  (76, ⟨false, 1, 24, [.nil], .slice, 23, some (.sl (.sl tProgram)), [], false⟩),
  (88, ⟨true, 4, 32, [.int .i64 0, .int .i64 0, .int .i64 0, .int .i64 0], .struct, 0, some tInstr, [(0, 3), (1, 3), (2, 3), (3, 3)], false⟩)]
theorem tys12_ok : (tys12.all fun p => tokB Tryz.prog p.1 p.2) = true := by kernel_rfl

def sL3Program.las : List (Nat × LA) := []
noncomputable def sL3Program.f (n : Nat) (a0 : Program) : Option (Program × Unit) := chk ((([] : List Instr).length + a0.2.2.length) * 32 ≤ maxB) (some ((a0.1, (a0.2.1, (([] : List Instr) ++ a0.2.2))), ()))
noncomputable def sL3Program.mng (n : Nat) : Mng := ⟨[.val tProgram], [.val tProgram], fun x => sL3Program.f n x.1⟩
noncomputable def sL3Program.cfg (n : Nat) : Cfg := ⟨tys12, [], [], []⟩
theorem sL3Program.eq : ∀ (n : Nat) (a0 : Program), runF (sL3Program.cfg n) n Tryz.f23 (annOf Tryz.f23 sL3Program.las) [.val tProgram] [.val tProgram] (a0, ()) = sL3Program.f n a0 := by
  intros
  kernel_rfl
theorem sL3Program.gof : GoF Tryz.prog 23 := ⟨_, Tryz.func23, by kernel_rfl, by kernel_rfl⟩
theorem sL3Program.sound (n : Nat) : Sound Tryz.prog 23 (sL3Program.mng n) := runF_sound (fn := Tryz.f23) (m := sL3Program.mng n) (c := sL3Program.cfg n) (regOK mixed (opOK (.of (c := sL3Program.cfg n) trivial) (.of (c := sL3Program.cfg n) trivial)) (tysOK tys12_ok)) (tysOK tys12_ok) Tryz.func23 (fun x => (sL3Program.eq n x.1).symm)

def sL3Link.las : List (Nat × LA) := []
noncomputable def sL3Link.f (n : Nat) (a0 : Link) : Option (Link × Unit) := (sL1Copy.f n a0.2.2.2.2).bind fun r1 => some ((a0.1, (a0.2.1, (a0.2.2.1, (a0.2.2.2.1, r1.1)))), ())
noncomputable def sL3Link.mng (n : Nat) : Mng := ⟨[.val tLink], [.val tLink], fun x => sL3Link.f n x.1⟩
noncomputable def sL3Link.cfg (n : Nat) : Cfg := ⟨tys12, [(51, sL1Copy.mng n)], [], []⟩
theorem sL3Link.eq : ∀ (n : Nat) (a0 : Link), runF (sL3Link.cfg n) n Tryz.f24 (annOf Tryz.f24 sL3Link.las) [.val tLink] [.val tLink] (a0, ()) = sL3Link.f n a0 := by
  intros
  kernel_rfl
theorem sL3Link.gof : GoF Tryz.prog 24 := ⟨_, Tryz.func24, by kernel_rfl, by kernel_rfl⟩
theorem sL3Link.sound (n : Nat) : Sound Tryz.prog 24 (sL3Link.mng n) := runF_sound (fn := Tryz.f24) (m := sL3Link.mng n) (c := sL3Link.cfg n) (regOK mixed (opOK (.of (c := sL3Link.cfg n) ⟨⟨sL1Copy.sound n, sL1Copy.gof⟩, trivial⟩) (.of (c := sL3Link.cfg n) trivial)) (tysOK tys12_ok)) (tysOK tys12_ok) Tryz.func24 (fun x => (sL3Link.eq n x.1).symm)

def sL3Copy.las : List (Nat × LA) := [(4, ⟨[(3, .vptr 1000 0), (12, .int .i64)], [(1000, .cells [] [.own 1001 tProgram, .con (.nil)]), (1001, .row true tProgram)], [1, 2, 10, 11], []⟩), (13, ⟨[(3, .vptr 1000 0), (27, .int .i64)], [(1000, .cells [] [.own 1001 tProgram, .own 1002 tLink]), (1001, .row true tProgram), (1002, .row true tLink)], [2, 25, 26], []⟩)]
noncomputable def sL3Copy.f (n : Nat) (a0 : Network) : Option (Network × Unit) := iter (α := (Int × (List Program) × Unit)) n (fun ih21 x20 => br (decide (x20.1 < (a0.1.length : Int))) (chk (0 ≤ x20.1 ∧ x20.1 < (a0.1.length : Int)) (let v22 := (a0.1.getD x20.1.toNat zProgram); (sL3Program.f n v22).bind fun r23 => chk ((x20.2.1.length + ([r23.1] : List Program).length) * 40 ≤ maxB) (ih21 ((w64 (x20.1 + 1)), ((x20.2.1 ++ [r23.1]), ()))))) (iter (α := (Int × (List Program) × (List Link) × Unit)) n (fun ih38 x37 => br (decide (x37.1 < (a0.2.length : Int))) (chk (0 ≤ x37.1 ∧ x37.1 < (a0.2.length : Int)) (let v39 := (a0.2.getD x37.1.toNat zLink); (sL3Link.f n v39).bind fun r40 => chk ((x37.2.2.1.length + ([r40.1] : List Link).length) * 56 ≤ maxB) (ih38 ((w64 (x37.1 + 1)), (x37.2.1, ((x37.2.2.1 ++ [r40.1]), ())))))) (some ((x37.2.1, x37.2.2.1), ()))) (0, (x20.2.1, ([], ()))))) (0, ([], ()))
noncomputable def sL3Copy.mng (n : Nat) : Mng := ⟨[.val tNetwork], [.val tNetwork], fun x => sL3Copy.f n x.1⟩
noncomputable def sL3Copy.cfg (n : Nat) : Cfg := ⟨tys12, [(23, sL3Program.mng n), (24, sL3Link.mng n)], [], []⟩
theorem sL3Copy.eq : ∀ (n : Nat) (a0 : Network), runF (sL3Copy.cfg n) n Tryz.f22 (annOf Tryz.f22 sL3Copy.las) [.val tNetwork] [.val tNetwork] (a0, ()) = sL3Copy.f n a0 := by
  intros
  kernel_rfl
theorem sL3Copy.gof : GoF Tryz.prog 22 := ⟨_, Tryz.func22, by kernel_rfl, by kernel_rfl⟩
theorem sL3Copy.sound (n : Nat) : Sound Tryz.prog 22 (sL3Copy.mng n) := runF_sound (fn := Tryz.f22) (m := sL3Copy.mng n) (c := sL3Copy.cfg n) (regOK mixed (opOK (.of (c := sL3Copy.cfg n) ⟨⟨sL3Program.sound n, sL3Program.gof⟩, ⟨⟨sL3Link.sound n, sL3Link.gof⟩, trivial⟩⟩) (.of (c := sL3Copy.cfg n) trivial)) (tysOK tys12_ok)) (tysOK tys12_ok) Tryz.func22 (fun x => (sL3Copy.eq n x.1).symm)

def sJoinNetworks.las : List (Nat × LA) := [(1, ⟨[(19, .bool)], [], [2, 3, 4], []⟩), (7, ⟨[(6, .vptr 1000 0), (26, .int .i64)], [(1000, .cells [] [.own 1001 tProgram, .own 1002 tLink]), (1001, .row true tProgram), (1002, .row true tLink)], [2, 3, 4, 24, 25], []⟩), (16, ⟨[(6, .vptr 1000 0), (41, .int .i64)], [(1000, .cells [] [.own 1001 tProgram, .own 1002 tLink]), (1001, .row true tProgram), (1002, .row true tLink)], [2, 4, 39, 40], []⟩), (23, ⟨[(11, .vptr 1000 0)], [(1000, .cells [] [.int .i64, .int .i64, .int .i64, .int .i64, .own 1001 I]), (1001, .row true I)], [2, 4, 6, 39, 40, 41], []⟩), (26, ⟨[(11, .vptr 1000 0)], [(1000, .cells [] [.int .i64, .int .i64, .int .i64, .int .i64, .own 1001 I]), (1001, .row true I)], [2, 4, 6, 39, 40, 41], []⟩)]
noncomputable def sJoinNetworks.f (n : Nat) (a0 : Network) (a1 : Network) : Option (Network × (Bool × Unit)) := cut (α := (Bool × Unit)) ((sIsNetwork.f n a0).bind fun r4 => br (!r4.1) (some (.inr (true, ()))) ((sIsNetwork.f n a1).bind fun r5 => some (.inr ((!r5.1), ())))) fun y3 => br y3.1 (some (([], []), (false, ()))) ((sL3Copy.f n a0).bind fun r6 => iter (α := (Int × (List Program) × (List Link) × Unit)) n (fun ih23 x22 => br (decide (x22.1 < (a1.1.length : Int))) (chk (0 ≤ x22.1 ∧ x22.1 < (a1.1.length : Int)) (let v24 := (a1.1.getD x22.1.toNat zProgram); (sL3Program.f n v24).bind fun r25 => chk ((x22.2.1.length + ([r25.1] : List Program).length) * 40 ≤ maxB) (ih23 ((w64 (x22.1 + 1)), ((x22.2.1 ++ [r25.1]), (x22.2.2.1, ())))))) (iter (α := (Int × (List Program) × (List Link) × Unit)) n (fun ih44 x43 => br (decide (x43.1 < (a1.2.length : Int))) (chk (0 ≤ x43.1 ∧ x43.1 < (a1.2.length : Int)) (let v45 := (a1.2.getD x43.1.toNat zLink); (sL3Link.f n v45).bind fun r46 => cut (α := (Int × (Int × (Int × (Int × (List Int) × Unit))))) (br (decide (0 ≤ r46.1.1)) (some (.inr ((w64 (r46.1.1 + (a0.1.length : Int))), (r46.1.2.1, (r46.1.2.2.1, (r46.1.2.2.2.1, (r46.1.2.2.2.2, ()))))))) (some (.inr (r46.1.1, (r46.1.2.1, (r46.1.2.2.1, (r46.1.2.2.2.1, (r46.1.2.2.2.2, ())))))))) fun y47 => cut (α := (Int × (Int × (Int × (Int × (List Int) × Unit))))) (br (decide (0 ≤ y47.2.2.1)) (some (.inr (y47.1, (y47.2.1, ((w64 (y47.2.2.1 + (a0.1.length : Int))), (y47.2.2.2.1, (y47.2.2.2.2.1, ()))))))) (some (.inr (y47.1, (y47.2.1, (y47.2.2.1, (y47.2.2.2.1, (y47.2.2.2.2.1, ())))))))) fun y48 => chk ((x43.2.2.1.length + ([(y48.1, (y48.2.1, (y48.2.2.1, (y48.2.2.2.1, y48.2.2.2.2.1))))] : List Link).length) * 56 ≤ maxB) (ih44 ((w64 (x43.1 + 1)), (x43.2.1, ((x43.2.2.1 ++ [(y48.1, (y48.2.1, (y48.2.2.1, (y48.2.2.2.1, y48.2.2.2.2.1))))]), ())))))) ((sIsNetwork.f n (x43.2.1, x43.2.2.1)).bind fun r49 => br (!r49.1) (some (([], []), (false, ()))) (some ((x43.2.1, x43.2.2.1), (true, ()))))) (0, (x22.2.1, (x22.2.2.1, ()))))) (0, (r6.1.1, (r6.1.2, ()))))
noncomputable def sJoinNetworks.mng (n : Nat) : Mng := ⟨[.val tNetwork, .val tNetwork], [.val tNetwork, .val .bool], fun x => sJoinNetworks.f n x.1 x.2.1⟩
noncomputable def sJoinNetworks.cfg (n : Nat) : Cfg := ⟨tys12, [(21, sIsNetwork.mng n), (22, sL3Copy.mng n), (23, sL3Program.mng n), (24, sL3Link.mng n)], [], []⟩
theorem sJoinNetworks.eq : ∀ (n : Nat) (a0 : Network) (a1 : Network), runF (sJoinNetworks.cfg n) n Tryz.f7 (annOf Tryz.f7 sJoinNetworks.las) [.val tNetwork, .val tNetwork] [.val tNetwork, .val .bool] (a0, (a1, ())) = sJoinNetworks.f n a0 a1 := by
  intros
  kernel_rfl
theorem sJoinNetworks.gof : GoF Tryz.prog 7 := ⟨_, Tryz.func7, by kernel_rfl, by kernel_rfl⟩
theorem sJoinNetworks.sound (n : Nat) : Sound Tryz.prog 7 (sJoinNetworks.mng n) := runF_sound (fn := Tryz.f7) (m := sJoinNetworks.mng n) (c := sJoinNetworks.cfg n) (regOK mixed (opOK (.of (c := sJoinNetworks.cfg n) ⟨⟨sIsNetwork.sound n, sIsNetwork.gof⟩, ⟨⟨sL3Copy.sound n, sL3Copy.gof⟩, ⟨⟨sL3Program.sound n, sL3Program.gof⟩, ⟨⟨sL3Link.sound n, sL3Link.gof⟩, trivial⟩⟩⟩⟩) (.of (c := sJoinNetworks.cfg n) trivial)) (tysOK tys12_ok)) (tysOK tys12_ok) Tryz.func7 (fun x => (sJoinNetworks.eq n x.1 x.2.1).symm)

def concatPG.las : List (Nat × LA) := []
def concatPG.la : LA := ⟨[(0, .con (.nil)), (1, .int .i64)], [], [], []⟩
def concatPG.lb : LA := ⟨[(0, .own 1000 tProgram)], [(1000, .row false tProgram)], [], []⟩
noncomputable def concatPG.f (n : Nat) (a0 : Int) : Option ((List Program) × Unit) := br (decide (a0 < 0)) (none) (br (decide (0 < (w64 (a0 - 0)))) (chk ((0 : Int) ≤ 0 ∧ (0 : Int) ≤ 0 ∧ 0 ≤ 0) (chk (0 < (w64 (a0 - 0)) ∧ (w64 (a0 - 0)) * (40 : Int) ≤ (maxB : Int)) (chk ((0 : Int) ≤ 0 ∧ (0 : Int) ≤ 0 ∧ 0 ≤ ((List.replicate (w64 (a0 - 0)).toNat ((0, (0, [])) : Program)).length : Int)) (some ([], ()))))) (some ([], ())))
noncomputable def concatPG.mng (n : Nat) : LMng := ⟨concatPG.la, concatPG.lb, fun x => concatPG.f n x.1⟩
noncomputable def concatPG.cfg (n : Nat) : Cfg := ⟨tys12, [], [], [41]⟩
theorem concatPG.eq : ∀ (n : Nat) (a0 : Int) (mp : Mp), LMng.run (concatPG.cfg n) n Tryz.f45 (annOf Tryz.f45 concatPG.las) concatPG.la concatPG.lb (a0, mp) = concatPG.f n a0 := by
  intros
  kernel_rfl
theorem concatPG.gof : GoF Tryz.prog 45 := ⟨_, Tryz.func45, by kernel_rfl, by kernel_rfl⟩
theorem concatPG.sound (n : Nat) : LSound Tryz.prog 45 (concatPG.mng n) := runL_sound (fn := Tryz.f45) (M := concatPG.mng n) (c := concatPG.cfg n) (regOK mixed (opOK (.of (c := concatPG.cfg n) trivial) (.of (c := concatPG.cfg n) trivial)) (tysOK tys12_ok)) (tysOK tys12_ok) Tryz.func45 (fun x => (concatPG.eq n x.1 x.2).symm)

def concatP.las : List (Nat × LA) := [(4, ⟨[(3, .int .i64), (11, .int .i64)], [], [0, 9, 10], [0]⟩), (17, ⟨[(6, .own 1000 tProgram), (27, .int .i64)], [(1000, .row false tProgram)], [25, 26], [0]⟩)]
def concatP.la : LA := ⟨[(0, .own 0 (.sl tProgram))], [(0, .row false (.sl tProgram))], [], []⟩
def concatP.lb : LA := ⟨[(0, .own 1000 tProgram)], [(1000, .row false tProgram)], [], []⟩
noncomputable def concatP.f (n : Nat) (a0 : List (List Program)) : Option ((List Program) × Unit) := iter (α := (Int × (Int × Unit))) n (fun ih8 x7 => br (decide (x7.2.1 < (a0.length : Int))) (chk (0 ≤ x7.2.1 ∧ x7.2.1 < (a0.length : Int)) (br (decide ((w64 (x7.1 + ((a0.getD x7.2.1.toNat []).length : Int))) < 0)) (none) (ih8 ((w64 (x7.1 + ((a0.getD x7.2.1.toNat []).length : Int))), ((w64 (x7.2.1 + 1)), ()))))) ((concatPG.f n x7.1).bind fun r9 => iter (α := (Int × (List Program) × Unit)) n (fun ih15 x14 => br (decide (x14.1 < (a0.length : Int))) (chk (0 ≤ x14.1 ∧ x14.1 < (a0.length : Int)) (chk ((x14.2.1.length + (a0.getD x14.1.toNat []).length) * 40 ≤ maxB) (ih15 ((w64 (x14.1 + 1)), ((x14.2.1 ++ (a0.getD x14.1.toNat [])), ()))))) (some (x14.2.1, ()))) (0, (r9.1, ())))) (0, (0, ()))
noncomputable def concatP.mng (n : Nat) : LMng := ⟨concatP.la, concatP.lb, fun x => concatP.f n x.1⟩
noncomputable def concatP.cfg (n : Nat) : Cfg := ⟨tys12, [], [(45, concatPG.mng n)], []⟩
theorem concatP.eq : ∀ (n : Nat) (a0 : List (List Program)) (mp : Mp), LMng.run (concatP.cfg n) n Tryz.f18 (annOf Tryz.f18 concatP.las) concatP.la concatP.lb (a0, mp) = concatP.f n a0 := by
  intros
  kernel_rfl
theorem concatP.gof : GoF Tryz.prog 18 := ⟨_, Tryz.func18, by kernel_rfl, by kernel_rfl⟩
theorem concatP.sound (n : Nat) : LSound Tryz.prog 18 (concatP.mng n) := runL_sound (fn := Tryz.f18) (M := concatP.mng n) (c := concatP.cfg n) (regOK mixed (opOK (.of (c := concatP.cfg n) trivial) (.of (c := concatP.cfg n) ⟨⟨concatPG.sound n, concatPG.gof⟩, trivial⟩)) (tysOK tys12_ok)) (tysOK tys12_ok) Tryz.func18 (fun x => (concatP.eq n x.1 x.2).symm)

def cloneLkO.las : List (Nat × LA) := []
def cloneLkO.la : LA := ⟨[(0, .osh tLink)], [], [], []⟩
def cloneLkO.lb : LA := ⟨[(0, .own 1000 tLink)], [(1000, .row false tLink)], [], []⟩
noncomputable def cloneLkO.f (n : Nat) (a0 : Option (List Link)) : Option ((List Link) × Unit) := br a0.isNone (some ([], ())) (chk ((a0.getD []).length * 56 ≤ maxB) (some ((a0.getD []), ())))
noncomputable def cloneLkO.mng (n : Nat) : LMng := ⟨cloneLkO.la, cloneLkO.lb, fun x => cloneLkO.f n x.1⟩
noncomputable def cloneLkO.cfg (n : Nat) : Cfg := ⟨tys12, [], [], [1000025]⟩
theorem cloneLkO.eq : ∀ (n : Nat) (a0 : Option (List Link)) (mp : Mp), LMng.run (cloneLkO.cfg n) n Tryz.f19 (annOf Tryz.f19 cloneLkO.las) cloneLkO.la cloneLkO.lb (a0, mp) = cloneLkO.f n a0 := by
  intros
  kernel_rfl
theorem cloneLkO.gof : GoF Tryz.prog 19 := ⟨_, Tryz.func19, by kernel_rfl, by kernel_rfl⟩
theorem cloneLkO.sound (n : Nat) : LSound Tryz.prog 19 (cloneLkO.mng n) := runL_sound (fn := Tryz.f19) (M := cloneLkO.mng n) (c := cloneLkO.cfg n) (regOK mixed (opOK (.of (c := cloneLkO.cfg n) trivial) (.of (c := cloneLkO.cfg n) trivial)) (tysOK tys12_ok)) (tysOK tys12_ok) Tryz.func19 (fun x => (cloneLkO.eq n x.1 x.2).symm)

def cloneLkN.las : List (Nat × LA) := []
def cloneLkN.la : LA := ⟨[(0, .con (.nil))], [], [], []⟩
def cloneLkN.lb : LA := ⟨[(0, .own 1000 tLink)], [(1000, .row false tLink)], [], []⟩
noncomputable def cloneLkN.f (n : Nat)  : Option ((List Link) × Unit) := some ([], ())
noncomputable def cloneLkN.mng (n : Nat) : LMng := ⟨cloneLkN.la, cloneLkN.lb, fun x => cloneLkN.f n ⟩
noncomputable def cloneLkN.cfg (n : Nat) : Cfg := ⟨tys12, [], [], []⟩
theorem cloneLkN.eq : ∀ (n : Nat)  (mp : Mp), LMng.run (cloneLkN.cfg n) n Tryz.f19 (annOf Tryz.f19 cloneLkN.las) cloneLkN.la cloneLkN.lb mp = cloneLkN.f n  := by
  intros
  kernel_rfl
theorem cloneLkN.sound (n : Nat) : LSound Tryz.prog 19 (cloneLkN.mng n) := runL_sound (fn := Tryz.f19) (M := cloneLkN.mng n) (c := cloneLkN.cfg n) (regOK mixed (opOK (.of (c := cloneLkN.cfg n) trivial) (.of (c := cloneLkN.cfg n) trivial)) (tysOK tys12_ok)) (tysOK tys12_ok) Tryz.func19 (fun x => (cloneLkN.eq n  x).symm)

noncomputable def cloneLk.f (n : Nat) (a0 : List Link) : Option ((List Link) × Unit) := cloneLkO.f n (some a0)
def cloneLk.la : LA := ⟨[(0, .sh tLink)], [], [], []⟩
noncomputable def cloneLk.mng (n : Nat) : LMng := ⟨cloneLk.la, cloneLkO.lb, fun x => cloneLk.f n x.1⟩
theorem cloneLk.gof : GoF Tryz.prog 19 := cloneLkO.gof
theorem cloneLk.sound (n : Nat) : LSound Tryz.prog 19 (cloneLk.mng n) :=
  sliceL_sound (t := tLink) (lb := cloneLkO.lb) (F := cloneLk.f n) (mN := cloneLkN.f n) (mO := cloneLkO.f n) (cloneLkN.sound n) (cloneLkO.sound n) (fun y h => h) (fun xs y h => h)

def iJoin.las : List (Nat × LA) := [(1, ⟨[(16, .bool)], [], [2, 3, 4], []⟩), (7, ⟨[(6, .vptr 1000 0), (31, .int .i64)], [(1000, .cells [] [.own 1001 tProgram, .own 1002 tLink]), (1001, .row false tProgram), (1002, .row false tLink)], [2, 4, 29, 30], []⟩), (13, ⟨[(8, .vptr 1000 0)], [(1000, .cells [] [.int .i64, .int .i64, .int .i64, .int .i64, .sh I])], [2, 4, 6, 29, 30, 31], []⟩), (16, ⟨[(8, .vptr 1000 0)], [(1000, .cells [] [.int .i64, .int .i64, .int .i64, .int .i64, .sh I])], [2, 4, 6, 29, 30, 31], []⟩)]
noncomputable def iJoin.f (n : Nat) (a0 : Network) (a1 : Network) : Option (Network × (Bool × Unit)) := cut (α := (Bool × Unit)) ((iIsNetwork.f n a0).bind fun r4 => br (!r4.1) (some (.inr (true, ()))) ((iIsNetwork.f n a1).bind fun r5 => some (.inr ((!r5.1), ())))) fun y3 => br y3.1 (some (([], []), (false, ()))) ((concatP.f n ([a0.1, a1.1] : List (List Program))).bind fun r6 => (cloneLk.f n a0.2).bind fun r7 => iter (α := (Int × (List Program) × (List Link) × Unit)) n (fun ih24 x23 => br (decide (x23.1 < (a1.2.length : Int))) (chk (0 ≤ x23.1 ∧ x23.1 < (a1.2.length : Int)) (let v25 := (a1.2.getD x23.1.toNat zLink); cut (α := (Int × (Int × (Int × (Int × (List Int) × Unit))))) (br (decide (0 ≤ v25.1)) (some (.inr ((w64 (v25.1 + (a0.1.length : Int))), (v25.2.1, (v25.2.2.1, (v25.2.2.2.1, (v25.2.2.2.2, ()))))))) (some (.inr (v25.1, (v25.2.1, (v25.2.2.1, (v25.2.2.2.1, (v25.2.2.2.2, ())))))))) fun y26 => cut (α := (Int × (Int × (Int × (Int × (List Int) × Unit))))) (br (decide (0 ≤ y26.2.2.1)) (some (.inr (y26.1, (y26.2.1, ((w64 (y26.2.2.1 + (a0.1.length : Int))), (y26.2.2.2.1, (y26.2.2.2.2.1, ()))))))) (some (.inr (y26.1, (y26.2.1, (y26.2.2.1, (y26.2.2.2.1, (y26.2.2.2.2.1, ())))))))) fun y27 => chk ((x23.2.2.1.length + ([(y27.1, (y27.2.1, (y27.2.2.1, (y27.2.2.2.1, y27.2.2.2.2.1))))] : List Link).length) * 56 ≤ maxB) (ih24 ((w64 (x23.1 + 1)), (x23.2.1, ((x23.2.2.1 ++ [(y27.1, (y27.2.1, (y27.2.2.1, (y27.2.2.2.1, y27.2.2.2.2.1))))]), ())))))) ((iChecked.f n (x23.2.1, x23.2.2.1)).bind fun r28 => some (r28.1, (r28.2.1, ())))) (0, (r6.1, (r7.1, ()))))
noncomputable def iJoin.mng (n : Nat) : Mng := ⟨[.val tNetwork, .val tNetwork], [.val tNetwork, .val .bool], fun x => iJoin.f n x.1 x.2.1⟩
noncomputable def iJoin.cfg (n : Nat) : Cfg := ⟨tys12, [(17, iIsNetwork.mng n), (20, iChecked.mng n)], [(18, concatP.mng n), (19, cloneLk.mng n)], []⟩
theorem iJoin.eq : ∀ (n : Nat) (a0 : Network) (a1 : Network), runF (iJoin.cfg n) n Tryz.f6 (annOf Tryz.f6 iJoin.las) [.val tNetwork, .val tNetwork] [.val tNetwork, .val .bool] (a0, (a1, ())) = iJoin.f n a0 a1 := by
  intros
  kernel_rfl
theorem iJoin.gof : GoF Tryz.prog 6 := ⟨_, Tryz.func6, by kernel_rfl, by kernel_rfl⟩
theorem iJoin.sound (n : Nat) : Sound Tryz.prog 6 (iJoin.mng n) := runF_sound (fn := Tryz.f6) (m := iJoin.mng n) (c := iJoin.cfg n) (regOK mixed (opOK (.of (c := iJoin.cfg n) ⟨⟨iIsNetwork.sound n, iIsNetwork.gof⟩, ⟨⟨iChecked.sound n, iChecked.gof⟩, trivial⟩⟩) (.of (c := iJoin.cfg n) ⟨⟨concatP.sound n, concatP.gof⟩, ⟨⟨cloneLk.sound n, cloneLk.gof⟩, trivial⟩⟩)) (tysOK tys12_ok)) (tysOK tys12_ok) Tryz.func6 (fun x => (iJoin.eq n x.1 x.2.1).symm)
end Go.AmT
