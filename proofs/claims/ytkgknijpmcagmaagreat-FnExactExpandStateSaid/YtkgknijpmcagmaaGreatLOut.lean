/- Functions that the law FnExactExpandState reaches, each as a plain Lean function, and that each does what that says. No condition. -/
import Derived.Test.YtkgknijpmcagmaaGreatPNet2
import Derived.Test.YtkgknijpmcagmaaGreatPMark0
namespace Go.AmT
open Go Go.Am Go.Proofs
set_option linter.unusedVariables false
set_option maxRecDepth 100000
def tys5 : List (Nat × TInfo) := [(3, ⟨false, 1, 8, [.int .i64 0], .int .i64, 0, some I, [], false⟩),
  (27, ⟨false, 1, 24, [.nil], .slice, 75, some (.sl IS), [], false⟩),
  (37, ⟨false, 1, 24, [.nil], .slice, 53, some (.sl tProgram), [], false⟩),
  (38, ⟨false, 1, 24, [.nil], .slice, 81, some (.sl tLink), [], false⟩),
  (40, ⟨true, 2, 48, [.nil, .nil], .struct, 0, some tNetwork, [(0, 37), (1, 38)], false⟩),
  (53, ⟨true, 3, 40, [.int .i64 0, .int .i64 0, .nil], .struct, 0, some tProgram, [(0, 3), (1, 3), (2, 51)], false⟩),
  (75, ⟨false, 1, 24, [.nil], .slice, 3, some IS, [], false⟩),
  (81, ⟨true, 5, 56, [.int .i64 0, .int .i64 0, .int .i64 0, .int .i64 0, .nil], .struct, 0, some tLink, [(0, 3), (1, 3), (2, 3), (3, 3), (4, 75)], false⟩)]
theorem tys5_ok : (tys5.all fun p => tokB Tryz.prog p.1 p.2) = true := by kernel_rfl

def sL3Has.las : List (Nat × LA) := []
noncomputable def sL3Has.f (n : Nat) (a0 : Network) (a1 : Int) : Option (Bool × Unit) := br (decide (0 ≤ a1)) (some ((decide (a1 < (a0.1.length : Int))), ())) (some (false, ()))
noncomputable def sL3Has.mng (n : Nat) : Mng := ⟨[.val tNetwork, .val I], [.val .bool], fun x => sL3Has.f n x.1 x.2.1⟩
noncomputable def sL3Has.cfg (n : Nat) : Cfg := ⟨tys5, [], [], []⟩
theorem sL3Has.eq : ∀ (n : Nat) (a0 : Network) (a1 : Int), runF (sL3Has.cfg n) n Tryz.f92 (annOf Tryz.f92 sL3Has.las) [.val tNetwork, .val I] [.val .bool] (a0, (a1, ())) = sL3Has.f n a0 a1 := by
  intros
  kernel_rfl
theorem sL3Has.gof : GoF Tryz.prog 92 := ⟨_, Tryz.func92, by kernel_rfl, by kernel_rfl⟩
theorem sL3Has.sound (n : Nat) : Sound Tryz.prog 92 (sL3Has.mng n) := runF_sound (fn := Tryz.f92) (m := sL3Has.mng n) (c := sL3Has.cfg n) (regOK mixed (opOK (.of (c := sL3Has.cfg n) trivial) (.of (c := sL3Has.cfg n) trivial)) (tysOK tys5_ok)) (tysOK tys5_ok) Tryz.func92 (fun x => (sL3Has.eq n x.1 x.2.1).symm)

def sL8Outside.las : List (Nat × LA) := [(4, ⟨[(5, .own 1000 tLink), (12, .int .i64)], [(1000, .row false tLink)], [1, 10, 11], []⟩), (9, ⟨[(30, .bool)], [], [1, 5, 7, 10, 11, 12], []⟩)]
noncomputable def sL8Outside.f (n : Nat) (a0 : Network) (a1 : Bool) : Option ((List Link) × Unit) := iter (α := (Int × (List Link) × Unit)) n (fun ih15 x14 => br (decide (x14.1 < (a0.2.length : Int))) (chk (0 ≤ x14.1 ∧ x14.1 < (a0.2.length : Int)) (let v16 := (a0.2.getD x14.1.toNat zLink); cut (α := (Bool × Unit)) (br a1 (br (decide (v16.1 = (-1))) (some (.inr (true, ()))) (br (!a1) (some (.inr ((decide (v16.2.2.1 = (-1))), ()))) (some (.inr (false, ()))))) (br (!a1) (some (.inr ((decide (v16.2.2.1 = (-1))), ()))) (some (.inr (false, ()))))) fun y17 => br y17.1 (chk ((x14.2.1.length + ([v16] : List Link).length) * 56 ≤ maxB) (ih15 ((w64 (x14.1 + 1)), ((x14.2.1 ++ [v16]), ())))) (ih15 ((w64 (x14.1 + 1)), (x14.2.1, ()))))) (some (x14.2.1, ()))) (0, ([], ()))
noncomputable def sL8Outside.mng (n : Nat) : Mng := ⟨[.val tNetwork, .val .bool], [.sh (.sl tLink)], fun x => sL8Outside.f n x.1 x.2.1⟩
noncomputable def sL8Outside.cfg (n : Nat) : Cfg := ⟨tys5, [], [], []⟩
theorem sL8Outside.eq : ∀ (n : Nat) (a0 : Network) (a1 : Bool), runF (sL8Outside.cfg n) n Tryz.f80 (annOf Tryz.f80 sL8Outside.las) [.val tNetwork, .val .bool] [.sh (.sl tLink)] (a0, (a1, ())) = sL8Outside.f n a0 a1 := by
  intros
  kernel_rfl
theorem sL8Outside.gof : GoF Tryz.prog 80 := ⟨_, Tryz.func80, by kernel_rfl, by kernel_rfl⟩
theorem sL8Outside.sound (n : Nat) : Sound Tryz.prog 80 (sL8Outside.mng n) := runF_sound (fn := Tryz.f80) (m := sL8Outside.mng n) (c := sL8Outside.cfg n) (regOK mixed (opOK (.of (c := sL8Outside.cfg n) trivial) (.of (c := sL8Outside.cfg n) trivial)) (tysOK tys5_ok)) (tysOK tys5_ok) Tryz.func80 (fun x => (sL8Outside.eq n x.1 x.2.1).symm)

def sIsTemplate.las : List (Nat × LA) := [(1, ⟨[(24, .bool)], [], [1, 3, 5], []⟩), (8, ⟨[(35, .int .i64)], [], [1, 3, 7, 8, 33, 34], []⟩)]
noncomputable def sIsTemplate.f (n : Nat) (a0 : Network) (a1 : Int) (a2 : Network) : Option (Bool × Unit) := cut (α := (Bool × Unit)) ((sIsNetwork.f n a0).bind fun r5 => br (!r5.1) (some (.inr (true, ()))) ((sIsNetwork.f n a2).bind fun r6 => br (!r6.1) (some (.inr (true, ()))) ((sL3Has.f n a0 a1).bind fun r7 => some (.inr ((!r7.1), ()))))) fun y4 => br y4.1 (some (false, ())) ((sL8Outside.f n a2 true).bind fun r8 => (sL8Outside.f n a2 false).bind fun r9 => chk (r8.1.length * 56 ≤ maxB) (chk ((r8.1.length + r9.1.length) * 56 ≤ maxB) (iter (α := (Int × Unit)) n (fun ih21 x20 => br (decide (x20.1 < ((r8.1 ++ r9.1).length : Int))) (chk (0 ≤ x20.1 ∧ x20.1 < ((r8.1 ++ r9.1).length : Int)) (br (decide (0 < (((r8.1 ++ r9.1).getD x20.1.toNat zLink).2.2.2.2.length : Int))) (some (false, ())) (ih21 ((w64 (x20.1 + 1)), ())))) (chk (0 ≤ a1 ∧ a1 < (a0.1.length : Int)) (let v22 := (a0.1.getD a1.toNat zProgram); br (decide ((r8.1.length : Int) = v22.1)) (chk (0 ≤ a1 ∧ a1 < (a0.1.length : Int)) (let v23 := (a0.1.getD a1.toNat zProgram); some ((decide ((r9.1.length : Int) = v23.2.1)), ()))) (some (false, ()))))) (0, ()))))
noncomputable def sIsTemplate.mng (n : Nat) : Mng := ⟨[.val tNetwork, .val I, .val tNetwork], [.val .bool], fun x => sIsTemplate.f n x.1 x.2.1 x.2.2.1⟩
noncomputable def sIsTemplate.cfg (n : Nat) : Cfg := ⟨tys5, [(84, sIsNetwork.mng n), (92, sL3Has.mng n), (80, sL8Outside.mng n)], [], [1000031]⟩
theorem sIsTemplate.eq : ∀ (n : Nat) (a0 : Network) (a1 : Int) (a2 : Network), runF (sIsTemplate.cfg n) n Tryz.f79 (annOf Tryz.f79 sIsTemplate.las) [.val tNetwork, .val I, .val tNetwork] [.val .bool] (a0, (a1, (a2, ()))) = sIsTemplate.f n a0 a1 a2 := by
  intros
  kernel_rfl
theorem sIsTemplate.gof : GoF Tryz.prog 79 := ⟨_, Tryz.func79, by kernel_rfl, by kernel_rfl⟩
theorem sIsTemplate.sound (n : Nat) : Sound Tryz.prog 79 (sIsTemplate.mng n) := runF_sound (fn := Tryz.f79) (m := sIsTemplate.mng n) (c := sIsTemplate.cfg n) (regOK mixed (opOK (.of (c := sIsTemplate.cfg n) ⟨⟨sIsNetwork.sound n, sIsNetwork.gof⟩, ⟨⟨sL3Has.sound n, sL3Has.gof⟩, ⟨⟨sL8Outside.sound n, sL8Outside.gof⟩, trivial⟩⟩⟩) (.of (c := sIsTemplate.cfg n) trivial)) (tysOK tys5_ok)) (tysOK tys5_ok) Tryz.func79 (fun x => (sIsTemplate.eq n x.1 x.2.1 x.2.2.1).symm)

def insC.las : List (Nat × LA) := []
noncomputable def insC.f (n : Nat) (a0 : Link) : Option (Bool × Unit) := some ((decide (a0.1 = (-1))), ())
noncomputable def insC.mng (n : Nat) : Mng := ⟨[.val tLink], [.val .bool], fun x => insC.f n x.1⟩
noncomputable def insC.cfg (n : Nat) : Cfg := ⟨tys5, [], [], []⟩
theorem insC.eq : ∀ (n : Nat) (a0 : Link), runF (insC.cfg n) n Tryz.f134 (annOf Tryz.f134 insC.las) [.val tLink] [.val .bool] (a0, ()) = insC.f n a0 := by
  intros
  kernel_rfl
theorem insC.gof : GoF Tryz.prog 134 := ⟨_, Tryz.func134, by kernel_rfl, by kernel_rfl⟩
theorem insC.sound (n : Nat) : Sound Tryz.prog 134 (insC.mng n) := runF_sound (fn := Tryz.f134) (m := insC.mng n) (c := insC.cfg n) (regOK mixed (opOK (.of (c := insC.cfg n) trivial) (.of (c := insC.cfg n) trivial)) (tysOK tys5_ok)) (tysOK tys5_ok) Tryz.func134 (fun x => (insC.eq n x.1).symm)

def outsC.las : List (Nat × LA) := []
noncomputable def outsC.f (n : Nat) (a0 : Link) : Option (Bool × Unit) := some ((decide (a0.2.2.1 = (-1))), ())
noncomputable def outsC.mng (n : Nat) : Mng := ⟨[.val tLink], [.val .bool], fun x => outsC.f n x.1⟩
noncomputable def outsC.cfg (n : Nat) : Cfg := ⟨tys5, [], [], []⟩
theorem outsC.eq : ∀ (n : Nat) (a0 : Link), runF (outsC.cfg n) n Tryz.f135 (annOf Tryz.f135 outsC.las) [.val tLink] [.val .bool] (a0, ()) = outsC.f n a0 := by
  intros
  kernel_rfl
theorem outsC.gof : GoF Tryz.prog 135 := ⟨_, Tryz.func135, by kernel_rfl, by kernel_rfl⟩
theorem outsC.sound (n : Nat) : Sound Tryz.prog 135 (outsC.mng n) := runF_sound (fn := Tryz.f135) (m := outsC.mng n) (c := outsC.cfg n) (regOK mixed (opOK (.of (c := outsC.cfg n) trivial) (.of (c := outsC.cfg n) trivial)) (tysOK tys5_ok)) (tysOK tys5_ok) Tryz.func135 (fun x => (outsC.eq n x.1).symm)

def whereI.las : List (Nat × LA) := [(4, ⟨[(5, .own 1000 I), (12, .int .i64)], [(1000, .row true I)], [1, 10, 11], []⟩)]
noncomputable def whereI.f (n : Nat) (a0 : Network) (a1 : (Unit)) : Option ((List Int) × Unit) := iter (α := (Int × (List Int) × Unit)) n (fun ih7 x6 => br (decide (x6.1 < (a0.2.length : Int))) (chk (0 ≤ x6.1 ∧ x6.1 < (a0.2.length : Int)) (let v8 := (a0.2.getD x6.1.toNat zLink); (insC.f n v8).bind fun r9 => br r9.1 (chk ((x6.2.1.length + ([x6.1] : List Int).length) * 8 ≤ maxB) (ih7 ((w64 (x6.1 + 1)), ((x6.2.1 ++ [x6.1]), ())))) (ih7 ((w64 (x6.1 + 1)), (x6.2.1, ()))))) (some (x6.2.1, ()))) (0, ([], ()))
noncomputable def whereI.mng (n : Nat) : Mng := ⟨[.val tNetwork, .fnc 134 []], [.val IS], fun x => whereI.f n x.1 x.2.1⟩
noncomputable def whereI.cfg (n : Nat) : Cfg := ⟨tys5, [(134, insC.mng n)], [], []⟩
theorem whereI.eq : ∀ (n : Nat) (a0 : Network) (a1 : (Unit)), runF (whereI.cfg n) n Tryz.f133 (annOf Tryz.f133 whereI.las) [.val tNetwork, .fnc 134 []] [.val IS] (a0, (a1, ())) = whereI.f n a0 a1 := by
  intros
  kernel_rfl
theorem whereI.gof : GoF Tryz.prog 133 := ⟨_, Tryz.func133, by kernel_rfl, by kernel_rfl⟩
theorem whereI.sound (n : Nat) : Sound Tryz.prog 133 (whereI.mng n) := runF_sound (fn := Tryz.f133) (m := whereI.mng n) (c := whereI.cfg n) (regOK mixed (opOK (.of (c := whereI.cfg n) ⟨⟨insC.sound n, insC.gof⟩, trivial⟩) (.of (c := whereI.cfg n) trivial)) (tysOK tys5_ok)) (tysOK tys5_ok) Tryz.func133 (fun x => (whereI.eq n x.1 x.2.1).symm)

def whereO.las : List (Nat × LA) := [(4, ⟨[(5, .own 1000 I), (12, .int .i64)], [(1000, .row true I)], [1, 10, 11], []⟩)]
noncomputable def whereO.f (n : Nat) (a0 : Network) (a1 : (Unit)) : Option ((List Int) × Unit) := iter (α := (Int × (List Int) × Unit)) n (fun ih7 x6 => br (decide (x6.1 < (a0.2.length : Int))) (chk (0 ≤ x6.1 ∧ x6.1 < (a0.2.length : Int)) (let v8 := (a0.2.getD x6.1.toNat zLink); (outsC.f n v8).bind fun r9 => br r9.1 (chk ((x6.2.1.length + ([x6.1] : List Int).length) * 8 ≤ maxB) (ih7 ((w64 (x6.1 + 1)), ((x6.2.1 ++ [x6.1]), ())))) (ih7 ((w64 (x6.1 + 1)), (x6.2.1, ()))))) (some (x6.2.1, ()))) (0, ([], ()))
noncomputable def whereO.mng (n : Nat) : Mng := ⟨[.val tNetwork, .fnc 135 []], [.val IS], fun x => whereO.f n x.1 x.2.1⟩
noncomputable def whereO.cfg (n : Nat) : Cfg := ⟨tys5, [(135, outsC.mng n)], [], []⟩
theorem whereO.eq : ∀ (n : Nat) (a0 : Network) (a1 : (Unit)), runF (whereO.cfg n) n Tryz.f133 (annOf Tryz.f133 whereO.las) [.val tNetwork, .fnc 135 []] [.val IS] (a0, (a1, ())) = whereO.f n a0 a1 := by
  intros
  kernel_rfl
theorem whereO.gof : GoF Tryz.prog 133 := ⟨_, Tryz.func133, by kernel_rfl, by kernel_rfl⟩
theorem whereO.sound (n : Nat) : Sound Tryz.prog 133 (whereO.mng n) := runF_sound (fn := Tryz.f133) (m := whereO.mng n) (c := whereO.cfg n) (regOK mixed (opOK (.of (c := whereO.cfg n) ⟨⟨outsC.sound n, outsC.gof⟩, trivial⟩) (.of (c := whereO.cfg n) trivial)) (tysOK tys5_ok)) (tysOK tys5_ok) Tryz.func133 (fun x => (whereO.eq n x.1 x.2.1).symm)

def insOf.las : List (Nat × LA) := []
noncomputable def insOf.f (n : Nat) (a0 : Network) : Option ((List Int) × Unit) := (iIsNetwork.f n a0).bind fun r1 => br (!r1.1) (some ([], ())) ((whereI.f n a0 ()).bind fun r2 => some (r2.1, ()))
noncomputable def insOf.mng (n : Nat) : Mng := ⟨[.val tNetwork], [.sh IS], fun x => insOf.f n x.1⟩
noncomputable def insOf.cfg (n : Nat) : Cfg := ⟨tys5, [(71, iIsNetwork.mng n), (133, whereI.mng n)], [], []⟩
theorem insOf.eq : ∀ (n : Nat) (a0 : Network), runF (insOf.cfg n) n Tryz.f72 (annOf Tryz.f72 insOf.las) [.val tNetwork] [.sh IS] (a0, ()) = insOf.f n a0 := by
  intros
  kernel_rfl
theorem insOf.gof : GoF Tryz.prog 72 := ⟨_, Tryz.func72, by kernel_rfl, by kernel_rfl⟩
theorem insOf.sound (n : Nat) : Sound Tryz.prog 72 (insOf.mng n) := runF_sound (fn := Tryz.f72) (m := insOf.mng n) (c := insOf.cfg n) (regOK mixed (opOK (.of (c := insOf.cfg n) ⟨⟨iIsNetwork.sound n, iIsNetwork.gof⟩, ⟨⟨whereI.sound n, whereI.gof⟩, trivial⟩⟩) (.of (c := insOf.cfg n) trivial)) (tysOK tys5_ok)) (tysOK tys5_ok) Tryz.func72 (fun x => (insOf.eq n x.1).symm)

def outsOf.las : List (Nat × LA) := []
noncomputable def outsOf.f (n : Nat) (a0 : Network) : Option ((List Int) × Unit) := (iIsNetwork.f n a0).bind fun r1 => br (!r1.1) (some ([], ())) ((whereO.f n a0 ()).bind fun r2 => some (r2.1, ()))
noncomputable def outsOf.mng (n : Nat) : Mng := ⟨[.val tNetwork], [.sh IS], fun x => outsOf.f n x.1⟩
noncomputable def outsOf.cfg (n : Nat) : Cfg := ⟨tys5, [(71, iIsNetwork.mng n), (133, whereO.mng n)], [], []⟩
theorem outsOf.eq : ∀ (n : Nat) (a0 : Network), runF (outsOf.cfg n) n Tryz.f73 (annOf Tryz.f73 outsOf.las) [.val tNetwork] [.sh IS] (a0, ()) = outsOf.f n a0 := by
  intros
  kernel_rfl
theorem outsOf.gof : GoF Tryz.prog 73 := ⟨_, Tryz.func73, by kernel_rfl, by kernel_rfl⟩
theorem outsOf.sound (n : Nat) : Sound Tryz.prog 73 (outsOf.mng n) := runF_sound (fn := Tryz.f73) (m := outsOf.mng n) (c := outsOf.cfg n) (regOK mixed (opOK (.of (c := outsOf.cfg n) ⟨⟨iIsNetwork.sound n, iIsNetwork.gof⟩, ⟨⟨whereO.sound n, whereO.gof⟩, trivial⟩⟩) (.of (c := outsOf.cfg n) trivial)) (tysOK tys5_ok)) (tysOK tys5_ok) Tryz.func73 (fun x => (outsOf.eq n x.1).symm)

def concatIG.las : List (Nat × LA) := []
def concatIG.la : LA := ⟨[(0, .con (.nil)), (1, .int .i64)], [], [], []⟩
def concatIG.lb : LA := ⟨[(0, .own 1000 I)], [(1000, .row false I)], [], []⟩
noncomputable def concatIG.f (n : Nat) (a0 : Int) : Option ((List Int) × Unit) := br (decide (a0 < 0)) (none) (br (decide (0 < (w64 (a0 - 0)))) (chk ((0 : Int) ≤ 0 ∧ (0 : Int) ≤ 0 ∧ 0 ≤ 0) (chk (0 < (w64 (a0 - 0)) ∧ (w64 (a0 - 0)) * (8 : Int) ≤ (maxB : Int)) (chk ((0 : Int) ≤ 0 ∧ (0 : Int) ≤ 0 ∧ 0 ≤ ((List.replicate (w64 (a0 - 0)).toNat (0 : Int)).length : Int)) (some ([], ()))))) (some ([], ())))
noncomputable def concatIG.mng (n : Nat) : LMng := ⟨concatIG.la, concatIG.lb, fun x => concatIG.f n x.1⟩
noncomputable def concatIG.cfg (n : Nat) : Cfg := ⟨tys5, [], [], [41]⟩
theorem concatIG.eq : ∀ (n : Nat) (a0 : Int) (mp : Mp), LMng.run (concatIG.cfg n) n Tryz.f137 (annOf Tryz.f137 concatIG.las) concatIG.la concatIG.lb (a0, mp) = concatIG.f n a0 := by
  intros
  kernel_rfl
theorem concatIG.gof : GoF Tryz.prog 137 := ⟨_, Tryz.func137, by kernel_rfl, by kernel_rfl⟩
theorem concatIG.sound (n : Nat) : LSound Tryz.prog 137 (concatIG.mng n) := runL_sound (fn := Tryz.f137) (M := concatIG.mng n) (c := concatIG.cfg n) (regOK mixed (opOK (.of (c := concatIG.cfg n) trivial) (.of (c := concatIG.cfg n) trivial)) (tysOK tys5_ok)) (tysOK tys5_ok) Tryz.func137 (fun x => (concatIG.eq n x.1 x.2).symm)

def concatI.las : List (Nat × LA) := [(4, ⟨[(3, .int .i64), (11, .int .i64)], [], [0, 9, 10], [0]⟩), (17, ⟨[(6, .own 1000 I), (27, .int .i64)], [(1000, .row false I)], [25, 26], [0]⟩)]
def concatI.la : LA := ⟨[(0, .own 0 IS)], [(0, .row false IS)], [], []⟩
def concatI.lb : LA := ⟨[(0, .own 1000 I)], [(1000, .row false I)], [], []⟩
noncomputable def concatI.f (n : Nat) (a0 : List (List Int)) : Option ((List Int) × Unit) := iter (α := (Int × (Int × Unit))) n (fun ih8 x7 => br (decide (x7.2.1 < (a0.length : Int))) (chk (0 ≤ x7.2.1 ∧ x7.2.1 < (a0.length : Int)) (br (decide ((w64 (x7.1 + ((a0.getD x7.2.1.toNat []).length : Int))) < 0)) (none) (ih8 ((w64 (x7.1 + ((a0.getD x7.2.1.toNat []).length : Int))), ((w64 (x7.2.1 + 1)), ()))))) ((concatIG.f n x7.1).bind fun r9 => iter (α := (Int × (List Int) × Unit)) n (fun ih15 x14 => br (decide (x14.1 < (a0.length : Int))) (chk (0 ≤ x14.1 ∧ x14.1 < (a0.length : Int)) (chk ((x14.2.1.length + (a0.getD x14.1.toNat []).length) * 8 ≤ maxB) (ih15 ((w64 (x14.1 + 1)), ((x14.2.1 ++ (a0.getD x14.1.toNat [])), ()))))) (some (x14.2.1, ()))) (0, (r9.1, ())))) (0, (0, ()))
noncomputable def concatI.mng (n : Nat) : LMng := ⟨concatI.la, concatI.lb, fun x => concatI.f n x.1⟩
noncomputable def concatI.cfg (n : Nat) : Cfg := ⟨tys5, [], [(137, concatIG.mng n)], []⟩
theorem concatI.eq : ∀ (n : Nat) (a0 : List (List Int)) (mp : Mp), LMng.run (concatI.cfg n) n Tryz.f75 (annOf Tryz.f75 concatI.las) concatI.la concatI.lb (a0, mp) = concatI.f n a0 := by
  intros
  kernel_rfl
theorem concatI.gof : GoF Tryz.prog 75 := ⟨_, Tryz.func75, by kernel_rfl, by kernel_rfl⟩
theorem concatI.sound (n : Nat) : LSound Tryz.prog 75 (concatI.mng n) := runL_sound (fn := Tryz.f75) (M := concatI.mng n) (c := concatI.cfg n) (regOK mixed (opOK (.of (c := concatI.cfg n) trivial) (.of (c := concatI.cfg n) ⟨⟨concatIG.sound n, concatIG.gof⟩, trivial⟩)) (tysOK tys5_ok)) (tysOK tys5_ok) Tryz.func75 (fun x => (concatI.eq n x.1 x.2).symm)

def tmplC.las : List (Nat × LA) := []
noncomputable def tmplC.f (n : Nat) (a0 : Int) (a1 : Network) : Option (Bool × Unit) := chk (0 ≤ a0 ∧ a0 < (a1.2.length : Int)) (let v1 := (a1.2.getD a0.toNat zLink); some ((decide (0 < (v1.2.2.2.2.length : Int))), ()))
noncomputable def tmplC.mng (n : Nat) : Mng := ⟨[.val I, .psh tNetwork], [.val .bool], fun x => tmplC.f n x.1 x.2.1⟩
noncomputable def tmplC.cfg (n : Nat) : Cfg := ⟨tys5, [], [], []⟩
theorem tmplC.eq : ∀ (n : Nat) (a0 : Int) (a1 : Network), runF (tmplC.cfg n) n Tryz.f76 (annOf Tryz.f76 tmplC.las) [.val I, .psh tNetwork] [.val .bool] (a0, (a1, ())) = tmplC.f n a0 a1 := by
  intros
  kernel_rfl
theorem tmplC.gof : GoF Tryz.prog 76 := ⟨_, Tryz.func76, by kernel_rfl, by kernel_rfl⟩
theorem tmplC.sound (n : Nat) : Sound Tryz.prog 76 (tmplC.mng n) := runF_sound (fn := Tryz.f76) (m := tmplC.mng n) (c := tmplC.cfg n) (regOK mixed (opOK (.of (c := tmplC.cfg n) trivial) (.of (c := tmplC.cfg n) trivial)) (tysOK tys5_ok)) (tysOK tys5_ok) Tryz.func76 (fun x => (tmplC.eq n x.1 x.2.1).symm)

def indexFuncT.las : List (Nat × LA) := [(3, ⟨[(8, .int .i64)], [], [0, 1, 7], []⟩)]
noncomputable def indexFuncT.f (n : Nat) (a0 : List Int) (a1 : (Network × Unit)) : Option (Int × Unit) := iter (α := (Int × Unit)) n (fun ih7 x6 => br (decide (x6.1 < (a0.length : Int))) (chk (0 ≤ x6.1 ∧ x6.1 < (a0.length : Int)) ((tmplC.f n (a0.getD x6.1.toNat 0) a1.1).bind fun r8 => br r8.1 (some (x6.1, ())) (ih7 ((w64 (x6.1 + 1)), ())))) (some ((-1), ()))) (0, ())
noncomputable def indexFuncT.mng (n : Nat) : Mng := ⟨[.val IS, .fnc 76 [.psh tNetwork]], [.val I], fun x => indexFuncT.f n x.1 x.2.1⟩
noncomputable def indexFuncT.cfg (n : Nat) : Cfg := ⟨tys5, [(76, tmplC.mng n)], [], []⟩
theorem indexFuncT.eq : ∀ (n : Nat) (a0 : List Int) (a1 : (Network × Unit)), runF (indexFuncT.cfg n) n Tryz.f136 (annOf Tryz.f136 indexFuncT.las) [.val IS, .fnc 76 [.psh tNetwork]] [.val I] (a0, (a1, ())) = indexFuncT.f n a0 a1 := by
  intros
  kernel_rfl
theorem indexFuncT.gof : GoF Tryz.prog 136 := ⟨_, Tryz.func136, by kernel_rfl, by kernel_rfl⟩
theorem indexFuncT.sound (n : Nat) : Sound Tryz.prog 136 (indexFuncT.mng n) := runF_sound (fn := Tryz.f136) (m := indexFuncT.mng n) (c := indexFuncT.cfg n) (regOK mixed (opOK (.of (c := indexFuncT.cfg n) ⟨⟨tmplC.sound n, tmplC.gof⟩, trivial⟩) (.of (c := indexFuncT.cfg n) trivial)) (tysOK tys5_ok)) (tysOK tys5_ok) Tryz.func136 (fun x => (indexFuncT.eq n x.1 x.2.1).symm)

def containsFuncT.las : List (Nat × LA) := []
noncomputable def containsFuncT.f (n : Nat) (a0 : List Int) (a1 : (Network × Unit)) : Option (Bool × Unit) := (indexFuncT.f n a0 (a1.1, ())).bind fun r1 => some ((decide (0 ≤ r1.1)), ())
noncomputable def containsFuncT.mng (n : Nat) : Mng := ⟨[.val IS, .fnc 76 [.psh tNetwork]], [.val .bool], fun x => containsFuncT.f n x.1 x.2.1⟩
noncomputable def containsFuncT.cfg (n : Nat) : Cfg := ⟨tys5, [(136, indexFuncT.mng n)], [], []⟩
theorem containsFuncT.eq : ∀ (n : Nat) (a0 : List Int) (a1 : (Network × Unit)), runF (containsFuncT.cfg n) n Tryz.f74 (annOf Tryz.f74 containsFuncT.las) [.val IS, .fnc 76 [.psh tNetwork]] [.val .bool] (a0, (a1, ())) = containsFuncT.f n a0 a1 := by
  intros
  kernel_rfl
theorem containsFuncT.gof : GoF Tryz.prog 74 := ⟨_, Tryz.func74, by kernel_rfl, by kernel_rfl⟩
theorem containsFuncT.sound (n : Nat) : Sound Tryz.prog 74 (containsFuncT.mng n) := runF_sound (fn := Tryz.f74) (m := containsFuncT.mng n) (c := containsFuncT.cfg n) (regOK mixed (opOK (.of (c := containsFuncT.cfg n) ⟨⟨indexFuncT.sound n, indexFuncT.gof⟩, trivial⟩) (.of (c := containsFuncT.cfg n) trivial)) (tysOK tys5_ok)) (tysOK tys5_ok) Tryz.func74 (fun x => (containsFuncT.eq n x.1 x.2.1).symm)

def iIsTemplate.las : List (Nat × LA) := [(1, ⟨[(27, .bool)], [], [1, 3, 5], []⟩), (5, ⟨[(51, .bool)], [], [5, 7, 8], []⟩)]
noncomputable def iIsTemplate.f (n : Nat) (a0 : Network) (a1 : Int) (a2 : Network) : Option (Bool × Unit) := cut (α := (Bool × Unit)) ((iIsNetwork.f n a0).bind fun r4 => br (!r4.1) (some (.inr (true, ()))) (br (decide (a1 < 0)) (some (.inr (true, ()))) (br (decide ((a0.1.length : Int) ≤ a1)) (some (.inr (true, ()))) ((iIsNetwork.f n a2).bind fun r5 => some (.inr ((!r5.1), ())))))) fun y3 => br y3.1 (some (false, ())) ((insOf.f n a2).bind fun r6 => (outsOf.f n a2).bind fun r7 => cut (α := (Bool × Unit)) (chk (0 ≤ a1 ∧ a1 < (a0.1.length : Int)) (let v11 := (a0.1.getD a1.toNat zProgram); br (!decide ((r6.1.length : Int) = v11.1)) (some (.inr (true, ()))) (chk (0 ≤ a1 ∧ a1 < (a0.1.length : Int)) (let v12 := (a0.1.getD a1.toNat zProgram); some (.inr ((!decide ((r7.1.length : Int) = v12.2.1)), ())))))) fun y10 => br y10.1 (some (false, ())) ((concatI.f n ([r6.1, r7.1] : List (List Int))).bind fun r13 => (containsFuncT.f n r13.1 (a2, ())).bind fun r14 => some ((!r14.1), ())))
noncomputable def iIsTemplate.mng (n : Nat) : Mng := ⟨[.val tNetwork, .val I, .val tNetwork], [.val .bool], fun x => iIsTemplate.f n x.1 x.2.1 x.2.2.1⟩
noncomputable def iIsTemplate.cfg (n : Nat) : Cfg := ⟨tys5, [(71, iIsNetwork.mng n), (72, insOf.mng n), (73, outsOf.mng n), (74, containsFuncT.mng n)], [(75, concatI.mng n)], []⟩
theorem iIsTemplate.eq : ∀ (n : Nat) (a0 : Network) (a1 : Int) (a2 : Network), runF (iIsTemplate.cfg n) n Tryz.f22 (annOf Tryz.f22 iIsTemplate.las) [.val tNetwork, .val I, .val tNetwork] [.val .bool] (a0, (a1, (a2, ()))) = iIsTemplate.f n a0 a1 a2 := by
  intros
  kernel_rfl
theorem iIsTemplate.gof : GoF Tryz.prog 22 := ⟨_, Tryz.func22, by kernel_rfl, by kernel_rfl⟩
theorem iIsTemplate.sound (n : Nat) : Sound Tryz.prog 22 (iIsTemplate.mng n) := runF_sound (fn := Tryz.f22) (m := iIsTemplate.mng n) (c := iIsTemplate.cfg n) (regOK mixed (opOK (.of (c := iIsTemplate.cfg n) ⟨⟨iIsNetwork.sound n, iIsNetwork.gof⟩, ⟨⟨insOf.sound n, insOf.gof⟩, ⟨⟨outsOf.sound n, outsOf.gof⟩, ⟨⟨containsFuncT.sound n, containsFuncT.gof⟩, trivial⟩⟩⟩⟩) (.of (c := iIsTemplate.cfg n) ⟨⟨concatI.sound n, concatI.gof⟩, trivial⟩)) (tysOK tys5_ok)) (tysOK tys5_ok) Tryz.func22 (fun x => (iIsTemplate.eq n x.1 x.2.1 x.2.2.1).symm)
end Go.AmT
