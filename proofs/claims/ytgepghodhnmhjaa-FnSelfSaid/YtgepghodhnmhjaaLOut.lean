/- Functions that the law FnSelf reaches, each as a plain Lean function, and that each does what that says. No condition. -/
import Derived.Test.YtgepghodhnmhjaaPCopy
namespace Go.AmT
open Go Go.Am Go.Proofs
set_option linter.unusedVariables false
set_option maxRecDepth 100000
def tys15 : List (Nat × TInfo) := [(3, ⟨false, 1, 8, [.int .i64 0], .int .i64, 0, some I, [], false⟩),
  (23, ⟨false, 1, 24, [.nil], .slice, 71, some (.sl tProgram), [], false⟩),
  (24, ⟨false, 1, 24, [.nil], .slice, 53, some (.sl tLink), [], false⟩),
  (26, ⟨true, 2, 48, [.nil, .nil], .struct, 0, some tNetwork, [(0, 23), (1, 24)], false⟩),
  (31, ⟨false, 1, 24, [.nil], .slice, 37, some (.sl IS), [], false⟩),
  (37, ⟨false, 1, 24, [.nil], .slice, 3, some IS, [], false⟩),
  (53, ⟨true, 5, 56, [.int .i64 0, .int .i64 0, .int .i64 0, .int .i64 0, .nil], .struct, 0, some tLink, [(0, 3), (1, 3), (2, 3), (3, 3), (4, 37)], false⟩),
  (71, ⟨true, 3, 40, [.int .i64 0, .int .i64 0, .nil], .struct, 0, some tProgram, [(0, 3), (1, 3), (2, 69)], false⟩)]
theorem tys15_ok : (tys15.all fun p => tokB Try.prog p.1 p.2) = true := by kernel_rfl

def insC.las : List (Nat × LA) := []
noncomputable def insC.f (n : Nat) (a0 : Link) : Option (Bool × Unit) := some ((decide (a0.1 = (-1))), ())
noncomputable def insC.mng (n : Nat) : Mng := ⟨[.val tLink], [.val .bool], fun x => insC.f n x.1⟩
noncomputable def insC.cfg (n : Nat) : Cfg := ⟨tys15, [], [], []⟩
theorem insC.eq : ∀ (n : Nat) (a0 : Link), runF (insC.cfg n) n Try.f153 (annOf Try.f153 insC.las) [.val tLink] [.val .bool] (a0, ()) = insC.f n a0 := by
  intros
  kernel_rfl
theorem insC.gof : GoF Try.prog 153 := ⟨_, Try.func153, by kernel_rfl, by kernel_rfl⟩
theorem insC.sound (n : Nat) : Sound Try.prog 153 (insC.mng n) := runF_sound (fn := Try.f153) (m := insC.mng n) (c := insC.cfg n) (regOK mixed (opOK (.of (c := insC.cfg n) trivial) (.of (c := insC.cfg n) trivial)) (tysOK tys15_ok)) (tysOK tys15_ok) Try.func153 (fun x => (insC.eq n x.1).symm)

def outsC.las : List (Nat × LA) := []
noncomputable def outsC.f (n : Nat) (a0 : Link) : Option (Bool × Unit) := some ((decide (a0.2.2.1 = (-1))), ())
noncomputable def outsC.mng (n : Nat) : Mng := ⟨[.val tLink], [.val .bool], fun x => outsC.f n x.1⟩
noncomputable def outsC.cfg (n : Nat) : Cfg := ⟨tys15, [], [], []⟩
theorem outsC.eq : ∀ (n : Nat) (a0 : Link), runF (outsC.cfg n) n Try.f154 (annOf Try.f154 outsC.las) [.val tLink] [.val .bool] (a0, ()) = outsC.f n a0 := by
  intros
  kernel_rfl
theorem outsC.gof : GoF Try.prog 154 := ⟨_, Try.func154, by kernel_rfl, by kernel_rfl⟩
theorem outsC.sound (n : Nat) : Sound Try.prog 154 (outsC.mng n) := runF_sound (fn := Try.f154) (m := outsC.mng n) (c := outsC.cfg n) (regOK mixed (opOK (.of (c := outsC.cfg n) trivial) (.of (c := outsC.cfg n) trivial)) (tysOK tys15_ok)) (tysOK tys15_ok) Try.func154 (fun x => (outsC.eq n x.1).symm)

def whereI.las : List (Nat × LA) := [(4, ⟨[(5, .own 1000 I), (12, .int .i64)], [(1000, .row true I)], [1, 10, 11], []⟩)]
noncomputable def whereI.f (n : Nat) (a0 : Network) (a1 : (Unit)) : Option ((List Int) × Unit) := iter (α := (Int × (List Int) × Unit)) n (fun ih7 x6 => br (decide (x6.1 < (a0.2.length : Int))) (chk (0 ≤ x6.1 ∧ x6.1 < (a0.2.length : Int)) (let v8 := (a0.2.getD x6.1.toNat zLink); (insC.f n v8).bind fun r9 => br r9.1 (chk ((x6.2.1.length + ([x6.1] : List Int).length) * 8 ≤ maxB) (ih7 ((w64 (x6.1 + 1)), ((x6.2.1 ++ [x6.1]), ())))) (ih7 ((w64 (x6.1 + 1)), (x6.2.1, ()))))) (some (x6.2.1, ()))) (0, ([], ()))
noncomputable def whereI.mng (n : Nat) : Mng := ⟨[.val tNetwork, .fnc 153 []], [.val IS], fun x => whereI.f n x.1 x.2.1⟩
noncomputable def whereI.cfg (n : Nat) : Cfg := ⟨tys15, [(153, insC.mng n)], [], []⟩
theorem whereI.eq : ∀ (n : Nat) (a0 : Network) (a1 : (Unit)), runF (whereI.cfg n) n Try.f152 (annOf Try.f152 whereI.las) [.val tNetwork, .fnc 153 []] [.val IS] (a0, (a1, ())) = whereI.f n a0 a1 := by
  intros
  kernel_rfl
theorem whereI.gof : GoF Try.prog 152 := ⟨_, Try.func152, by kernel_rfl, by kernel_rfl⟩
theorem whereI.sound (n : Nat) : Sound Try.prog 152 (whereI.mng n) := runF_sound (fn := Try.f152) (m := whereI.mng n) (c := whereI.cfg n) (regOK mixed (opOK (.of (c := whereI.cfg n) ⟨⟨insC.sound n, insC.gof⟩, trivial⟩) (.of (c := whereI.cfg n) trivial)) (tysOK tys15_ok)) (tysOK tys15_ok) Try.func152 (fun x => (whereI.eq n x.1 x.2.1).symm)

def whereO.las : List (Nat × LA) := [(4, ⟨[(5, .own 1000 I), (12, .int .i64)], [(1000, .row true I)], [1, 10, 11], []⟩)]
noncomputable def whereO.f (n : Nat) (a0 : Network) (a1 : (Unit)) : Option ((List Int) × Unit) := iter (α := (Int × (List Int) × Unit)) n (fun ih7 x6 => br (decide (x6.1 < (a0.2.length : Int))) (chk (0 ≤ x6.1 ∧ x6.1 < (a0.2.length : Int)) (let v8 := (a0.2.getD x6.1.toNat zLink); (outsC.f n v8).bind fun r9 => br r9.1 (chk ((x6.2.1.length + ([x6.1] : List Int).length) * 8 ≤ maxB) (ih7 ((w64 (x6.1 + 1)), ((x6.2.1 ++ [x6.1]), ())))) (ih7 ((w64 (x6.1 + 1)), (x6.2.1, ()))))) (some (x6.2.1, ()))) (0, ([], ()))
noncomputable def whereO.mng (n : Nat) : Mng := ⟨[.val tNetwork, .fnc 154 []], [.val IS], fun x => whereO.f n x.1 x.2.1⟩
noncomputable def whereO.cfg (n : Nat) : Cfg := ⟨tys15, [(154, outsC.mng n)], [], []⟩
theorem whereO.eq : ∀ (n : Nat) (a0 : Network) (a1 : (Unit)), runF (whereO.cfg n) n Try.f152 (annOf Try.f152 whereO.las) [.val tNetwork, .fnc 154 []] [.val IS] (a0, (a1, ())) = whereO.f n a0 a1 := by
  intros
  kernel_rfl
theorem whereO.gof : GoF Try.prog 152 := ⟨_, Try.func152, by kernel_rfl, by kernel_rfl⟩
theorem whereO.sound (n : Nat) : Sound Try.prog 152 (whereO.mng n) := runF_sound (fn := Try.f152) (m := whereO.mng n) (c := whereO.cfg n) (regOK mixed (opOK (.of (c := whereO.cfg n) ⟨⟨outsC.sound n, outsC.gof⟩, trivial⟩) (.of (c := whereO.cfg n) trivial)) (tysOK tys15_ok)) (tysOK tys15_ok) Try.func152 (fun x => (whereO.eq n x.1 x.2.1).symm)

def insOf.las : List (Nat × LA) := []
noncomputable def insOf.f (n : Nat) (a0 : Network) : Option ((List Int) × Unit) := (iIsNetwork.f n a0).bind fun r1 => br (!r1.1) (some ([], ())) ((whereI.f n a0 ()).bind fun r2 => some (r2.1, ()))
noncomputable def insOf.mng (n : Nat) : Mng := ⟨[.val tNetwork], [.sh IS], fun x => insOf.f n x.1⟩
noncomputable def insOf.cfg (n : Nat) : Cfg := ⟨tys15, [(57, iIsNetwork.mng n), (152, whereI.mng n)], [], []⟩
theorem insOf.eq : ∀ (n : Nat) (a0 : Network), runF (insOf.cfg n) n Try.f109 (annOf Try.f109 insOf.las) [.val tNetwork] [.sh IS] (a0, ()) = insOf.f n a0 := by
  intros
  kernel_rfl
theorem insOf.gof : GoF Try.prog 109 := ⟨_, Try.func109, by kernel_rfl, by kernel_rfl⟩
theorem insOf.sound (n : Nat) : Sound Try.prog 109 (insOf.mng n) := runF_sound (fn := Try.f109) (m := insOf.mng n) (c := insOf.cfg n) (regOK mixed (opOK (.of (c := insOf.cfg n) ⟨⟨iIsNetwork.sound n, iIsNetwork.gof⟩, ⟨⟨whereI.sound n, whereI.gof⟩, trivial⟩⟩) (.of (c := insOf.cfg n) trivial)) (tysOK tys15_ok)) (tysOK tys15_ok) Try.func109 (fun x => (insOf.eq n x.1).symm)

def outsOf.las : List (Nat × LA) := []
noncomputable def outsOf.f (n : Nat) (a0 : Network) : Option ((List Int) × Unit) := (iIsNetwork.f n a0).bind fun r1 => br (!r1.1) (some ([], ())) ((whereO.f n a0 ()).bind fun r2 => some (r2.1, ()))
noncomputable def outsOf.mng (n : Nat) : Mng := ⟨[.val tNetwork], [.sh IS], fun x => outsOf.f n x.1⟩
noncomputable def outsOf.cfg (n : Nat) : Cfg := ⟨tys15, [(57, iIsNetwork.mng n), (152, whereO.mng n)], [], []⟩
theorem outsOf.eq : ∀ (n : Nat) (a0 : Network), runF (outsOf.cfg n) n Try.f110 (annOf Try.f110 outsOf.las) [.val tNetwork] [.sh IS] (a0, ()) = outsOf.f n a0 := by
  intros
  kernel_rfl
theorem outsOf.gof : GoF Try.prog 110 := ⟨_, Try.func110, by kernel_rfl, by kernel_rfl⟩
theorem outsOf.sound (n : Nat) : Sound Try.prog 110 (outsOf.mng n) := runF_sound (fn := Try.f110) (m := outsOf.mng n) (c := outsOf.cfg n) (regOK mixed (opOK (.of (c := outsOf.cfg n) ⟨⟨iIsNetwork.sound n, iIsNetwork.gof⟩, ⟨⟨whereO.sound n, whereO.gof⟩, trivial⟩⟩) (.of (c := outsOf.cfg n) trivial)) (tysOK tys15_ok)) (tysOK tys15_ok) Try.func110 (fun x => (outsOf.eq n x.1).symm)

def concatIG.las : List (Nat × LA) := []
def concatIG.la : LA := ⟨[(0, .con (.nil)), (1, .int .i64)], [], [], []⟩
def concatIG.lb : LA := ⟨[(0, .own 1000 I)], [(1000, .row false I)], [], []⟩
noncomputable def concatIG.f (n : Nat) (a0 : Int) : Option ((List Int) × Unit) := br (decide (a0 < 0)) (none) (br (decide (0 < (w64 (a0 - 0)))) (chk ((0 : Int) ≤ 0 ∧ (0 : Int) ≤ 0 ∧ 0 ≤ 0) (chk (0 < (w64 (a0 - 0)) ∧ (w64 (a0 - 0)) * (8 : Int) ≤ (maxB : Int)) (chk ((0 : Int) ≤ 0 ∧ (0 : Int) ≤ 0 ∧ 0 ≤ ((List.replicate (w64 (a0 - 0)).toNat (0 : Int)).length : Int)) (some ([], ()))))) (some ([], ())))
noncomputable def concatIG.mng (n : Nat) : LMng := ⟨concatIG.la, concatIG.lb, fun x => concatIG.f n x.1⟩
noncomputable def concatIG.cfg (n : Nat) : Cfg := ⟨tys15, [], [], [41]⟩
theorem concatIG.eq : ∀ (n : Nat) (a0 : Int) (mp : Mp), LMng.run (concatIG.cfg n) n Try.f149 (annOf Try.f149 concatIG.las) concatIG.la concatIG.lb (a0, mp) = concatIG.f n a0 := by
  intros
  kernel_rfl
theorem concatIG.gof : GoF Try.prog 149 := ⟨_, Try.func149, by kernel_rfl, by kernel_rfl⟩
theorem concatIG.sound (n : Nat) : LSound Try.prog 149 (concatIG.mng n) := runL_sound (fn := Try.f149) (M := concatIG.mng n) (c := concatIG.cfg n) (regOK mixed (opOK (.of (c := concatIG.cfg n) trivial) (.of (c := concatIG.cfg n) trivial)) (tysOK tys15_ok)) (tysOK tys15_ok) Try.func149 (fun x => (concatIG.eq n x.1 x.2).symm)

def concatI.las : List (Nat × LA) := [(4, ⟨[(3, .int .i64), (11, .int .i64)], [], [0, 9, 10], [0]⟩), (17, ⟨[(6, .own 1000 I), (27, .int .i64)], [(1000, .row false I)], [25, 26], [0]⟩)]
def concatI.la : LA := ⟨[(0, .own 0 IS)], [(0, .row false IS)], [], []⟩
def concatI.lb : LA := ⟨[(0, .own 1000 I)], [(1000, .row false I)], [], []⟩
noncomputable def concatI.f (n : Nat) (a0 : List (List Int)) : Option ((List Int) × Unit) := iter (α := (Int × (Int × Unit))) n (fun ih8 x7 => br (decide (x7.2.1 < (a0.length : Int))) (chk (0 ≤ x7.2.1 ∧ x7.2.1 < (a0.length : Int)) (br (decide ((w64 (x7.1 + ((a0.getD x7.2.1.toNat []).length : Int))) < 0)) (none) (ih8 ((w64 (x7.1 + ((a0.getD x7.2.1.toNat []).length : Int))), ((w64 (x7.2.1 + 1)), ()))))) ((concatIG.f n x7.1).bind fun r9 => iter (α := (Int × (List Int) × Unit)) n (fun ih15 x14 => br (decide (x14.1 < (a0.length : Int))) (chk (0 ≤ x14.1 ∧ x14.1 < (a0.length : Int)) (chk ((x14.2.1.length + (a0.getD x14.1.toNat []).length) * 8 ≤ maxB) (ih15 ((w64 (x14.1 + 1)), ((x14.2.1 ++ (a0.getD x14.1.toNat [])), ()))))) (some (x14.2.1, ()))) (0, (r9.1, ())))) (0, (0, ()))
noncomputable def concatI.mng (n : Nat) : LMng := ⟨concatI.la, concatI.lb, fun x => concatI.f n x.1⟩
noncomputable def concatI.cfg (n : Nat) : Cfg := ⟨tys15, [], [(149, concatIG.mng n)], []⟩
theorem concatI.eq : ∀ (n : Nat) (a0 : List (List Int)) (mp : Mp), LMng.run (concatI.cfg n) n Try.f104 (annOf Try.f104 concatI.las) concatI.la concatI.lb (a0, mp) = concatI.f n a0 := by
  intros
  kernel_rfl
theorem concatI.gof : GoF Try.prog 104 := ⟨_, Try.func104, by kernel_rfl, by kernel_rfl⟩
theorem concatI.sound (n : Nat) : LSound Try.prog 104 (concatI.mng n) := runL_sound (fn := Try.f104) (M := concatI.mng n) (c := concatI.cfg n) (regOK mixed (opOK (.of (c := concatI.cfg n) trivial) (.of (c := concatI.cfg n) ⟨⟨concatIG.sound n, concatIG.gof⟩, trivial⟩)) (tysOK tys15_ok)) (tysOK tys15_ok) Try.func104 (fun x => (concatI.eq n x.1 x.2).symm)

def tmplC.las : List (Nat × LA) := []
noncomputable def tmplC.f (n : Nat) (a0 : Int) (a1 : Network) : Option (Bool × Unit) := chk (0 ≤ a0 ∧ a0 < (a1.2.length : Int)) (let v1 := (a1.2.getD a0.toNat zLink); some ((decide (0 < (v1.2.2.2.2.length : Int))), ()))
noncomputable def tmplC.mng (n : Nat) : Mng := ⟨[.val I, .psh tNetwork], [.val .bool], fun x => tmplC.f n x.1 x.2.1⟩
noncomputable def tmplC.cfg (n : Nat) : Cfg := ⟨tys15, [], [], []⟩
theorem tmplC.eq : ∀ (n : Nat) (a0 : Int) (a1 : Network), runF (tmplC.cfg n) n Try.f115 (annOf Try.f115 tmplC.las) [.val I, .psh tNetwork] [.val .bool] (a0, (a1, ())) = tmplC.f n a0 a1 := by
  intros
  kernel_rfl
theorem tmplC.gof : GoF Try.prog 115 := ⟨_, Try.func115, by kernel_rfl, by kernel_rfl⟩
theorem tmplC.sound (n : Nat) : Sound Try.prog 115 (tmplC.mng n) := runF_sound (fn := Try.f115) (m := tmplC.mng n) (c := tmplC.cfg n) (regOK mixed (opOK (.of (c := tmplC.cfg n) trivial) (.of (c := tmplC.cfg n) trivial)) (tysOK tys15_ok)) (tysOK tys15_ok) Try.func115 (fun x => (tmplC.eq n x.1 x.2.1).symm)

def indexFuncT.las : List (Nat × LA) := [(3, ⟨[(8, .int .i64)], [], [0, 1, 7], []⟩)]
noncomputable def indexFuncT.f (n : Nat) (a0 : List Int) (a1 : (Network × Unit)) : Option (Int × Unit) := iter (α := (Int × Unit)) n (fun ih7 x6 => br (decide (x6.1 < (a0.length : Int))) (chk (0 ≤ x6.1 ∧ x6.1 < (a0.length : Int)) ((tmplC.f n (a0.getD x6.1.toNat 0) a1.1).bind fun r8 => br r8.1 (some (x6.1, ())) (ih7 ((w64 (x6.1 + 1)), ())))) (some ((-1), ()))) (0, ())
noncomputable def indexFuncT.mng (n : Nat) : Mng := ⟨[.val IS, .fnc 115 [.psh tNetwork]], [.val I], fun x => indexFuncT.f n x.1 x.2.1⟩
noncomputable def indexFuncT.cfg (n : Nat) : Cfg := ⟨tys15, [(115, tmplC.mng n)], [], []⟩
theorem indexFuncT.eq : ∀ (n : Nat) (a0 : List Int) (a1 : (Network × Unit)), runF (indexFuncT.cfg n) n Try.f156 (annOf Try.f156 indexFuncT.las) [.val IS, .fnc 115 [.psh tNetwork]] [.val I] (a0, (a1, ())) = indexFuncT.f n a0 a1 := by
  intros
  kernel_rfl
theorem indexFuncT.gof : GoF Try.prog 156 := ⟨_, Try.func156, by kernel_rfl, by kernel_rfl⟩
theorem indexFuncT.sound (n : Nat) : Sound Try.prog 156 (indexFuncT.mng n) := runF_sound (fn := Try.f156) (m := indexFuncT.mng n) (c := indexFuncT.cfg n) (regOK mixed (opOK (.of (c := indexFuncT.cfg n) ⟨⟨tmplC.sound n, tmplC.gof⟩, trivial⟩) (.of (c := indexFuncT.cfg n) trivial)) (tysOK tys15_ok)) (tysOK tys15_ok) Try.func156 (fun x => (indexFuncT.eq n x.1 x.2.1).symm)

def containsFuncT.las : List (Nat × LA) := []
noncomputable def containsFuncT.f (n : Nat) (a0 : List Int) (a1 : (Network × Unit)) : Option (Bool × Unit) := (indexFuncT.f n a0 (a1.1, ())).bind fun r1 => some ((decide (0 ≤ r1.1)), ())
noncomputable def containsFuncT.mng (n : Nat) : Mng := ⟨[.val IS, .fnc 115 [.psh tNetwork]], [.val .bool], fun x => containsFuncT.f n x.1 x.2.1⟩
noncomputable def containsFuncT.cfg (n : Nat) : Cfg := ⟨tys15, [(156, indexFuncT.mng n)], [], []⟩
theorem containsFuncT.eq : ∀ (n : Nat) (a0 : List Int) (a1 : (Network × Unit)), runF (containsFuncT.cfg n) n Try.f114 (annOf Try.f114 containsFuncT.las) [.val IS, .fnc 115 [.psh tNetwork]] [.val .bool] (a0, (a1, ())) = containsFuncT.f n a0 a1 := by
  intros
  kernel_rfl
theorem containsFuncT.gof : GoF Try.prog 114 := ⟨_, Try.func114, by kernel_rfl, by kernel_rfl⟩
theorem containsFuncT.sound (n : Nat) : Sound Try.prog 114 (containsFuncT.mng n) := runF_sound (fn := Try.f114) (m := containsFuncT.mng n) (c := containsFuncT.cfg n) (regOK mixed (opOK (.of (c := containsFuncT.cfg n) ⟨⟨indexFuncT.sound n, indexFuncT.gof⟩, trivial⟩) (.of (c := containsFuncT.cfg n) trivial)) (tysOK tys15_ok)) (tysOK tys15_ok) Try.func114 (fun x => (containsFuncT.eq n x.1 x.2.1).symm)

def iIsTemplate.las : List (Nat × LA) := [(1, ⟨[(27, .bool)], [], [1, 3, 5], []⟩), (5, ⟨[(51, .bool)], [], [5, 7, 8], []⟩)]
noncomputable def iIsTemplate.f (n : Nat) (a0 : Network) (a1 : Int) (a2 : Network) : Option (Bool × Unit) := cut (α := (Bool × Unit)) ((iIsNetwork.f n a0).bind fun r4 => br (!r4.1) (some (.inr (true, ()))) (br (decide (a1 < 0)) (some (.inr (true, ()))) (br (decide ((a0.1.length : Int) ≤ a1)) (some (.inr (true, ()))) ((iIsNetwork.f n a2).bind fun r5 => some (.inr ((!r5.1), ())))))) fun y3 => br y3.1 (some (false, ())) ((insOf.f n a2).bind fun r6 => (outsOf.f n a2).bind fun r7 => cut (α := (Bool × Unit)) (chk (0 ≤ a1 ∧ a1 < (a0.1.length : Int)) (let v11 := (a0.1.getD a1.toNat zProgram); br (!decide ((r6.1.length : Int) = v11.1)) (some (.inr (true, ()))) (chk (0 ≤ a1 ∧ a1 < (a0.1.length : Int)) (let v12 := (a0.1.getD a1.toNat zProgram); some (.inr ((!decide ((r7.1.length : Int) = v12.2.1)), ())))))) fun y10 => br y10.1 (some (false, ())) ((concatI.f n ([r6.1, r7.1] : List (List Int))).bind fun r13 => (containsFuncT.f n r13.1 (a2, ())).bind fun r14 => some ((!r14.1), ())))
noncomputable def iIsTemplate.mng (n : Nat) : Mng := ⟨[.val tNetwork, .val I, .val tNetwork], [.val .bool], fun x => iIsTemplate.f n x.1 x.2.1 x.2.2.1⟩
noncomputable def iIsTemplate.cfg (n : Nat) : Cfg := ⟨tys15, [(57, iIsNetwork.mng n), (109, insOf.mng n), (110, outsOf.mng n), (114, containsFuncT.mng n)], [(104, concatI.mng n)], []⟩
theorem iIsTemplate.eq : ∀ (n : Nat) (a0 : Network) (a1 : Int) (a2 : Network), runF (iIsTemplate.cfg n) n Try.f51 (annOf Try.f51 iIsTemplate.las) [.val tNetwork, .val I, .val tNetwork] [.val .bool] (a0, (a1, (a2, ()))) = iIsTemplate.f n a0 a1 a2 := by
  intros
  kernel_rfl
theorem iIsTemplate.gof : GoF Try.prog 51 := ⟨_, Try.func51, by kernel_rfl, by kernel_rfl⟩
theorem iIsTemplate.sound (n : Nat) : Sound Try.prog 51 (iIsTemplate.mng n) := runF_sound (fn := Try.f51) (m := iIsTemplate.mng n) (c := iIsTemplate.cfg n) (regOK mixed (opOK (.of (c := iIsTemplate.cfg n) ⟨⟨iIsNetwork.sound n, iIsNetwork.gof⟩, ⟨⟨insOf.sound n, insOf.gof⟩, ⟨⟨outsOf.sound n, outsOf.gof⟩, ⟨⟨containsFuncT.sound n, containsFuncT.gof⟩, trivial⟩⟩⟩⟩) (.of (c := iIsTemplate.cfg n) ⟨⟨concatI.sound n, concatI.gof⟩, trivial⟩)) (tysOK tys15_ok)) (tysOK tys15_ok) Try.func51 (fun x => (iIsTemplate.eq n x.1 x.2.1 x.2.2.1).symm)
end Go.AmT
