/- Functions that the law FnRepeated reaches, each as a plain Lean function, and that each does what that says. No condition. -/
import Derived.Test.YtgibfifokpnnjaaAmD
import Derived.Test.YtgibfifokpnnjaaProg
namespace Go.AmT
open Go Go.Am Go.Proofs
set_option linter.unusedVariables false
set_option maxRecDepth 100000
abbrev I : Ty := .int .i64
abbrev U8 : Ty := .int .u8
abbrev IS : Ty := .sl I
abbrev tRatio : Ty := (.pair I I)
abbrev tEdge : Ty := (.pair I (.pair I (.pair I tRatio)))
abbrev tGraph : Ty := (.pair I (.sl tEdge))
abbrev Edge : Type := Int × (Int × (Int × (Int × Int)))
def zEdge : Edge := (0, (0, (0, (0, 0))))
abbrev Graph : Type := Int × List Edge
abbrev Ratio : Type := Int × Int
def zRatio : Ratio := (0, 0)
def tys : List (Nat × TInfo) := [(3, ⟨false, 1, 8, [.int .i64 0], .int .i64, 0, some I, [], false⟩),
  (22, ⟨false, 1, 24, [.nil], .slice, 3, some IS, [], false⟩),
  (31, ⟨false, 1, 24, [.nil], .slice, 89, some (.sl tEdge), [], false⟩),
  (33, ⟨true, 2, 32, [.int .i64 0, .nil], .struct, 0, some tGraph, [(0, 3), (1, 31)], false⟩),
  (36, ⟨false, 1, 24, [.nil], .slice, 62, some (.sl tEdge), [], false⟩),
  (38, ⟨true, 2, 32, [.int .i64 0, .nil], .struct, 0, some tGraph, [(0, 3), (1, 36)], false⟩),
  (62, ⟨true, 5, 40, [.int .i64 0, .int .i64 0, .int .i64 0, .int .i64 0, .int .i64 0], .struct, 0, some tEdge, [(0, 3), (1, 3), (2, 3), (3, 3), (4, 3)], false⟩),
  (89, ⟨true, 5, 40, [.int .i64 0, .int .i64 0, .int .i64 0, .int .i64 0, .int .i64 0], .struct, 0, some tEdge, [(0, 3), (1, 3), (2, 3), (3, 3), (4, 3)], false⟩)]
theorem tys_ok : (tys.all fun p => tokB Try.prog p.1 p.2) = true := by kernel_rfl
theorem mixed : Try.prog.follows .mixedOrders = true := by kernel_rfl

def l1In.las : List (Nat × LA) := []
noncomputable def l1In.f (n : Nat) (a0 : Int) (a1 : Int) (a2 : Int) : Option (Bool × Unit) := br (decide (a1 ≤ a0)) (some ((decide (a0 ≤ a2)), ())) (some (false, ()))
noncomputable def l1In.mng (n : Nat) : Mng := ⟨[.val I, .val I, .val I], [.val .bool], fun x => l1In.f n x.1 x.2.1 x.2.2.1⟩
noncomputable def l1In.cfg (n : Nat) : Cfg := ⟨tys, [], [], []⟩
theorem l1In.eq : ∀ (n : Nat) (a0 : Int) (a1 : Int) (a2 : Int), runF (l1In.cfg n) n Try.f44 (annOf Try.f44 l1In.las) [.val I, .val I, .val I] [.val .bool] (a0, (a1, (a2, ()))) = l1In.f n a0 a1 a2 := by
  intros
  kernel_rfl
theorem l1In.gof : GoF Try.prog 44 := ⟨_, Try.func44, by kernel_rfl, by kernel_rfl⟩
theorem l1In.sound (n : Nat) : Sound Try.prog 44 (l1In.mng n) := runF_sound (fn := Try.f44) (m := l1In.mng n) (c := l1In.cfg n) (regOK mixed (opOK (.of (c := l1In.cfg n) trivial) (.of (c := l1In.cfg n) trivial)) (tysOK tys_ok)) (tysOK tys_ok) Try.func44 (fun x => (l1In.eq n x.1 x.2.1 x.2.2.1).symm)

def sIsGraph.las : List (Nat × LA) := [(6, ⟨[(18, .int .i64)], [], [1, 16, 17], []⟩)]
noncomputable def sIsGraph.f (n : Nat) (a0 : Graph) : Option (Bool × Unit) := (l1In.f n a0.1 0 8).bind fun r1 => br (!r1.1) (some (false, ())) (br (decide (16 < (a0.2.length : Int))) (some (false, ())) (iter (α := (Int × Unit)) n (fun ih13 x12 => br (decide (x12.1 < (a0.2.length : Int))) (chk (0 ≤ x12.1 ∧ x12.1 < (a0.2.length : Int)) (let v14 := (a0.2.getD x12.1.toNat zEdge); (l1In.f n v14.1 0 (w64 (a0.1 - 1))).bind fun r15 => br (!r15.1) (some (false, ())) ((l1In.f n v14.2.1 0 (w64 (a0.1 - 1))).bind fun r16 => br (!r16.1) (some (false, ())) ((l1In.f n v14.2.2.1 1 5).bind fun r17 => br (!r17.1) (some (false, ())) ((l1In.f n v14.2.2.2.1 1 5).bind fun r18 => br (!r18.1) (some (false, ())) ((l1In.f n v14.2.2.2.2 0 50).bind fun r19 => br (!r19.1) (some (false, ())) (ih13 ((w64 (x12.1 + 1)), ())))))))) (some (true, ()))) (0, ())))
noncomputable def sIsGraph.mng (n : Nat) : Mng := ⟨[.val tGraph], [.val .bool], fun x => sIsGraph.f n x.1⟩
noncomputable def sIsGraph.cfg (n : Nat) : Cfg := ⟨tys, [(44, l1In.mng n)], [], []⟩
theorem sIsGraph.eq : ∀ (n : Nat) (a0 : Graph), runF (sIsGraph.cfg n) n Try.f21 (annOf Try.f21 sIsGraph.las) [.val tGraph] [.val .bool] (a0, ()) = sIsGraph.f n a0 := by
  intros
  kernel_rfl
theorem sIsGraph.gof : GoF Try.prog 21 := ⟨_, Try.func21, by kernel_rfl, by kernel_rfl⟩
theorem sIsGraph.sound (n : Nat) : Sound Try.prog 21 (sIsGraph.mng n) := runF_sound (fn := Try.f21) (m := sIsGraph.mng n) (c := sIsGraph.cfg n) (regOK mixed (opOK (.of (c := sIsGraph.cfg n) ⟨⟨l1In.sound n, l1In.gof⟩, trivial⟩) (.of (c := sIsGraph.cfg n) trivial)) (tysOK tys_ok)) (tysOK tys_ok) Try.func21 (fun x => (sIsGraph.eq n x.1).symm)

def isGraphC.las : List (Nat × LA) := []
noncomputable def isGraphC.f (n : Nat) (a0 : Edge) (a1 : Graph) : Option (Bool × Unit) := br (decide (a0.1 < 0)) (some (true, ())) (br (decide (a1.1 ≤ a0.1)) (some (true, ())) (br (decide (a0.2.1 < 0)) (some (true, ())) (br (decide (a1.1 ≤ a0.2.1)) (some (true, ())) (br (decide (a0.2.2.1 < 1)) (some (true, ())) (br (decide (5 < a0.2.2.1)) (some (true, ())) (br (decide (a0.2.2.2.1 < 1)) (some (true, ())) (br (decide (5 < a0.2.2.2.1)) (some (true, ())) (br (decide (a0.2.2.2.2 < 0)) (some (true, ())) (some ((decide (50 < a0.2.2.2.2)), ()))))))))))
noncomputable def isGraphC.mng (n : Nat) : Mng := ⟨[.val tEdge, .psh tGraph], [.val .bool], fun x => isGraphC.f n x.1 x.2.1⟩
noncomputable def isGraphC.cfg (n : Nat) : Cfg := ⟨tys, [], [], []⟩
theorem isGraphC.eq : ∀ (n : Nat) (a0 : Edge) (a1 : Graph), runF (isGraphC.cfg n) n Try.f47 (annOf Try.f47 isGraphC.las) [.val tEdge, .psh tGraph] [.val .bool] (a0, (a1, ())) = isGraphC.f n a0 a1 := by
  intros
  kernel_rfl
theorem isGraphC.gof : GoF Try.prog 47 := ⟨_, Try.func47, by kernel_rfl, by kernel_rfl⟩
theorem isGraphC.sound (n : Nat) : Sound Try.prog 47 (isGraphC.mng n) := runF_sound (fn := Try.f47) (m := isGraphC.mng n) (c := isGraphC.cfg n) (regOK mixed (opOK (.of (c := isGraphC.cfg n) trivial) (.of (c := isGraphC.cfg n) trivial)) (tysOK tys_ok)) (tysOK tys_ok) Try.func47 (fun x => (isGraphC.eq n x.1 x.2.1).symm)

def indexFuncE.las : List (Nat × LA) := [(3, ⟨[(8, .int .i64)], [], [0, 1, 7], []⟩)]
noncomputable def indexFuncE.f (n : Nat) (a0 : List Edge) (a1 : (Graph × Unit)) : Option (Int × Unit) := iter (α := (Int × Unit)) n (fun ih7 x6 => br (decide (x6.1 < (a0.length : Int))) (chk (0 ≤ x6.1 ∧ x6.1 < (a0.length : Int)) (let v8 := (a0.getD x6.1.toNat zEdge); (isGraphC.f n v8 a1.1).bind fun r9 => br r9.1 (some (x6.1, ())) (ih7 ((w64 (x6.1 + 1)), ())))) (some ((-1), ()))) (0, ())
noncomputable def indexFuncE.mng (n : Nat) : Mng := ⟨[.val (.sl tEdge), .fnc 47 [.psh tGraph]], [.val I], fun x => indexFuncE.f n x.1 x.2.1⟩
noncomputable def indexFuncE.cfg (n : Nat) : Cfg := ⟨tys, [(47, isGraphC.mng n)], [], []⟩
theorem indexFuncE.eq : ∀ (n : Nat) (a0 : List Edge) (a1 : (Graph × Unit)), runF (indexFuncE.cfg n) n Try.f66 (annOf Try.f66 indexFuncE.las) [.val (.sl tEdge), .fnc 47 [.psh tGraph]] [.val I] (a0, (a1, ())) = indexFuncE.f n a0 a1 := by
  intros
  kernel_rfl
theorem indexFuncE.gof : GoF Try.prog 66 := ⟨_, Try.func66, by kernel_rfl, by kernel_rfl⟩
theorem indexFuncE.sound (n : Nat) : Sound Try.prog 66 (indexFuncE.mng n) := runF_sound (fn := Try.f66) (m := indexFuncE.mng n) (c := indexFuncE.cfg n) (regOK mixed (opOK (.of (c := indexFuncE.cfg n) ⟨⟨isGraphC.sound n, isGraphC.gof⟩, trivial⟩) (.of (c := indexFuncE.cfg n) trivial)) (tysOK tys_ok)) (tysOK tys_ok) Try.func66 (fun x => (indexFuncE.eq n x.1 x.2.1).symm)

def containsFuncE.las : List (Nat × LA) := []
noncomputable def containsFuncE.f (n : Nat) (a0 : List Edge) (a1 : (Graph × Unit)) : Option (Bool × Unit) := (indexFuncE.f n a0 (a1.1, ())).bind fun r1 => some ((decide (0 ≤ r1.1)), ())
noncomputable def containsFuncE.mng (n : Nat) : Mng := ⟨[.val (.sl tEdge), .fnc 47 [.psh tGraph]], [.val .bool], fun x => containsFuncE.f n x.1 x.2.1⟩
noncomputable def containsFuncE.cfg (n : Nat) : Cfg := ⟨tys, [(66, indexFuncE.mng n)], [], []⟩
theorem containsFuncE.eq : ∀ (n : Nat) (a0 : List Edge) (a1 : (Graph × Unit)), runF (containsFuncE.cfg n) n Try.f46 (annOf Try.f46 containsFuncE.las) [.val (.sl tEdge), .fnc 47 [.psh tGraph]] [.val .bool] (a0, (a1, ())) = containsFuncE.f n a0 a1 := by
  intros
  kernel_rfl
theorem containsFuncE.gof : GoF Try.prog 46 := ⟨_, Try.func46, by kernel_rfl, by kernel_rfl⟩
theorem containsFuncE.sound (n : Nat) : Sound Try.prog 46 (containsFuncE.mng n) := runF_sound (fn := Try.f46) (m := containsFuncE.mng n) (c := containsFuncE.cfg n) (regOK mixed (opOK (.of (c := containsFuncE.cfg n) ⟨⟨indexFuncE.sound n, indexFuncE.gof⟩, trivial⟩) (.of (c := containsFuncE.cfg n) trivial)) (tysOK tys_ok)) (tysOK tys_ok) Try.func46 (fun x => (containsFuncE.eq n x.1 x.2.1).symm)

def iIsGraph.las : List (Nat × LA) := []
noncomputable def iIsGraph.f (n : Nat) (a0 : Graph) : Option (Bool × Unit) := br (decide (a0.1 < 0)) (some (false, ())) (br (decide (8 < a0.1)) (some (false, ())) (br (decide (16 < (a0.2.length : Int))) (some (false, ())) ((containsFuncE.f n a0.2 (a0, ())).bind fun r1 => some ((!r1.1), ()))))
noncomputable def iIsGraph.mng (n : Nat) : Mng := ⟨[.val tGraph], [.val .bool], fun x => iIsGraph.f n x.1⟩
noncomputable def iIsGraph.cfg (n : Nat) : Cfg := ⟨tys, [(46, containsFuncE.mng n)], [], []⟩
theorem iIsGraph.eq : ∀ (n : Nat) (a0 : Graph), runF (iIsGraph.cfg n) n Try.f23 (annOf Try.f23 iIsGraph.las) [.val tGraph] [.val .bool] (a0, ()) = iIsGraph.f n a0 := by
  intros
  kernel_rfl
theorem iIsGraph.gof : GoF Try.prog 23 := ⟨_, Try.func23, by kernel_rfl, by kernel_rfl⟩
theorem iIsGraph.sound (n : Nat) : Sound Try.prog 23 (iIsGraph.mng n) := runF_sound (fn := Try.f23) (m := iIsGraph.mng n) (c := iIsGraph.cfg n) (regOK mixed (opOK (.of (c := iIsGraph.cfg n) ⟨⟨containsFuncE.sound n, containsFuncE.gof⟩, trivial⟩) (.of (c := iIsGraph.cfg n) trivial)) (tysOK tys_ok)) (tysOK tys_ok) Try.func23 (fun x => (iIsGraph.eq n x.1).symm)

noncomputable def cloneI.f (n : Nat) (a0 : List Int) : Option ((List Int) × Unit) := chk ((([] : List Int).length + a0.length) * 8 ≤ maxB) (some ((([] : List Int) ++ a0), ()))
noncomputable def cloneI.mng (n : Nat) : Mng := ⟨[.val (.sl I)], [.val (.sl I)], fun x => cloneI.f n x.1⟩
noncomputable def cloneI.cfg (n : Nat) : Cfg := ⟨tys, [], [], []⟩
theorem cloneI.gof : GoF Try.prog 55 := ⟨_, Try.func55, by kernel_rfl, by kernel_rfl⟩
theorem cloneI.eq0 : ∀ (n : Nat), runNil (cloneI.cfg n) n Try.f55 (annOf Try.f55 []) [.val (.sl I)] [.val (.sl I)] .nil [] [] = some (([] : List Int), ()) := by
  intros
  kernel_rfl
theorem cloneI.eq1 : ∀ (n : Nat) (a0 : List Int), runNil (cloneI.cfg n) n Try.f55 (annOf Try.f55 []) [.val (.sl I)] [.val (.sl I)] (.osh I (some a0)) [] [] = cloneI.f n a0 := by
  intros
  kernel_rfl
theorem cloneI.sound (n : Nat) : Sound Try.prog 55 (cloneI.mng n) :=
  runNil_sound (t := I) (ps := []) (rs := [.val (.sl I)]) (F := fun x => cloneI.f n x.1) (regOK mixed (opOK (.of (c := cloneI.cfg n) trivial) (.of (c := cloneI.cfg n) trivial)) (tysOK tys_ok)) (tysOK tys_ok) Try.func55
    (fun x y hy hx => by
      have hy : cloneI.f n x.1 = some y := hy
      rw [hx] at hy
      unfold cloneI.f chk at hy
      split at hy
      · exact (cloneI.eq0 n).trans hy
      · simp at hy)
    (fun x y hy => (cloneI.eq1 n x.1).trans hy)

def l1Copy.las : List (Nat × LA) := []
noncomputable def l1Copy.f (n : Nat) (a0 : List Int) : Option ((List Int) × Unit) := chk ((([] : List Int).length + a0.length) * 8 ≤ maxB) (some ((([] : List Int) ++ a0), ()))
noncomputable def l1Copy.mng (n : Nat) : Mng := ⟨[.val IS], [.val IS], fun x => l1Copy.f n x.1⟩
noncomputable def l1Copy.cfg (n : Nat) : Cfg := ⟨tys, [], [], []⟩
theorem l1Copy.eq : ∀ (n : Nat) (a0 : List Int), runF (l1Copy.cfg n) n Try.f73 (annOf Try.f73 l1Copy.las) [.val IS] [.val IS] (a0, ()) = l1Copy.f n a0 := by
  intros
  kernel_rfl
theorem l1Copy.gof : GoF Try.prog 73 := ⟨_, Try.func73, by kernel_rfl, by kernel_rfl⟩
theorem l1Copy.sound (n : Nat) : Sound Try.prog 73 (l1Copy.mng n) := runF_sound (fn := Try.f73) (m := l1Copy.mng n) (c := l1Copy.cfg n) (regOK mixed (opOK (.of (c := l1Copy.cfg n) trivial) (.of (c := l1Copy.cfg n) trivial)) (tysOK tys_ok)) (tysOK tys_ok) Try.func73 (fun x => (l1Copy.eq n x.1).symm)

def l7Fire.las : List (Nat × LA) := [(4, ⟨[(8, .own 1000 I), (18, .int .i64)], [(1000, .row true I)], [2, 3, 16, 17], []⟩), (18, ⟨[(8, .own 1000 I), (48, .int .i64)], [(1000, .row true I)], [2, 46, 47], []⟩)]
noncomputable def l7Fire.f (n : Nat) (a0 : Graph) (a1 : List Int) (a2 : Int) : Option ((List Int) × (Bool × Unit)) := (l1Copy.f n a1).bind fun r1 => iter (α := (Int × (List Int) × Unit)) n (fun ih15 x14 => br (decide (x14.1 < (a0.2.length : Int))) (chk (0 ≤ x14.1 ∧ x14.1 < (a0.2.length : Int)) (let v16 := (a0.2.getD x14.1.toNat zEdge); br (decide (v16.2.1 = a2)) (chk (0 ≤ x14.1 ∧ x14.1 < (x14.2.1.length : Int)) (br (decide ((x14.2.1.getD x14.1.toNat 0) < v16.2.2.2.1)) (some ([], (false, ()))) (chk (0 ≤ x14.1 ∧ x14.1 < (x14.2.1.length : Int)) (chk (0 ≤ x14.1 ∧ x14.1 < (x14.2.1.length : Int)) (let v17 := (x14.2.1.set x14.1.toNat (w64 ((x14.2.1.getD x14.1.toNat 0) - v16.2.2.2.1))); ih15 ((w64 (x14.1 + 1)), (v17, ()))))))) (ih15 ((w64 (x14.1 + 1)), (x14.2.1, ()))))) (iter (α := (Int × (List Int) × Unit)) n (fun ih26 x25 => br (decide (x25.1 < (a0.2.length : Int))) (chk (0 ≤ x25.1 ∧ x25.1 < (a0.2.length : Int)) (let v27 := (a0.2.getD x25.1.toNat zEdge); br (decide (v27.1 = a2)) (chk (0 ≤ x25.1 ∧ x25.1 < (x25.2.1.length : Int)) (chk (0 ≤ x25.1 ∧ x25.1 < (x25.2.1.length : Int)) (let v28 := (x25.2.1.set x25.1.toNat (w64 ((x25.2.1.getD x25.1.toNat 0) + v27.2.2.1))); ih26 ((w64 (x25.1 + 1)), (v28, ()))))) (ih26 ((w64 (x25.1 + 1)), (x25.2.1, ()))))) (some (x25.2.1, (true, ())))) (0, (x14.2.1, ())))) (0, (r1.1, ()))
noncomputable def l7Fire.mng (n : Nat) : Mng := ⟨[.val tGraph, .val IS, .val I], [.val IS, .val .bool], fun x => l7Fire.f n x.1 x.2.1 x.2.2.1⟩
noncomputable def l7Fire.cfg (n : Nat) : Cfg := ⟨tys, [(73, l1Copy.mng n)], [], []⟩
theorem l7Fire.eq : ∀ (n : Nat) (a0 : Graph) (a1 : List Int) (a2 : Int), runF (l7Fire.cfg n) n Try.f57 (annOf Try.f57 l7Fire.las) [.val tGraph, .val IS, .val I] [.val IS, .val .bool] (a0, (a1, (a2, ()))) = l7Fire.f n a0 a1 a2 := by
  intros
  kernel_rfl
theorem l7Fire.gof : GoF Try.prog 57 := ⟨_, Try.func57, by kernel_rfl, by kernel_rfl⟩
theorem l7Fire.sound (n : Nat) : Sound Try.prog 57 (l7Fire.mng n) := runF_sound (fn := Try.f57) (m := l7Fire.mng n) (c := l7Fire.cfg n) (regOK mixed (opOK (.of (c := l7Fire.cfg n) ⟨⟨l1Copy.sound n, l1Copy.gof⟩, trivial⟩) (.of (c := l7Fire.cfg n) trivial)) (tysOK tys_ok)) (tysOK tys_ok) Try.func57 (fun x => (l7Fire.eq n x.1 x.2.1 x.2.2.1).symm)

def fire.las : List (Nat × LA) := [(1, ⟨[(18, .bool)], [], [1, 2, 3], [1]⟩), (6, ⟨[(22, .int .i64)], [], [1, 2, 3, 20, 21], [1]⟩), (17, ⟨[(1, .own 1 I), (44, .int .i64)], [(1, .row true I)], [2, 42, 43], []⟩), (23, ⟨[(1, .own 1 I)], [(1, .row true I)], [2, 9, 10, 42, 43, 44], []⟩)]
noncomputable def fire.f (n : Nat) (a0 : Graph) (a1 : List Int) (a2 : Int) : Option (Bool × (List Int) × Unit) := cut (α := (Bool × Unit)) (br (decide (a2 < 0)) (some (.inr (true, ()))) (some (.inr ((decide (a0.1 ≤ a2)), ())))) fun y1 => br y1.1 (some (false, (a1, ()))) (iter (α := (Int × Unit)) n (fun ih13 x12 => br (decide (x12.1 < (a0.2.length : Int))) (chk (0 ≤ x12.1 ∧ x12.1 < (a0.2.length : Int)) (let v14 := (a0.2.getD x12.1.toNat zEdge); br (decide (v14.2.1 = a2)) (chk (0 ≤ x12.1 ∧ x12.1 < (a1.length : Int)) (br (decide ((a1.getD x12.1.toNat 0) < v14.2.2.2.1)) (some (false, (a1, ()))) (ih13 ((w64 (x12.1 + 1)), ())))) (ih13 ((w64 (x12.1 + 1)), ())))) (iter (α := (Int × (List Int) × Unit)) n (fun ih26 x25 => br (decide (x25.1 < (a0.2.length : Int))) (chk (0 ≤ x25.1 ∧ x25.1 < (a0.2.length : Int)) (let v27 := (a0.2.getD x25.1.toNat zEdge); cut (α := ((List Int) × Unit)) (br (decide (v27.2.1 = a2)) (chk (0 ≤ x25.1 ∧ x25.1 < (x25.2.1.length : Int)) (chk (0 ≤ x25.1 ∧ x25.1 < (x25.2.1.length : Int)) (let v30 := (x25.2.1.set x25.1.toNat (w64 ((x25.2.1.getD x25.1.toNat 0) - v27.2.2.2.1))); some (.inr (v30, ()))))) (some (.inr (x25.2.1, ())))) fun y29 => br (decide (v27.1 = a2)) (chk (0 ≤ x25.1 ∧ x25.1 < (y29.1.length : Int)) (chk (0 ≤ x25.1 ∧ x25.1 < (y29.1.length : Int)) (let v31 := (y29.1.set x25.1.toNat (w64 ((y29.1.getD x25.1.toNat 0) + v27.2.2.1))); ih26 ((w64 (x25.1 + 1)), (v31, ()))))) (ih26 ((w64 (x25.1 + 1)), (y29.1, ()))))) (some (true, (x25.2.1, ())))) (0, (a1, ())))) (0, ()))
noncomputable def fire.mng (n : Nat) : Mng := ⟨[.val tGraph, .io IS, .val I], [.val .bool], fun x => fire.f n x.1 x.2.1 x.2.2.1⟩
noncomputable def fire.cfg (n : Nat) : Cfg := ⟨tys, [], [], []⟩
theorem fire.eq : ∀ (n : Nat) (a0 : Graph) (a1 : List Int) (a2 : Int), runF (fire.cfg n) n Try.f56 (annOf Try.f56 fire.las) [.val tGraph, .io IS, .val I] [.val .bool] (a0, (a1, (a2, ()))) = fire.f n a0 a1 a2 := by
  intros
  kernel_rfl
theorem fire.gof : GoF Try.prog 56 := ⟨_, Try.func56, by kernel_rfl, by kernel_rfl⟩
theorem fire.sound (n : Nat) : Sound Try.prog 56 (fire.mng n) := runF_sound (fn := Try.f56) (m := fire.mng n) (c := fire.cfg n) (regOK mixed (opOK (.of (c := fire.cfg n) trivial) (.of (c := fire.cfg n) trivial)) (tysOK tys_ok)) (tysOK tys_ok) Try.func56 (fun x => (fire.eq n x.1 x.2.1 x.2.2.1).symm)
end Go.AmT
