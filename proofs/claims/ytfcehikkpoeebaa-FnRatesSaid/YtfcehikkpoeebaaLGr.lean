/- Functions that the law FnRates reaches, each as a plain Lean function, and that each does what that says. No condition. -/
import Derived.Test.YtfcehikkpoeebaaPCopy
namespace Go.AmT
open Go Go.Am Go.Proofs
set_option linter.unusedVariables false
set_option maxRecDepth 100000
abbrev tEdge : Ty := (.pair I tInstr)
abbrev tGraph : Ty := (.pair I (.sl tEdge))
abbrev Edge : Type := Int × Instr
def zEdge : Edge := (0, (0, (0, (0, 0))))
abbrev Graph : Type := Int × List Edge
def tys10 : List (Nat × TInfo) := [(3, ⟨false, 1, 8, [.int .i64 0], .int .i64, 0, some I, [], false⟩),
  (23, ⟨false, 1, 24, [.nil], .slice, 38, some (.sl tEdge), [], false⟩),
  (25, ⟨true, 2, 32, [.int .i64 0, .nil], .struct, 0, some tGraph, [(0, 3), (1, 23)], false⟩),
  (38, ⟨true, 5, 40, [.int .i64 0, .int .i64 0, .int .i64 0, .int .i64 0, .int .i64 0], .struct, 0, some tEdge, [(0, 3), (1, 3), (2, 3), (3, 3), (4, 3)], false⟩)]
theorem tys10_ok : (tys10.all fun p => tokB Try.prog p.1 p.2) = true := by kernel_rfl

def sIsGraph.las : List (Nat × LA) := [(1, ⟨[(14, .bool)], [], [1], []⟩), (6, ⟨[(18, .int .i64)], [], [1, 16, 17], []⟩)]
noncomputable def sIsGraph.f (n : Nat) (a0 : Graph) : Option (Bool × Unit) := cut (α := (Bool × Unit)) ((sL1In.f n a0.1 0 8).bind fun r3 => br (!r3.1) (some (.inr (true, ()))) (some (.inr ((decide (16 < (a0.2.length : Int))), ())))) fun y2 => br y2.1 (some (false, ())) (iter (α := (Int × Unit)) n (fun ih15 x14 => br (decide (x14.1 < (a0.2.length : Int))) (chk (0 ≤ x14.1 ∧ x14.1 < (a0.2.length : Int)) (let v16 := (a0.2.getD x14.1.toNat zEdge); (sL1In.f n v16.1 0 (w64 (a0.1 - 1))).bind fun r17 => br (!r17.1) (some (false, ())) ((sL1In.f n v16.2.1 0 (w64 (a0.1 - 1))).bind fun r18 => br (!r18.1) (some (false, ())) ((sL1In.f n v16.2.2.1 1 5).bind fun r19 => br (!r19.1) (some (false, ())) ((sL1In.f n v16.2.2.2.1 1 5).bind fun r20 => br (!r20.1) (some (false, ())) ((sL1In.f n v16.2.2.2.2 0 50).bind fun r21 => br (!r21.1) (some (false, ())) (ih15 ((w64 (x14.1 + 1)), ())))))))) (some (true, ()))) (0, ()))
noncomputable def sIsGraph.mng (n : Nat) : Mng := ⟨[.val tGraph], [.val .bool], fun x => sIsGraph.f n x.1⟩
noncomputable def sIsGraph.cfg (n : Nat) : Cfg := ⟨tys10, [(42, sL1In.mng n)], [], []⟩
theorem sIsGraph.eq : ∀ (n : Nat) (a0 : Graph), runF (sIsGraph.cfg n) n Try.f22 (annOf Try.f22 sIsGraph.las) [.val tGraph] [.val .bool] (a0, ()) = sIsGraph.f n a0 := by
  intros
  kernel_rfl
theorem sIsGraph.gof : GoF Try.prog 22 := ⟨_, Try.func22, by kernel_rfl, by kernel_rfl⟩
theorem sIsGraph.sound (n : Nat) : Sound Try.prog 22 (sIsGraph.mng n) := runF_sound (fn := Try.f22) (m := sIsGraph.mng n) (c := sIsGraph.cfg n) (regOK mixed (opOK (.of (c := sIsGraph.cfg n) ⟨⟨sL1In.sound n, sL1In.gof⟩, trivial⟩) (.of (c := sIsGraph.cfg n) trivial)) (tysOK tys10_ok)) (tysOK tys10_ok) Try.func22 (fun x => (sIsGraph.eq n x.1).symm)

def isGraphC.las : List (Nat × LA) := []
noncomputable def isGraphC.f (n : Nat) (a0 : Edge) (a1 : Graph) : Option (Bool × Unit) := br (decide (a0.1 < 0)) (some (true, ())) (br (decide (a1.1 ≤ a0.1)) (some (true, ())) (br (decide (a0.2.1 < 0)) (some (true, ())) (br (decide (a1.1 ≤ a0.2.1)) (some (true, ())) (br (decide (a0.2.2.1 < 1)) (some (true, ())) (br (decide (5 < a0.2.2.1)) (some (true, ())) (br (decide (a0.2.2.2.1 < 1)) (some (true, ())) (br (decide (5 < a0.2.2.2.1)) (some (true, ())) (br (decide (a0.2.2.2.2 < 0)) (some (true, ())) (some ((decide (50 < a0.2.2.2.2)), ()))))))))))
noncomputable def isGraphC.mng (n : Nat) : Mng := ⟨[.val tEdge, .psh tGraph], [.val .bool], fun x => isGraphC.f n x.1 x.2.1⟩
noncomputable def isGraphC.cfg (n : Nat) : Cfg := ⟨tys10, [], [], []⟩
theorem isGraphC.eq : ∀ (n : Nat) (a0 : Edge) (a1 : Graph), runF (isGraphC.cfg n) n Try.f50 (annOf Try.f50 isGraphC.las) [.val tEdge, .psh tGraph] [.val .bool] (a0, (a1, ())) = isGraphC.f n a0 a1 := by
  intros
  kernel_rfl
theorem isGraphC.gof : GoF Try.prog 50 := ⟨_, Try.func50, by kernel_rfl, by kernel_rfl⟩
theorem isGraphC.sound (n : Nat) : Sound Try.prog 50 (isGraphC.mng n) := runF_sound (fn := Try.f50) (m := isGraphC.mng n) (c := isGraphC.cfg n) (regOK mixed (opOK (.of (c := isGraphC.cfg n) trivial) (.of (c := isGraphC.cfg n) trivial)) (tysOK tys10_ok)) (tysOK tys10_ok) Try.func50 (fun x => (isGraphC.eq n x.1 x.2.1).symm)

def indexFuncE.las : List (Nat × LA) := [(3, ⟨[(8, .int .i64)], [], [0, 1, 7], []⟩)]
noncomputable def indexFuncE.f (n : Nat) (a0 : List Edge) (a1 : (Graph × Unit)) : Option (Int × Unit) := iter (α := (Int × Unit)) n (fun ih7 x6 => br (decide (x6.1 < (a0.length : Int))) (chk (0 ≤ x6.1 ∧ x6.1 < (a0.length : Int)) (let v8 := (a0.getD x6.1.toNat zEdge); (isGraphC.f n v8 a1.1).bind fun r9 => br r9.1 (some (x6.1, ())) (ih7 ((w64 (x6.1 + 1)), ())))) (some ((-1), ()))) (0, ())
noncomputable def indexFuncE.mng (n : Nat) : Mng := ⟨[.val (.sl tEdge), .fnc 50 [.psh tGraph]], [.val I], fun x => indexFuncE.f n x.1 x.2.1⟩
noncomputable def indexFuncE.cfg (n : Nat) : Cfg := ⟨tys10, [(50, isGraphC.mng n)], [], []⟩
theorem indexFuncE.eq : ∀ (n : Nat) (a0 : List Edge) (a1 : (Graph × Unit)), runF (indexFuncE.cfg n) n Try.f68 (annOf Try.f68 indexFuncE.las) [.val (.sl tEdge), .fnc 50 [.psh tGraph]] [.val I] (a0, (a1, ())) = indexFuncE.f n a0 a1 := by
  intros
  kernel_rfl
theorem indexFuncE.gof : GoF Try.prog 68 := ⟨_, Try.func68, by kernel_rfl, by kernel_rfl⟩
theorem indexFuncE.sound (n : Nat) : Sound Try.prog 68 (indexFuncE.mng n) := runF_sound (fn := Try.f68) (m := indexFuncE.mng n) (c := indexFuncE.cfg n) (regOK mixed (opOK (.of (c := indexFuncE.cfg n) ⟨⟨isGraphC.sound n, isGraphC.gof⟩, trivial⟩) (.of (c := indexFuncE.cfg n) trivial)) (tysOK tys10_ok)) (tysOK tys10_ok) Try.func68 (fun x => (indexFuncE.eq n x.1 x.2.1).symm)

def containsFuncE.las : List (Nat × LA) := []
noncomputable def containsFuncE.f (n : Nat) (a0 : List Edge) (a1 : (Graph × Unit)) : Option (Bool × Unit) := (indexFuncE.f n a0 (a1.1, ())).bind fun r1 => some ((decide (0 ≤ r1.1)), ())
noncomputable def containsFuncE.mng (n : Nat) : Mng := ⟨[.val (.sl tEdge), .fnc 50 [.psh tGraph]], [.val .bool], fun x => containsFuncE.f n x.1 x.2.1⟩
noncomputable def containsFuncE.cfg (n : Nat) : Cfg := ⟨tys10, [(68, indexFuncE.mng n)], [], []⟩
theorem containsFuncE.eq : ∀ (n : Nat) (a0 : List Edge) (a1 : (Graph × Unit)), runF (containsFuncE.cfg n) n Try.f49 (annOf Try.f49 containsFuncE.las) [.val (.sl tEdge), .fnc 50 [.psh tGraph]] [.val .bool] (a0, (a1, ())) = containsFuncE.f n a0 a1 := by
  intros
  kernel_rfl
theorem containsFuncE.gof : GoF Try.prog 49 := ⟨_, Try.func49, by kernel_rfl, by kernel_rfl⟩
theorem containsFuncE.sound (n : Nat) : Sound Try.prog 49 (containsFuncE.mng n) := runF_sound (fn := Try.f49) (m := containsFuncE.mng n) (c := containsFuncE.cfg n) (regOK mixed (opOK (.of (c := containsFuncE.cfg n) ⟨⟨indexFuncE.sound n, indexFuncE.gof⟩, trivial⟩) (.of (c := containsFuncE.cfg n) trivial)) (tysOK tys10_ok)) (tysOK tys10_ok) Try.func49 (fun x => (containsFuncE.eq n x.1 x.2.1).symm)

def iIsGraph.las : List (Nat × LA) := [(1, ⟨[(16, .bool)], [], [1], []⟩)]
noncomputable def iIsGraph.f (n : Nat) (a0 : Graph) : Option (Bool × Unit) := cut (α := (Bool × Unit)) (br (decide (a0.1 < 0)) (some (.inr (true, ()))) (br (decide (8 < a0.1)) (some (.inr (true, ()))) (some (.inr ((decide (16 < (a0.2.length : Int))), ()))))) fun y1 => br y1.1 (some (false, ())) ((containsFuncE.f n a0.2 (a0, ())).bind fun r2 => some ((!r2.1), ()))
noncomputable def iIsGraph.mng (n : Nat) : Mng := ⟨[.val tGraph], [.val .bool], fun x => iIsGraph.f n x.1⟩
noncomputable def iIsGraph.cfg (n : Nat) : Cfg := ⟨tys10, [(49, containsFuncE.mng n)], [], []⟩
theorem iIsGraph.eq : ∀ (n : Nat) (a0 : Graph), runF (iIsGraph.cfg n) n Try.f18 (annOf Try.f18 iIsGraph.las) [.val tGraph] [.val .bool] (a0, ()) = iIsGraph.f n a0 := by
  intros
  kernel_rfl
theorem iIsGraph.gof : GoF Try.prog 18 := ⟨_, Try.func18, by kernel_rfl, by kernel_rfl⟩
theorem iIsGraph.sound (n : Nat) : Sound Try.prog 18 (iIsGraph.mng n) := runF_sound (fn := Try.f18) (m := iIsGraph.mng n) (c := iIsGraph.cfg n) (regOK mixed (opOK (.of (c := iIsGraph.cfg n) ⟨⟨containsFuncE.sound n, containsFuncE.gof⟩, trivial⟩) (.of (c := iIsGraph.cfg n) trivial)) (tysOK tys10_ok)) (tysOK tys10_ok) Try.func18 (fun x => (iIsGraph.eq n x.1).symm)
end Go.AmT
