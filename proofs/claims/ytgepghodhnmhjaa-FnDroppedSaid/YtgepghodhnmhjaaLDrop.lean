/- Functions that the law FnDropped reaches, each as a plain Lean function, and that each does what that says. No condition. -/
import Derived.Test.YtgepghodhnmhjaaPFeed
namespace Go.AmT
open Go Go.Am Go.Proofs
set_option linter.unusedVariables false
set_option maxRecDepth 100000
def tys17 : List (Nat × TInfo) := [(3, ⟨false, 1, 8, [.int .i64 0], .int .i64, 0, some I, [], false⟩),
  (23, ⟨false, 1, 24, [.nil], .slice, 71, some (.sl tProgram), [], false⟩),
  (24, ⟨false, 1, 24, [.nil], .slice, 53, some (.sl tLink), [], false⟩),
  (26, ⟨true, 2, 48, [.nil, .nil], .struct, 0, some tNetwork, [(0, 23), (1, 24)], false⟩),
  (53, ⟨true, 5, 56, [.int .i64 0, .int .i64 0, .int .i64 0, .int .i64 0, .nil], .struct, 0, some tLink, [(0, 3), (1, 3), (2, 3), (3, 3), (4, 37)], false⟩),
  (71, ⟨true, 3, 40, [.int .i64 0, .int .i64 0, .nil], .struct, 0, some tProgram, [(0, 3), (1, 3), (2, 69)], false⟩),
  (152, ⟨false, 1, 24, [.nil], .slice, 23, some (.sl (.sl tProgram)), [], false⟩)]
theorem tys17_ok : (tys17.all fun p => tokB Try.prog p.1 p.2) = true := by kernel_rfl

def concatPG.las : List (Nat × LA) := []
def concatPG.la : LA := ⟨[(0, .con (.nil)), (1, .int .i64)], [], [], []⟩
def concatPG.lb : LA := ⟨[(0, .own 1000 tProgram)], [(1000, .row false tProgram)], [], []⟩
noncomputable def concatPG.f (n : Nat) (a0 : Int) : Option ((List Program) × Unit) := br (decide (a0 < 0)) (none) (br (decide (0 < (w64 (a0 - 0)))) (chk ((0 : Int) ≤ 0 ∧ (0 : Int) ≤ 0 ∧ 0 ≤ 0) (chk (0 < (w64 (a0 - 0)) ∧ (w64 (a0 - 0)) * (40 : Int) ≤ (maxB : Int)) (chk ((0 : Int) ≤ 0 ∧ (0 : Int) ≤ 0 ∧ 0 ≤ ((List.replicate (w64 (a0 - 0)).toNat ((0, (0, [])) : Program)).length : Int)) (some ([], ()))))) (some ([], ())))
noncomputable def concatPG.mng (n : Nat) : LMng := ⟨concatPG.la, concatPG.lb, fun x => concatPG.f n x.1⟩
noncomputable def concatPG.cfg (n : Nat) : Cfg := ⟨tys17, [], [], [41]⟩
theorem concatPG.eq : ∀ (n : Nat) (a0 : Int) (mp : Mp), LMng.run (concatPG.cfg n) n Try.f147 (annOf Try.f147 concatPG.las) concatPG.la concatPG.lb (a0, mp) = concatPG.f n a0 := by
  intros
  kernel_rfl
theorem concatPG.gof : GoF Try.prog 147 := ⟨_, Try.func147, by kernel_rfl, by kernel_rfl⟩
theorem concatPG.sound (n : Nat) : LSound Try.prog 147 (concatPG.mng n) := runL_sound (fn := Try.f147) (M := concatPG.mng n) (c := concatPG.cfg n) (regOK mixed (opOK (.of (c := concatPG.cfg n) trivial) (.of (c := concatPG.cfg n) trivial)) (tysOK tys17_ok)) (tysOK tys17_ok) Try.func147 (fun x => (concatPG.eq n x.1 x.2).symm)

def concatP.las : List (Nat × LA) := [(4, ⟨[(3, .int .i64), (11, .int .i64)], [], [0, 9, 10], [0]⟩), (17, ⟨[(6, .own 1000 tProgram), (27, .int .i64)], [(1000, .row false tProgram)], [25, 26], [0]⟩)]
def concatP.la : LA := ⟨[(0, .own 0 (.sl tProgram))], [(0, .row false (.sl tProgram))], [], []⟩
def concatP.lb : LA := ⟨[(0, .own 1000 tProgram)], [(1000, .row false tProgram)], [], []⟩
noncomputable def concatP.f (n : Nat) (a0 : List (List Program)) : Option ((List Program) × Unit) := iter (α := (Int × (Int × Unit))) n (fun ih8 x7 => br (decide (x7.2.1 < (a0.length : Int))) (chk (0 ≤ x7.2.1 ∧ x7.2.1 < (a0.length : Int)) (br (decide ((w64 (x7.1 + ((a0.getD x7.2.1.toNat []).length : Int))) < 0)) (none) (ih8 ((w64 (x7.1 + ((a0.getD x7.2.1.toNat []).length : Int))), ((w64 (x7.2.1 + 1)), ()))))) ((concatPG.f n x7.1).bind fun r9 => iter (α := (Int × (List Program) × Unit)) n (fun ih15 x14 => br (decide (x14.1 < (a0.length : Int))) (chk (0 ≤ x14.1 ∧ x14.1 < (a0.length : Int)) (chk ((x14.2.1.length + (a0.getD x14.1.toNat []).length) * 40 ≤ maxB) (ih15 ((w64 (x14.1 + 1)), ((x14.2.1 ++ (a0.getD x14.1.toNat [])), ()))))) (some (x14.2.1, ()))) (0, (r9.1, ())))) (0, (0, ()))
noncomputable def concatP.mng (n : Nat) : LMng := ⟨concatP.la, concatP.lb, fun x => concatP.f n x.1⟩
noncomputable def concatP.cfg (n : Nat) : Cfg := ⟨tys17, [], [(147, concatPG.mng n)], []⟩
theorem concatP.eq : ∀ (n : Nat) (a0 : List (List Program)) (mp : Mp), LMng.run (concatP.cfg n) n Try.f98 (annOf Try.f98 concatP.las) concatP.la concatP.lb (a0, mp) = concatP.f n a0 := by
  intros
  kernel_rfl
theorem concatP.gof : GoF Try.prog 98 := ⟨_, Try.func98, by kernel_rfl, by kernel_rfl⟩
theorem concatP.sound (n : Nat) : LSound Try.prog 98 (concatP.mng n) := runL_sound (fn := Try.f98) (M := concatP.mng n) (c := concatP.cfg n) (regOK mixed (opOK (.of (c := concatP.cfg n) trivial) (.of (c := concatP.cfg n) ⟨⟨concatPG.sound n, concatPG.gof⟩, trivial⟩)) (tysOK tys17_ok)) (tysOK tys17_ok) Try.func98 (fun x => (concatP.eq n x.1 x.2).symm)

def iBehind.las : List (Nat × LA) := []
noncomputable def iBehind.f (n : Nat) (a0 : Int) (a1 : Int) : Option (Int × Unit) := br (decide (a1 < a0)) (some ((w64 (a0 - 1)), ())) (some (a0, ()))
noncomputable def iBehind.mng (n : Nat) : Mng := ⟨[.val I, .val I], [.val I], fun x => iBehind.f n x.1 x.2.1⟩
noncomputable def iBehind.cfg (n : Nat) : Cfg := ⟨tys17, [], [], []⟩
theorem iBehind.eq : ∀ (n : Nat) (a0 : Int) (a1 : Int), runF (iBehind.cfg n) n Try.f99 (annOf Try.f99 iBehind.las) [.val I, .val I] [.val I] (a0, (a1, ())) = iBehind.f n a0 a1 := by
  intros
  kernel_rfl
theorem iBehind.gof : GoF Try.prog 99 := ⟨_, Try.func99, by kernel_rfl, by kernel_rfl⟩
theorem iBehind.sound (n : Nat) : Sound Try.prog 99 (iBehind.mng n) := runF_sound (fn := Try.f99) (m := iBehind.mng n) (c := iBehind.cfg n) (regOK mixed (opOK (.of (c := iBehind.cfg n) trivial) (.of (c := iBehind.cfg n) trivial)) (tysOK tys17_ok)) (tysOK tys17_ok) Try.func99 (fun x => (iBehind.eq n x.1 x.2.1).symm)

def iDropProcess.las : List (Nat × LA) := [(1, ⟨[(22, .bool)], [], [1, 2, 4], []⟩), (7, ⟨[(6, .vptr 1000 0), (39, .int .i64)], [(1000, .cells [] [.own 1001 tProgram, .own 1002 tLink]), (1001, .row false tProgram), (1002, .row false tLink)], [1, 4, 37, 38], []⟩), (12, ⟨[(68, .bool)], [], [1, 4, 6, 8, 37, 38, 39], []⟩), (15, ⟨[(8, .vptr 1000 0)], [(1000, .cells [] [.int .i64, .int .i64, .int .i64, .int .i64, .sh I])], [1, 4, 6, 37, 38, 39], []⟩)]
noncomputable def iDropProcess.f (n : Nat) (a0 : Network) (a1 : Int) : Option (Network × (Bool × Unit)) := cut (α := (Bool × Unit)) ((iIsNetwork.f n a0).bind fun r3 => br (!r3.1) (some (.inr (true, ()))) (br (decide (a1 < 0)) (some (.inr (true, ()))) (some (.inr ((decide ((a0.1.length : Int) ≤ a1)), ()))))) fun y2 => br y2.1 (some (([], []), (false, ()))) (chk ((0 : Int) ≤ 0 ∧ (0 : Int) ≤ a1 ∧ a1 ≤ (a0.1.length : Int)) (chk (0 ≤ (w64 (a1 + 1)) ∧ (w64 (a1 + 1)) ≤ (a0.1.length : Int) ∧ (a0.1.length : Int) ≤ (a0.1.length : Int)) ((concatP.f n ([((a0.1.take a1.toNat).drop 0), ((a0.1.take (a0.1.length : Int).toNat).drop (w64 (a1 + 1)).toNat)] : List (List Program))).bind fun r4 => iter (α := (Int × (List Program) × (List Link) × Unit)) n (fun ih26 x25 => br (decide (x25.1 < (a0.2.length : Int))) (chk (0 ≤ x25.1 ∧ x25.1 < (a0.2.length : Int)) (let v27 := (a0.2.getD x25.1.toNat zLink); cut (α := (Bool × Unit)) (br (decide (v27.1 = a1)) (br (decide (v27.2.2.1 = a1)) (some (.inr (true, ()))) (br (decide (v27.2.2.1 = (-1))) (some (.inr (true, ()))) (br (decide (v27.1 = (-1))) (some (.inr ((decide (v27.2.2.1 = a1)), ()))) (some (.inr (false, ())))))) (br (decide (v27.1 = (-1))) (some (.inr ((decide (v27.2.2.1 = a1)), ()))) (some (.inr (false, ()))))) fun y28 => br y28.1 (ih26 ((w64 (x25.1 + 1)), (x25.2.1, (x25.2.2.1, ())))) (cut (α := (Int × (Int × (Int × (Int × (List Int) × Unit))))) (br (decide (a1 = v27.1)) (some (.inr ((-1), (0, (v27.2.2.1, (v27.2.2.2.1, (v27.2.2.2.2, ()))))))) (br (decide (a1 = v27.2.2.1)) (some (.inr (v27.1, (v27.2.1, ((-1), (0, (v27.2.2.2.2, ()))))))) (some (.inr (v27.1, (v27.2.1, (v27.2.2.1, (v27.2.2.2.1, (v27.2.2.2.2, ()))))))))) fun y29 => (iBehind.f n y29.1 a1).bind fun r30 => (iBehind.f n y29.2.2.1 a1).bind fun r31 => chk ((x25.2.2.1.length + ([(r30.1, (y29.2.1, (r31.1, (y29.2.2.2.1, y29.2.2.2.2.1))))] : List Link).length) * 56 ≤ maxB) (ih26 ((w64 (x25.1 + 1)), (x25.2.1, ((x25.2.2.1 ++ [(r30.1, (y29.2.1, (r31.1, (y29.2.2.2.1, y29.2.2.2.2.1))))]), ()))))))) ((iCopyNetwork.f n (x25.2.1, x25.2.2.1)).bind fun r32 => some (r32.1, (true, ())))) (0, (r4.1, ([], ()))))))
noncomputable def iDropProcess.mng (n : Nat) : Mng := ⟨[.val tNetwork, .val I], [.val tNetwork, .val .bool], fun x => iDropProcess.f n x.1 x.2.1⟩
noncomputable def iDropProcess.cfg (n : Nat) : Cfg := ⟨tys17, [(57, iIsNetwork.mng n), (99, iBehind.mng n), (94, iCopyNetwork.mng n)], [(98, concatP.mng n)], []⟩
theorem iDropProcess.eq : ∀ (n : Nat) (a0 : Network) (a1 : Int), runF (iDropProcess.cfg n) n Try.f44 (annOf Try.f44 iDropProcess.las) [.val tNetwork, .val I] [.val tNetwork, .val .bool] (a0, (a1, ())) = iDropProcess.f n a0 a1 := by
  intros
  kernel_rfl
theorem iDropProcess.gof : GoF Try.prog 44 := ⟨_, Try.func44, by kernel_rfl, by kernel_rfl⟩
theorem iDropProcess.sound (n : Nat) : Sound Try.prog 44 (iDropProcess.mng n) := runF_sound (fn := Try.f44) (m := iDropProcess.mng n) (c := iDropProcess.cfg n) (regOK mixed (opOK (.of (c := iDropProcess.cfg n) ⟨⟨iIsNetwork.sound n, iIsNetwork.gof⟩, ⟨⟨iBehind.sound n, iBehind.gof⟩, ⟨⟨iCopyNetwork.sound n, iCopyNetwork.gof⟩, trivial⟩⟩⟩) (.of (c := iDropProcess.cfg n) ⟨⟨concatP.sound n, concatP.gof⟩, trivial⟩)) (tysOK tys17_ok)) (tysOK tys17_ok) Try.func44 (fun x => (iDropProcess.eq n x.1 x.2.1).symm)
end Go.AmT
