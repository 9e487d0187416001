/- Functions that the law FnDropped reaches, each as a plain Lean function, and that each does what that says. No condition. -/
import Derived.Test.YtgepghodhnmhjaaPCopy
namespace Go.AmT
open Go Go.Am Go.Proofs
set_option linter.unusedVariables false
set_option maxRecDepth 100000
def tys16 : List (Nat × TInfo) := [(3, ⟨false, 1, 8, [.int .i64 0], .int .i64, 0, some I, [], false⟩),
  (23, ⟨false, 1, 24, [.nil], .slice, 71, some (.sl tProgram), [], false⟩),
  (24, ⟨false, 1, 24, [.nil], .slice, 53, some (.sl tLink), [], false⟩),
  (26, ⟨true, 2, 48, [.nil, .nil], .struct, 0, some tNetwork, [(0, 23), (1, 24)], false⟩),
  (31, ⟨false, 1, 24, [.nil], .slice, 37, some (.sl IS), [], false⟩),
  (37, ⟨false, 1, 24, [.nil], .slice, 3, some IS, [], false⟩),
  (53, ⟨true, 5, 56, [.int .i64 0, .int .i64 0, .int .i64 0, .int .i64 0, .nil], .struct, 0, some tLink, [(0, 3), (1, 3), (2, 3), (3, 3), (4, 37)], false⟩)]
theorem tys16_ok : (tys16.all fun p => tokB Try.prog p.1 p.2) = true := by kernel_rfl

def concatIG.las : List (Nat × LA) := []
def concatIG.la : LA := ⟨[(0, .con (.nil)), (1, .int .i64)], [], [], []⟩
def concatIG.lb : LA := ⟨[(0, .own 1000 I)], [(1000, .row true I)], [], []⟩
noncomputable def concatIG.f (n : Nat) (a0 : Int) : Option ((List Int) × Unit) := br (decide (a0 < 0)) (none) (br (decide (0 < (w64 (a0 - 0)))) (chk ((0 : Int) ≤ 0 ∧ (0 : Int) ≤ 0 ∧ 0 ≤ 0) (chk (0 < (w64 (a0 - 0)) ∧ (w64 (a0 - 0)) * (8 : Int) ≤ (maxB : Int)) (chk ((0 : Int) ≤ 0 ∧ (0 : Int) ≤ 0 ∧ 0 ≤ ((List.replicate (w64 (a0 - 0)).toNat (0 : Int)).length : Int)) (some ([], ()))))) (some ([], ())))
noncomputable def concatIG.mng (n : Nat) : LMng := ⟨concatIG.la, concatIG.lb, fun x => concatIG.f n x.1⟩
noncomputable def concatIG.cfg (n : Nat) : Cfg := ⟨tys16, [], [], [1000041]⟩
theorem concatIG.eq : ∀ (n : Nat) (a0 : Int) (mp : Mp), LMng.run (concatIG.cfg n) n Try.f149 (annOf Try.f149 concatIG.las) concatIG.la concatIG.lb (a0, mp) = concatIG.f n a0 := by
  intros
  kernel_rfl
theorem concatIG.gof : GoF Try.prog 149 := ⟨_, Try.func149, by kernel_rfl, by kernel_rfl⟩
theorem concatIG.sound (n : Nat) : LSound Try.prog 149 (concatIG.mng n) := runL_sound (fn := Try.f149) (M := concatIG.mng n) (c := concatIG.cfg n) (regOK mixed (opOK (.of (c := concatIG.cfg n) trivial) (.of (c := concatIG.cfg n) trivial)) (tysOK tys16_ok)) (tysOK tys16_ok) Try.func149 (fun x => (concatIG.eq n x.1 x.2).symm)

def concatI.las : List (Nat × LA) := [(4, ⟨[(3, .int .i64), (11, .int .i64)], [], [0, 9, 10], []⟩), (17, ⟨[(6, .own 1000 I), (27, .int .i64)], [(1000, .row true I)], [25, 26], []⟩)]
noncomputable def concatI.f (n : Nat) (a0 : List (List Int)) : Option ((List Int) × Unit) := iter (α := (Int × (Int × Unit))) n (fun ih10 x9 => br (decide (x9.2.1 < (a0.length : Int))) (chk (0 ≤ x9.2.1 ∧ x9.2.1 < (a0.length : Int)) (let v11 := (a0.getD x9.2.1.toNat []); br (decide ((w64 (x9.1 + (v11.length : Int))) < 0)) (none) (ih10 ((w64 (x9.1 + (v11.length : Int))), ((w64 (x9.2.1 + 1)), ()))))) ((concatIG.f n x9.1).bind fun r12 => iter (α := (Int × (List Int) × Unit)) n (fun ih18 x17 => br (decide (x17.1 < (a0.length : Int))) (chk (0 ≤ x17.1 ∧ x17.1 < (a0.length : Int)) (chk ((x17.2.1.length + (a0.getD x17.1.toNat []).length) * 8 ≤ maxB) (ih18 ((w64 (x17.1 + 1)), ((x17.2.1 ++ (a0.getD x17.1.toNat [])), ()))))) (some (x17.2.1, ()))) (0, (r12.1, ())))) (0, (0, ()))
noncomputable def concatI.mng (n : Nat) : Mng := ⟨[.val (.sl IS)], [.val IS], fun x => concatI.f n x.1⟩
noncomputable def concatI.cfg (n : Nat) : Cfg := ⟨tys16, [], [(149, concatIG.mng n)], []⟩
theorem concatI.eq : ∀ (n : Nat) (a0 : List (List Int)), runF (concatI.cfg n) n Try.f104 (annOf Try.f104 concatI.las) [.val (.sl IS)] [.val IS] (a0, ()) = concatI.f n a0 := by
  intros
  kernel_rfl
theorem concatI.gof : GoF Try.prog 104 := ⟨_, Try.func104, by kernel_rfl, by kernel_rfl⟩
theorem concatI.sound (n : Nat) : Sound Try.prog 104 (concatI.mng n) := runF_sound (fn := Try.f104) (m := concatI.mng n) (c := concatI.cfg n) (regOK mixed (opOK (.of (c := concatI.cfg n) trivial) (.of (c := concatI.cfg n) ⟨⟨concatIG.sound n, concatIG.gof⟩, trivial⟩)) (tysOK tys16_ok)) (tysOK tys16_ok) Try.func104 (fun x => (concatI.eq n x.1).symm)

def iFeed.las : List (Nat × LA) := [(1, ⟨[(22, .bool)], [], [1, 2, 3, 6], []⟩)]
noncomputable def iFeed.f (n : Nat) (a0 : Network) (a1 : Int) (a2 : List Int) : Option (Network × (Bool × Unit)) := cut (α := (Bool × Unit)) ((iIsNetwork.f n a0).bind fun r3 => br (!r3.1) (some (.inr (true, ()))) (br (decide (a1 < 0)) (some (.inr (true, ()))) (some (.inr ((decide ((a0.2.length : Int) ≤ a1)), ()))))) fun y2 => br y2.1 (some (([], []), (false, ()))) ((iCopyNetwork.f n a0).bind fun r4 => chk (0 ≤ a1 ∧ a1 < (r4.1.2.length : Int)) ((concatI.f n ([(r4.1.2.getD a1.toNat zLink).2.2.2.2, a2] : List (List Int))).bind fun r5 => chk (0 ≤ a1 ∧ a1 < (r4.1.2.length : Int)) (let v6 := (r4.1.2.set a1.toNat ((r4.1.2.getD a1.toNat zLink).1, ((r4.1.2.getD a1.toNat zLink).2.1, ((r4.1.2.getD a1.toNat zLink).2.2.1, ((r4.1.2.getD a1.toNat zLink).2.2.2.1, r5.1))))); (iChecked.f n (r4.1.1, v6)).bind fun r7 => some (r7.1, (r7.2.1, ())))))
noncomputable def iFeed.mng (n : Nat) : Mng := ⟨[.val tNetwork, .val I, .val IS], [.val tNetwork, .val .bool], fun x => iFeed.f n x.1 x.2.1 x.2.2.1⟩
noncomputable def iFeed.cfg (n : Nat) : Cfg := ⟨tys16, [(57, iIsNetwork.mng n), (94, iCopyNetwork.mng n), (104, concatI.mng n), (95, iChecked.mng n)], [], []⟩
theorem iFeed.eq : ∀ (n : Nat) (a0 : Network) (a1 : Int) (a2 : List Int), runF (iFeed.cfg n) n Try.f46 (annOf Try.f46 iFeed.las) [.val tNetwork, .val I, .val IS] [.val tNetwork, .val .bool] (a0, (a1, (a2, ()))) = iFeed.f n a0 a1 a2 := by
  intros
  kernel_rfl
theorem iFeed.gof : GoF Try.prog 46 := ⟨_, Try.func46, by kernel_rfl, by kernel_rfl⟩
theorem iFeed.sound (n : Nat) : Sound Try.prog 46 (iFeed.mng n) := runF_sound (fn := Try.f46) (m := iFeed.mng n) (c := iFeed.cfg n) (regOK mixed (opOK (.of (c := iFeed.cfg n) ⟨⟨iIsNetwork.sound n, iIsNetwork.gof⟩, ⟨⟨iCopyNetwork.sound n, iCopyNetwork.gof⟩, ⟨⟨concatI.sound n, concatI.gof⟩, ⟨⟨iChecked.sound n, iChecked.gof⟩, trivial⟩⟩⟩⟩) (.of (c := iFeed.cfg n) trivial)) (tysOK tys16_ok)) (tysOK tys16_ok) Try.func46 (fun x => (iFeed.eq n x.1 x.2.1 x.2.2.1).symm)
end Go.AmT
