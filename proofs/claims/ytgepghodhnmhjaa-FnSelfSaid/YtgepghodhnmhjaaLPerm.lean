/- Functions that the law FnSelf reaches, each as a plain Lean function, and that each does what that says. No condition. -/
import Derived.Test.YtgepghodhnmhjaaPExp2
namespace Go.AmT
open Go Go.Am Go.Proofs
set_option linter.unusedVariables false
set_option maxRecDepth 100000
def tys17 : List (Nat × TInfo) := [(3, ⟨false, 1, 8, [.int .i64 0], .int .i64, 0, some I, [], false⟩),
  (23, ⟨false, 1, 24, [.nil], .slice, 71, some (.sl tProgram), [], false⟩),
  (24, ⟨false, 1, 24, [.nil], .slice, 53, some (.sl tLink), [], false⟩),
  (26, ⟨true, 2, 48, [.nil, .nil], .struct, 0, some tNetwork, [(0, 23), (1, 24)], false⟩),
  (37, ⟨false, 1, 24, [.nil], .slice, 3, some IS, [], false⟩),
  (53, ⟨true, 5, 56, [.int .i64 0, .int .i64 0, .int .i64 0, .int .i64 0, .nil], .struct, 0, some tLink, [(0, 3), (1, 3), (2, 3), (3, 3), (4, 37)], false⟩),
  (71, ⟨true, 3, 40, [.int .i64 0, .int .i64 0, .nil], .struct, 0, some tProgram, [(0, 3), (1, 3), (2, 69)], false⟩)]
theorem tys17_ok : (tys17.all fun p => tokB Try.prog p.1 p.2) = true := by kernel_rfl

def indexI.las : List (Nat × LA) := [(3, ⟨[(8, .int .i64)], [], [0, 1, 7], []⟩)]
noncomputable def indexI.f (n : Nat) (a0 : List Int) (a1 : Int) : Option (Int × Unit) := iter (α := (Int × Unit)) n (fun ih6 x5 => br (decide (x5.1 < (a0.length : Int))) (chk (0 ≤ x5.1 ∧ x5.1 < (a0.length : Int)) (br (decide (a1 = (a0.getD x5.1.toNat 0))) (some (x5.1, ())) (ih6 ((w64 (x5.1 + 1)), ())))) (some ((-1), ()))) (0, ())
noncomputable def indexI.mng (n : Nat) : Mng := ⟨[.val IS, .val I], [.val I], fun x => indexI.f n x.1 x.2.1⟩
noncomputable def indexI.cfg (n : Nat) : Cfg := ⟨tys17, [], [], []⟩
theorem indexI.eq : ∀ (n : Nat) (a0 : List Int) (a1 : Int), runF (indexI.cfg n) n Try.f113 (annOf Try.f113 indexI.las) [.val IS, .val I] [.val I] (a0, (a1, ())) = indexI.f n a0 a1 := by
  intros
  kernel_rfl
theorem indexI.gof : GoF Try.prog 113 := ⟨_, Try.func113, by kernel_rfl, by kernel_rfl⟩
theorem indexI.sound (n : Nat) : Sound Try.prog 113 (indexI.mng n) := runF_sound (fn := Try.f113) (m := indexI.mng n) (c := indexI.cfg n) (regOK mixed (opOK (.of (c := indexI.cfg n) trivial) (.of (c := indexI.cfg n) trivial)) (tysOK tys17_ok)) (tysOK tys17_ok) Try.func113 (fun x => (indexI.eq n x.1 x.2.1).symm)

def containsI.las : List (Nat × LA) := []
noncomputable def containsI.f (n : Nat) (a0 : List Int) (a1 : Int) : Option (Bool × Unit) := (indexI.f n a0 a1).bind fun r1 => some ((decide (0 ≤ r1.1)), ())
noncomputable def containsI.mng (n : Nat) : Mng := ⟨[.val IS, .val I], [.val .bool], fun x => containsI.f n x.1 x.2.1⟩
noncomputable def containsI.cfg (n : Nat) : Cfg := ⟨tys17, [(113, indexI.mng n)], [], []⟩
theorem containsI.eq : ∀ (n : Nat) (a0 : List Int) (a1 : Int), runF (containsI.cfg n) n Try.f111 (annOf Try.f111 containsI.las) [.val IS, .val I] [.val .bool] (a0, (a1, ())) = containsI.f n a0 a1 := by
  intros
  kernel_rfl
theorem containsI.gof : GoF Try.prog 111 := ⟨_, Try.func111, by kernel_rfl, by kernel_rfl⟩
theorem containsI.sound (n : Nat) : Sound Try.prog 111 (containsI.mng n) := runF_sound (fn := Try.f111) (m := containsI.mng n) (c := containsI.cfg n) (regOK mixed (opOK (.of (c := containsI.cfg n) ⟨⟨indexI.sound n, indexI.gof⟩, trivial⟩) (.of (c := containsI.cfg n) trivial)) (tysOK tys17_ok)) (tysOK tys17_ok) Try.func111 (fun x => (containsI.eq n x.1 x.2.1).symm)

def iPermute.las : List (Nat × LA) := [(1, ⟨[(22, .bool)], [], [1, 2, 4], []⟩), (7, ⟨[(29, .int .i64)], [], [1, 2, 4, 6, 28], []⟩), (18, ⟨[(6, .vptr 1000 0), (40, .int .i64)], [(1000, .cells [] [.own 1001 tProgram, .own 1002 tLink]), (1001, .row true tProgram), (1002, .row true tLink)], [1, 2, 4, 38, 39], []⟩), (27, ⟨[(6, .vptr 1000 0), (59, .int .i64)], [(1000, .cells [] [.own 1001 tProgram, .own 1002 tLink]), (1001, .row true tProgram), (1002, .row true tLink)], [1, 4, 58], []⟩), (34, ⟨[(6, .vptr 1000 0), (11, .rptr 1002 tLink 0)], [(1000, .cells [] [.own 1001 tProgram, .own 1002 tLink]), (1001, .row true tProgram), (1002, .row true tLink)], [1, 4, 58, 59], []⟩)]
noncomputable def iPermute.f (n : Nat) (a0 : Network) (a1 : List Int) : Option (Network × (Bool × Unit)) := cut (α := (Bool × Unit)) ((iIsNetwork.f n a0).bind fun r3 => br (!r3.1) (some (.inr (true, ()))) (some (.inr ((!decide ((a1.length : Int) = (a0.1.length : Int))), ())))) fun y2 => br y2.1 (some (([], []), (false, ()))) ((iCopyNetwork.f n a0).bind fun r4 => iter (α := (Int × Unit)) n (fun ih17 x16 => br (decide (x16.1 < (a0.1.length : Int))) ((containsI.f n a1 x16.1).bind fun r18 => br (!r18.1) (some (([], []), (false, ()))) (ih17 ((w64 (x16.1 + 1)), ()))) (iter (α := (Int × (List Program) × (List Link) × Unit)) n (fun ih36 x35 => br (decide (x35.1 < (a1.length : Int))) (chk (0 ≤ x35.1 ∧ x35.1 < (a1.length : Int)) (chk (0 ≤ (a1.getD x35.1.toNat 0) ∧ (a1.getD x35.1.toNat 0) < (a0.1.length : Int)) (let v37 := (a0.1.getD (a1.getD x35.1.toNat 0).toNat zProgram); (iCopyProgram.f n v37).bind fun r38 => chk (0 ≤ x35.1 ∧ x35.1 < (x35.2.1.length : Int)) (let v39 := (x35.2.1.set x35.1.toNat r38.1); ih36 ((w64 (x35.1 + 1)), (v39, (x35.2.2.1, ()))))))) (iter (α := (Int × (List Program) × (List Link) × Unit)) n (fun ih53 x52 => br (decide (x52.1 < (x35.2.2.1.length : Int))) (chk (0 ≤ x52.1 ∧ x52.1 < (x52.2.2.1.length : Int)) (cut (α := (Nat × (List Program) × (List Link) × Unit)) (br (decide (0 ≤ (x52.2.2.1.getD x52.1.toNat zLink).1)) ((indexI.f n a1 (x52.2.2.1.getD x52.1.toNat zLink).1).bind fun r57 => let v58 := (x52.2.2.1.set x52.1.toNat (r57.1, (x52.2.2.1.getD x52.1.toNat zLink).2)); some (.inr (x52.1.toNat, (x52.2.1, (v58, ()))))) (some (.inr (x52.1.toNat, (x52.2.1, (x52.2.2.1, ())))))) fun y56 => br (decide (0 ≤ (y56.2.2.1.getD y56.1 zLink).2.2.1)) ((indexI.f n a1 (y56.2.2.1.getD y56.1 zLink).2.2.1).bind fun r59 => let v60 := (y56.2.2.1.set y56.1 ((y56.2.2.1.getD y56.1 zLink).1, ((y56.2.2.1.getD y56.1 zLink).2.1, (r59.1, (y56.2.2.1.getD y56.1 zLink).2.2.2)))); ih53 ((w64 (x52.1 + 1)), (y56.2.1, (v60, ())))) (ih53 ((w64 (x52.1 + 1)), (y56.2.1, (y56.2.2.1, ())))))) (some ((x52.2.1, x52.2.2.1), (true, ())))) (0, (x35.2.1, (x35.2.2.1, ()))))) (0, (r4.1.1, (r4.1.2, ()))))) (0, ()))
noncomputable def iPermute.mng (n : Nat) : Mng := ⟨[.val tNetwork, .val IS], [.val tNetwork, .val .bool], fun x => iPermute.f n x.1 x.2.1⟩
noncomputable def iPermute.cfg (n : Nat) : Cfg := ⟨tys17, [(57, iIsNetwork.mng n), (94, iCopyNetwork.mng n), (111, containsI.mng n), (112, iCopyProgram.mng n), (113, indexI.mng n)], [], []⟩
theorem iPermute.eq : ∀ (n : Nat) (a0 : Network) (a1 : List Int), runF (iPermute.cfg n) n Try.f50 (annOf Try.f50 iPermute.las) [.val tNetwork, .val IS] [.val tNetwork, .val .bool] (a0, (a1, ())) = iPermute.f n a0 a1 := by
  intros
  kernel_rfl
theorem iPermute.gof : GoF Try.prog 50 := ⟨_, Try.func50, by kernel_rfl, by kernel_rfl⟩
theorem iPermute.sound (n : Nat) : Sound Try.prog 50 (iPermute.mng n) := runF_sound (fn := Try.f50) (m := iPermute.mng n) (c := iPermute.cfg n) (regOK mixed (opOK (.of (c := iPermute.cfg n) ⟨⟨iIsNetwork.sound n, iIsNetwork.gof⟩, ⟨⟨iCopyNetwork.sound n, iCopyNetwork.gof⟩, ⟨⟨containsI.sound n, containsI.gof⟩, ⟨⟨iCopyProgram.sound n, iCopyProgram.gof⟩, ⟨⟨indexI.sound n, indexI.gof⟩, trivial⟩⟩⟩⟩⟩) (.of (c := iPermute.cfg n) trivial)) (tysOK tys17_ok)) (tysOK tys17_ok) Try.func50 (fun x => (iPermute.eq n x.1 x.2.1).symm)
end Go.AmT
