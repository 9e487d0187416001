/- Functions that the law FnAcyclic reaches, each as a plain Lean function, and that each does what that says. No condition. -/
import Derived.Test.YtfcehikkpoeebaaGreatPLeast
namespace Go.AmT
open Go Go.Am Go.Proofs
set_option linter.unusedVariables false
set_option maxRecDepth 100000
def tys16 : List (Nat × TInfo) := [(3, ⟨false, 1, 8, [.int .i64 0], .int .i64, 0, some I, [], false⟩),
  (23, ⟨false, 1, 24, [.nil], .slice, 35, some (.sl tProgram), [], false⟩),
  (24, ⟨false, 1, 24, [.nil], .slice, 59, some (.sl tLink), [], false⟩),
  (26, ⟨true, 2, 48, [.nil, .nil], .struct, 0, some tNetwork, [(0, 23), (1, 24)], false⟩),
  (33, ⟨false, 1, 24, [.nil], .slice, 98, some (.sl tInstr), [], false⟩),
  (35, ⟨true, 3, 40, [.int .i64 0, .int .i64 0, .nil], .struct, 0, some tProgram, [(0, 3), (1, 3), (2, 33)], false⟩),
  (40, ⟨false, 1, 24, [.nil], .slice, 3, some IS, [], false⟩),
  (59, ⟨true, 5, 56, [.int .i64 0, .int .i64 0, .int .i64 0, .int .i64 0, .nil], .struct, 0, some tLink, [(0, 3), (1, 3), (2, 3), (3, 3), (4, 40)], false⟩),
  (98, ⟨true, 4, 32, [.int .i64 0, .int .i64 0, .int .i64 0, .int .i64 0], .struct, 0, some tInstr, [(0, 3), (1, 3), (2, 3), (3, 3)], false⟩)]
theorem tys16_ok : (tys16.all fun p => tokB Tryz.prog p.1 p.2) = true := by kernel_rfl

noncomputable def cloneIn.f (n : Nat) (a0 : List Instr) : Option ((List Instr) × Unit) := chk ((([] : List Instr).length + a0.length) * 32 ≤ maxB) (some ((([] : List Instr) ++ a0), ()))
noncomputable def cloneIn.mng (n : Nat) : Mng := ⟨[.val (.sl tInstr)], [.val (.sl tInstr)], fun x => cloneIn.f n x.1⟩
noncomputable def cloneIn.cfg (n : Nat) : Cfg := ⟨tys16, [], [], []⟩
theorem cloneIn.gof : GoF Tryz.prog 109 := ⟨_, Tryz.func109, by kernel_rfl, by kernel_rfl⟩
theorem cloneIn.eq0 : ∀ (n : Nat), runNil (cloneIn.cfg n) n Tryz.f109 (annOf Tryz.f109 []) [.val (.sl tInstr)] [.val (.sl tInstr)] .nil [] [] = some (([] : List Instr), ()) := by
  intros
  kernel_rfl
theorem cloneIn.eq1 : ∀ (n : Nat) (a0 : List Instr), runNil (cloneIn.cfg n) n Tryz.f109 (annOf Tryz.f109 []) [.val (.sl tInstr)] [.val (.sl tInstr)] (.osh tInstr (some a0)) [] [] = cloneIn.f n a0 := by
  intros
  kernel_rfl
theorem cloneIn.sound (n : Nat) : Sound Tryz.prog 109 (cloneIn.mng n) :=
  runNil_sound (t := tInstr) (ps := []) (rs := [.val (.sl tInstr)]) (F := fun x => cloneIn.f n x.1) (regOK mixed (opOK (.of (c := cloneIn.cfg n) trivial) (.of (c := cloneIn.cfg n) trivial)) (tysOK tys16_ok)) (tysOK tys16_ok) Tryz.func109
    (fun x y hy hx => by
      have hy : cloneIn.f n x.1 = some y := hy
      rw [hx] at hy
      unfold cloneIn.f chk at hy
      split at hy
      · exact (cloneIn.eq0 n).trans hy
      · simp at hy)
    (fun x y hy => (cloneIn.eq1 n x.1).trans hy)

def iCopyProgram.las : List (Nat × LA) := []
noncomputable def iCopyProgram.f (n : Nat) (a0 : Program) : Option (Program × Unit) := (cloneIn.f n a0.2.2).bind fun r1 => some ((a0.1, (a0.2.1, r1.1)), ())
noncomputable def iCopyProgram.mng (n : Nat) : Mng := ⟨[.val tProgram], [.val tProgram], fun x => iCopyProgram.f n x.1⟩
noncomputable def iCopyProgram.cfg (n : Nat) : Cfg := ⟨tys16, [(109, cloneIn.mng n)], [], []⟩
theorem iCopyProgram.eq : ∀ (n : Nat) (a0 : Program), runF (iCopyProgram.cfg n) n Tryz.f86 (annOf Tryz.f86 iCopyProgram.las) [.val tProgram] [.val tProgram] (a0, ()) = iCopyProgram.f n a0 := by
  intros
  kernel_rfl
theorem iCopyProgram.gof : GoF Tryz.prog 86 := ⟨_, Tryz.func86, by kernel_rfl, by kernel_rfl⟩
theorem iCopyProgram.sound (n : Nat) : Sound Tryz.prog 86 (iCopyProgram.mng n) := runF_sound (fn := Tryz.f86) (m := iCopyProgram.mng n) (c := iCopyProgram.cfg n) (regOK mixed (opOK (.of (c := iCopyProgram.cfg n) ⟨⟨cloneIn.sound n, cloneIn.gof⟩, trivial⟩) (.of (c := iCopyProgram.cfg n) trivial)) (tysOK tys16_ok)) (tysOK tys16_ok) Tryz.func86 (fun x => (iCopyProgram.eq n x.1).symm)

def iCopyNetwork.las : List (Nat × LA) := [(4, ⟨[(3, .vptr 1000 0), (12, .int .i64)], [(1000, .cells [] [.own 1001 tProgram, .con (.nil)]), (1001, .row true tProgram)], [1, 2, 10, 11], []⟩), (13, ⟨[(3, .vptr 1000 0), (27, .int .i64)], [(1000, .cells [] [.own 1001 tProgram, .own 1002 tLink]), (1001, .row true tProgram), (1002, .row true tLink)], [2, 25, 26], []⟩)]
noncomputable def iCopyNetwork.f (n : Nat) (a0 : Network) : Option (Network × Unit) := iter (α := (Int × (List Program) × Unit)) n (fun ih21 x20 => br (decide (x20.1 < (a0.1.length : Int))) (chk (0 ≤ x20.1 ∧ x20.1 < (a0.1.length : Int)) (let v22 := (a0.1.getD x20.1.toNat zProgram); (iCopyProgram.f n v22).bind fun r23 => chk ((x20.2.1.length + ([r23.1] : List Program).length) * 40 ≤ maxB) (ih21 ((w64 (x20.1 + 1)), ((x20.2.1 ++ [r23.1]), ()))))) (iter (α := (Int × (List Program) × (List Link) × Unit)) n (fun ih38 x37 => br (decide (x37.1 < (a0.2.length : Int))) (chk (0 ≤ x37.1 ∧ x37.1 < (a0.2.length : Int)) (let v39 := (a0.2.getD x37.1.toNat zLink); (cloneI.f n v39.2.2.2.2).bind fun r40 => chk ((x37.2.2.1.length + ([(v39.1, (v39.2.1, (v39.2.2.1, (v39.2.2.2.1, r40.1))))] : List Link).length) * 56 ≤ maxB) (ih38 ((w64 (x37.1 + 1)), (x37.2.1, ((x37.2.2.1 ++ [(v39.1, (v39.2.1, (v39.2.2.1, (v39.2.2.2.1, r40.1))))]), ())))))) (some ((x37.2.1, x37.2.2.1), ()))) (0, (x20.2.1, ([], ()))))) (0, ([], ()))
noncomputable def iCopyNetwork.mng (n : Nat) : Mng := ⟨[.val tNetwork], [.val tNetwork], fun x => iCopyNetwork.f n x.1⟩
noncomputable def iCopyNetwork.cfg (n : Nat) : Cfg := ⟨tys16, [(86, iCopyProgram.mng n), (22, cloneI.mng n)], [], []⟩
theorem iCopyNetwork.eq : ∀ (n : Nat) (a0 : Network), runF (iCopyNetwork.cfg n) n Tryz.f60 (annOf Tryz.f60 iCopyNetwork.las) [.val tNetwork] [.val tNetwork] (a0, ()) = iCopyNetwork.f n a0 := by
  intros
  kernel_rfl
theorem iCopyNetwork.gof : GoF Tryz.prog 60 := ⟨_, Tryz.func60, by kernel_rfl, by kernel_rfl⟩
theorem iCopyNetwork.sound (n : Nat) : Sound Tryz.prog 60 (iCopyNetwork.mng n) := runF_sound (fn := Tryz.f60) (m := iCopyNetwork.mng n) (c := iCopyNetwork.cfg n) (regOK mixed (opOK (.of (c := iCopyNetwork.cfg n) ⟨⟨iCopyProgram.sound n, iCopyProgram.gof⟩, ⟨⟨cloneI.sound n, cloneI.gof⟩, trivial⟩⟩) (.of (c := iCopyNetwork.cfg n) trivial)) (tysOK tys16_ok)) (tysOK tys16_ok) Tryz.func60 (fun x => (iCopyNetwork.eq n x.1).symm)

def iChecked.las : List (Nat × LA) := []
noncomputable def iChecked.f (n : Nat) (a0 : Network) : Option (Network × (Bool × Unit)) := (iIsNetwork.f n a0).bind fun r1 => br (!r1.1) (some (([], []), (false, ()))) ((iCopyNetwork.f n a0).bind fun r2 => some (r2.1, (true, ())))
noncomputable def iChecked.mng (n : Nat) : Mng := ⟨[.val tNetwork], [.val tNetwork, .val .bool], fun x => iChecked.f n x.1⟩
noncomputable def iChecked.cfg (n : Nat) : Cfg := ⟨tys16, [(21, iIsNetwork.mng n), (60, iCopyNetwork.mng n)], [], []⟩
theorem iChecked.eq : ∀ (n : Nat) (a0 : Network), runF (iChecked.cfg n) n Tryz.f30 (annOf Tryz.f30 iChecked.las) [.val tNetwork] [.val tNetwork, .val .bool] (a0, ()) = iChecked.f n a0 := by
  intros
  kernel_rfl
theorem iChecked.gof : GoF Tryz.prog 30 := ⟨_, Tryz.func30, by kernel_rfl, by kernel_rfl⟩
theorem iChecked.sound (n : Nat) : Sound Tryz.prog 30 (iChecked.mng n) := runF_sound (fn := Tryz.f30) (m := iChecked.mng n) (c := iChecked.cfg n) (regOK mixed (opOK (.of (c := iChecked.cfg n) ⟨⟨iIsNetwork.sound n, iIsNetwork.gof⟩, ⟨⟨iCopyNetwork.sound n, iCopyNetwork.gof⟩, trivial⟩⟩) (.of (c := iChecked.cfg n) trivial)) (tysOK tys16_ok)) (tysOK tys16_ok) Tryz.func30 (fun x => (iChecked.eq n x.1).symm)
end Go.AmT
