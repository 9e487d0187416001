/- Functions that the law FnExactExpandState reaches, each as a plain Lean function, and that each does what that says. No condition. -/
import Derived.Test.YtkgknijpmcagmaaGreatPMark
namespace Go.AmT
open Go Go.Am Go.Proofs
set_option linter.unusedVariables false
set_option maxRecDepth 100000
def tys4 : List (Nat × TInfo) := [(3, ⟨false, 1, 8, [.int .i64 0], .int .i64, 0, some I, [], false⟩),
  (37, ⟨false, 1, 24, [.nil], .slice, 53, some (.sl tProgram), [], false⟩),
  (38, ⟨false, 1, 24, [.nil], .slice, 81, some (.sl tLink), [], false⟩),
  (40, ⟨true, 2, 48, [.nil, .nil], .struct, 0, some tNetwork, [(0, 37), (1, 38)], false⟩),
  (51, ⟨false, 1, 24, [.nil], .slice, 103, some (.sl tInstr), [], false⟩),
  (53, ⟨true, 3, 40, [.int .i64 0, .int .i64 0, .nil], .struct, 0, some tProgram, [(0, 3), (1, 3), (2, 51)], false⟩),
  (75, ⟨false, 1, 24, [.nil], .slice, 3, some IS, [], false⟩),
  (81, ⟨true, 5, 56, [.int .i64 0, .int .i64 0, .int .i64 0, .int .i64 0, .nil], .struct, 0, some tLink, [(0, 3), (1, 3), (2, 3), (3, 3), (4, 75)], false⟩),
  (103, ⟨true, 4, 32, [.int .i64 0, .int .i64 0, .int .i64 0, .int .i64 0], .struct, 0, some tInstr, [(0, 3), (1, 3), (2, 3), (3, 3)], false⟩)]
theorem tys4_ok : (tys4.all fun p => tokB Tryz.prog p.1 p.2) = true := by kernel_rfl

noncomputable def cloneI.f (n : Nat) (a0 : List Int) : Option ((List Int) × Unit) := chk ((([] : List Int).length + a0.length) * 8 ≤ maxB) (some ((([] : List Int) ++ a0), ()))
noncomputable def cloneI.mng (n : Nat) : Mng := ⟨[.val (.sl I)], [.val (.sl I)], fun x => cloneI.f n x.1⟩
noncomputable def cloneI.cfg (n : Nat) : Cfg := ⟨tys4, [], [], []⟩
theorem cloneI.gof : GoF Tryz.prog 49 := ⟨_, Tryz.func49, by kernel_rfl, by kernel_rfl⟩
theorem cloneI.eq0 : ∀ (n : Nat), runNil (cloneI.cfg n) n Tryz.f49 (annOf Tryz.f49 []) [.val (.sl I)] [.val (.sl I)] .nil [] [] = some (([] : List Int), ()) := by
  intros
  kernel_rfl
theorem cloneI.eq1 : ∀ (n : Nat) (a0 : List Int), runNil (cloneI.cfg n) n Tryz.f49 (annOf Tryz.f49 []) [.val (.sl I)] [.val (.sl I)] (.osh I (some a0)) [] [] = cloneI.f n a0 := by
  intros
  kernel_rfl
theorem cloneI.sound (n : Nat) : Sound Tryz.prog 49 (cloneI.mng n) :=
  runNil_sound (t := I) (ps := []) (rs := [.val (.sl I)]) (F := fun x => cloneI.f n x.1) (regOK mixed (opOK (.of (c := cloneI.cfg n) trivial) (.of (c := cloneI.cfg n) trivial)) (tysOK tys4_ok)) (tysOK tys4_ok) Tryz.func49
    (fun x y hy hx => by
      have hy : cloneI.f n x.1 = some y := hy
      rw [hx] at hy
      unfold cloneI.f chk at hy
      split at hy
      · exact (cloneI.eq0 n).trans hy
      · simp at hy)
    (fun x y hy => (cloneI.eq1 n x.1).trans hy)

noncomputable def cloneIn.f (n : Nat) (a0 : List Instr) : Option ((List Instr) × Unit) := chk ((([] : List Instr).length + a0.length) * 32 ≤ maxB) (some ((([] : List Instr) ++ a0), ()))
noncomputable def cloneIn.mng (n : Nat) : Mng := ⟨[.val (.sl tInstr)], [.val (.sl tInstr)], fun x => cloneIn.f n x.1⟩
noncomputable def cloneIn.cfg (n : Nat) : Cfg := ⟨tys4, [], [], []⟩
theorem cloneIn.gof : GoF Tryz.prog 174 := ⟨_, Tryz.func174, by kernel_rfl, by kernel_rfl⟩
theorem cloneIn.eq0 : ∀ (n : Nat), runNil (cloneIn.cfg n) n Tryz.f174 (annOf Tryz.f174 []) [.val (.sl tInstr)] [.val (.sl tInstr)] .nil [] [] = some (([] : List Instr), ()) := by
  intros
  kernel_rfl
theorem cloneIn.eq1 : ∀ (n : Nat) (a0 : List Instr), runNil (cloneIn.cfg n) n Tryz.f174 (annOf Tryz.f174 []) [.val (.sl tInstr)] [.val (.sl tInstr)] (.osh tInstr (some a0)) [] [] = cloneIn.f n a0 := by
  intros
  kernel_rfl
theorem cloneIn.sound (n : Nat) : Sound Tryz.prog 174 (cloneIn.mng n) :=
  runNil_sound (t := tInstr) (ps := []) (rs := [.val (.sl tInstr)]) (F := fun x => cloneIn.f n x.1) (regOK mixed (opOK (.of (c := cloneIn.cfg n) trivial) (.of (c := cloneIn.cfg n) trivial)) (tysOK tys4_ok)) (tysOK tys4_ok) Tryz.func174
    (fun x y hy hx => by
      have hy : cloneIn.f n x.1 = some y := hy
      rw [hx] at hy
      unfold cloneIn.f chk at hy
      split at hy
      · exact (cloneIn.eq0 n).trans hy
      · simp at hy)
    (fun x y hy => (cloneIn.eq1 n x.1).trans hy)

def sL1Copy.las : List (Nat × LA) := []
noncomputable def sL1Copy.f (n : Nat) (a0 : List Int) : Option ((List Int) × Unit) := chk ((([] : List Int).length + a0.length) * 8 ≤ maxB) (some ((([] : List Int) ++ a0), ()))
noncomputable def sL1Copy.mng (n : Nat) : Mng := ⟨[.val IS], [.val IS], fun x => sL1Copy.f n x.1⟩
noncomputable def sL1Copy.cfg (n : Nat) : Cfg := ⟨tys4, [], [], []⟩
theorem sL1Copy.eq : ∀ (n : Nat) (a0 : List Int), runF (sL1Copy.cfg n) n Tryz.f39 (annOf Tryz.f39 sL1Copy.las) [.val IS] [.val IS] (a0, ()) = sL1Copy.f n a0 := by
  intros
  kernel_rfl
theorem sL1Copy.gof : GoF Tryz.prog 39 := ⟨_, Tryz.func39, by kernel_rfl, by kernel_rfl⟩
theorem sL1Copy.sound (n : Nat) : Sound Tryz.prog 39 (sL1Copy.mng n) := runF_sound (fn := Tryz.f39) (m := sL1Copy.mng n) (c := sL1Copy.cfg n) (regOK mixed (opOK (.of (c := sL1Copy.cfg n) trivial) (.of (c := sL1Copy.cfg n) trivial)) (tysOK tys4_ok)) (tysOK tys4_ok) Tryz.func39 (fun x => (sL1Copy.eq n x.1).symm)

def sL3Program.las : List (Nat × LA) := []
noncomputable def sL3Program.f (n : Nat) (a0 : Program) : Option (Program × Unit) := chk ((([] : List Instr).length + a0.2.2.length) * 32 ≤ maxB) (some ((a0.1, (a0.2.1, (([] : List Instr) ++ a0.2.2))), ()))
noncomputable def sL3Program.mng (n : Nat) : Mng := ⟨[.val tProgram], [.val tProgram], fun x => sL3Program.f n x.1⟩
noncomputable def sL3Program.cfg (n : Nat) : Cfg := ⟨tys4, [], [], []⟩
theorem sL3Program.eq : ∀ (n : Nat) (a0 : Program), runF (sL3Program.cfg n) n Tryz.f81 (annOf Tryz.f81 sL3Program.las) [.val tProgram] [.val tProgram] (a0, ()) = sL3Program.f n a0 := by
  intros
  kernel_rfl
theorem sL3Program.gof : GoF Tryz.prog 81 := ⟨_, Tryz.func81, by kernel_rfl, by kernel_rfl⟩
theorem sL3Program.sound (n : Nat) : Sound Tryz.prog 81 (sL3Program.mng n) := runF_sound (fn := Tryz.f81) (m := sL3Program.mng n) (c := sL3Program.cfg n) (regOK mixed (opOK (.of (c := sL3Program.cfg n) trivial) (.of (c := sL3Program.cfg n) trivial)) (tysOK tys4_ok)) (tysOK tys4_ok) Tryz.func81 (fun x => (sL3Program.eq n x.1).symm)

def sL3Link.las : List (Nat × LA) := []
noncomputable def sL3Link.f (n : Nat) (a0 : Link) : Option (Link × Unit) := (sL1Copy.f n a0.2.2.2.2).bind fun r1 => some ((a0.1, (a0.2.1, (a0.2.2.1, (a0.2.2.2.1, r1.1)))), ())
noncomputable def sL3Link.mng (n : Nat) : Mng := ⟨[.val tLink], [.val tLink], fun x => sL3Link.f n x.1⟩
noncomputable def sL3Link.cfg (n : Nat) : Cfg := ⟨tys4, [(39, sL1Copy.mng n)], [], []⟩
theorem sL3Link.eq : ∀ (n : Nat) (a0 : Link), runF (sL3Link.cfg n) n Tryz.f82 (annOf Tryz.f82 sL3Link.las) [.val tLink] [.val tLink] (a0, ()) = sL3Link.f n a0 := by
  intros
  kernel_rfl
theorem sL3Link.gof : GoF Tryz.prog 82 := ⟨_, Tryz.func82, by kernel_rfl, by kernel_rfl⟩
theorem sL3Link.sound (n : Nat) : Sound Tryz.prog 82 (sL3Link.mng n) := runF_sound (fn := Tryz.f82) (m := sL3Link.mng n) (c := sL3Link.cfg n) (regOK mixed (opOK (.of (c := sL3Link.cfg n) ⟨⟨sL1Copy.sound n, sL1Copy.gof⟩, trivial⟩) (.of (c := sL3Link.cfg n) trivial)) (tysOK tys4_ok)) (tysOK tys4_ok) Tryz.func82 (fun x => (sL3Link.eq n x.1).symm)

def iCopyProgram.las : List (Nat × LA) := []
noncomputable def iCopyProgram.f (n : Nat) (a0 : Program) : Option (Program × Unit) := (cloneIn.f n a0.2.2).bind fun r1 => some ((a0.1, (a0.2.1, r1.1)), ())
noncomputable def iCopyProgram.mng (n : Nat) : Mng := ⟨[.val tProgram], [.val tProgram], fun x => iCopyProgram.f n x.1⟩
noncomputable def iCopyProgram.cfg (n : Nat) : Cfg := ⟨tys4, [(174, cloneIn.mng n)], [], []⟩
theorem iCopyProgram.eq : ∀ (n : Nat) (a0 : Program), runF (iCopyProgram.cfg n) n Tryz.f164 (annOf Tryz.f164 iCopyProgram.las) [.val tProgram] [.val tProgram] (a0, ()) = iCopyProgram.f n a0 := by
  intros
  kernel_rfl
theorem iCopyProgram.gof : GoF Tryz.prog 164 := ⟨_, Tryz.func164, by kernel_rfl, by kernel_rfl⟩
theorem iCopyProgram.sound (n : Nat) : Sound Tryz.prog 164 (iCopyProgram.mng n) := runF_sound (fn := Tryz.f164) (m := iCopyProgram.mng n) (c := iCopyProgram.cfg n) (regOK mixed (opOK (.of (c := iCopyProgram.cfg n) ⟨⟨cloneIn.sound n, cloneIn.gof⟩, trivial⟩) (.of (c := iCopyProgram.cfg n) trivial)) (tysOK tys4_ok)) (tysOK tys4_ok) Tryz.func164 (fun x => (iCopyProgram.eq n x.1).symm)

def iCopyNetwork.las : List (Nat × LA) := [(4, ⟨[(3, .vptr 1000 0), (12, .int .i64)], [(1000, .cells [] [.own 1001 tProgram, .con (.nil)]), (1001, .row true tProgram)], [1, 2, 10, 11], []⟩), (13, ⟨[(3, .vptr 1000 0), (27, .int .i64)], [(1000, .cells [] [.own 1001 tProgram, .own 1002 tLink]), (1001, .row true tProgram), (1002, .row true tLink)], [2, 25, 26], []⟩)]
noncomputable def iCopyNetwork.f (n : Nat) (a0 : Network) : Option (Network × Unit) := iter (α := (Int × (List Program) × Unit)) n (fun ih21 x20 => br (decide (x20.1 < (a0.1.length : Int))) (chk (0 ≤ x20.1 ∧ x20.1 < (a0.1.length : Int)) (let v22 := (a0.1.getD x20.1.toNat zProgram); (iCopyProgram.f n v22).bind fun r23 => chk ((x20.2.1.length + ([r23.1] : List Program).length) * 40 ≤ maxB) (ih21 ((w64 (x20.1 + 1)), ((x20.2.1 ++ [r23.1]), ()))))) (iter (α := (Int × (List Program) × (List Link) × Unit)) n (fun ih38 x37 => br (decide (x37.1 < (a0.2.length : Int))) (chk (0 ≤ x37.1 ∧ x37.1 < (a0.2.length : Int)) (let v39 := (a0.2.getD x37.1.toNat zLink); (cloneI.f n v39.2.2.2.2).bind fun r40 => chk ((x37.2.2.1.length + ([(v39.1, (v39.2.1, (v39.2.2.1, (v39.2.2.2.1, r40.1))))] : List Link).length) * 56 ≤ maxB) (ih38 ((w64 (x37.1 + 1)), (x37.2.1, ((x37.2.2.1 ++ [(v39.1, (v39.2.1, (v39.2.2.1, (v39.2.2.2.1, r40.1))))]), ())))))) (some ((x37.2.1, x37.2.2.1), ()))) (0, (x20.2.1, ([], ()))))) (0, ([], ()))
noncomputable def iCopyNetwork.mng (n : Nat) : Mng := ⟨[.val tNetwork], [.val tNetwork], fun x => iCopyNetwork.f n x.1⟩
noncomputable def iCopyNetwork.cfg (n : Nat) : Cfg := ⟨tys4, [(164, iCopyProgram.mng n), (49, cloneI.mng n)], [], []⟩
theorem iCopyNetwork.eq : ∀ (n : Nat) (a0 : Network), runF (iCopyNetwork.cfg n) n Tryz.f132 (annOf Tryz.f132 iCopyNetwork.las) [.val tNetwork] [.val tNetwork] (a0, ()) = iCopyNetwork.f n a0 := by
  intros
  kernel_rfl
theorem iCopyNetwork.gof : GoF Tryz.prog 132 := ⟨_, Tryz.func132, by kernel_rfl, by kernel_rfl⟩
theorem iCopyNetwork.sound (n : Nat) : Sound Tryz.prog 132 (iCopyNetwork.mng n) := runF_sound (fn := Tryz.f132) (m := iCopyNetwork.mng n) (c := iCopyNetwork.cfg n) (regOK mixed (opOK (.of (c := iCopyNetwork.cfg n) ⟨⟨iCopyProgram.sound n, iCopyProgram.gof⟩, ⟨⟨cloneI.sound n, cloneI.gof⟩, trivial⟩⟩) (.of (c := iCopyNetwork.cfg n) trivial)) (tysOK tys4_ok)) (tysOK tys4_ok) Tryz.func132 (fun x => (iCopyNetwork.eq n x.1).symm)

def iChecked.las : List (Nat × LA) := []
noncomputable def iChecked.f (n : Nat) (a0 : Network) : Option (Network × (Bool × Unit)) := (iIsNetwork.f n a0).bind fun r1 => br (!r1.1) (some (([], []), (false, ()))) ((iCopyNetwork.f n a0).bind fun r2 => some (r2.1, (true, ())))
noncomputable def iChecked.mng (n : Nat) : Mng := ⟨[.val tNetwork], [.val tNetwork, .val .bool], fun x => iChecked.f n x.1⟩
noncomputable def iChecked.cfg (n : Nat) : Cfg := ⟨tys4, [(71, iIsNetwork.mng n), (132, iCopyNetwork.mng n)], [], []⟩
theorem iChecked.eq : ∀ (n : Nat) (a0 : Network), runF (iChecked.cfg n) n Tryz.f70 (annOf Tryz.f70 iChecked.las) [.val tNetwork] [.val tNetwork, .val .bool] (a0, ()) = iChecked.f n a0 := by
  intros
  kernel_rfl
theorem iChecked.gof : GoF Tryz.prog 70 := ⟨_, Tryz.func70, by kernel_rfl, by kernel_rfl⟩
theorem iChecked.sound (n : Nat) : Sound Tryz.prog 70 (iChecked.mng n) := runF_sound (fn := Tryz.f70) (m := iChecked.mng n) (c := iChecked.cfg n) (regOK mixed (opOK (.of (c := iChecked.cfg n) ⟨⟨iIsNetwork.sound n, iIsNetwork.gof⟩, ⟨⟨iCopyNetwork.sound n, iCopyNetwork.gof⟩, trivial⟩⟩) (.of (c := iChecked.cfg n) trivial)) (tysOK tys4_ok)) (tysOK tys4_ok) Tryz.func70 (fun x => (iChecked.eq n x.1).symm)
end Go.AmT
