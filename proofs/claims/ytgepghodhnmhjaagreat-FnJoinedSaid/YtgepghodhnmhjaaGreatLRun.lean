/- Functions that the law FnJoined reaches, each as a plain Lean function, and that each does what that says. No condition. -/
import Derived.Test.YtgepghodhnmhjaaGreatPSt
import Derived.Test.YtgepghodhnmhjaaGreatPMark0
namespace Go.AmT
open Go Go.Am Go.Proofs
set_option linter.unusedVariables false
set_option maxRecDepth 100000
def tys2 : List (Nat × TInfo) := [(3, ⟨false, 1, 8, [.int .i64 0], .int .i64, 0, some I, [], false⟩),
  (36, ⟨false, 1, 24, [.nil], .slice, 3, some IS, [], false⟩),
  (45, ⟨false, 1, 24, [.nil], .slice, 88, some (.sl tInstr), [], false⟩),
  (47, ⟨true, 3, 40, [.int .i64 0, .int .i64 0, .nil], .struct, 0, some tProgram, [(0, 3), (1, 3), (2, 45)], false⟩),
  (88, ⟨true, 4, 32, [.int .i64 0, .int .i64 0, .int .i64 0, .int .i64 0], .struct, 0, some tInstr, [(0, 3), (1, 3), (2, 3), (3, 3)], false⟩),
  (100, ⟨true, 2, 32, [.int .i64 0, .nil], .struct, 0, some tActor, [(0, 3), (1, 36)], false⟩)]
theorem tys2_ok : (tys2.all fun p => tokB Tryz.prog p.1 p.2) = true := by kernel_rfl

noncomputable def cloneI.f (n : Nat) (a0 : List Int) : Option ((List Int) × Unit) := chk ((([] : List Int).length + a0.length) * 8 ≤ maxB) (some ((([] : List Int) ++ a0), ()))
noncomputable def cloneI.mng (n : Nat) : Mng := ⟨[.val (.sl I)], [.val (.sl I)], fun x => cloneI.f n x.1⟩
noncomputable def cloneI.cfg (n : Nat) : Cfg := ⟨tys2, [], [], []⟩
theorem cloneI.gof : GoF Tryz.prog 28 := ⟨_, Tryz.func28, by kernel_rfl, by kernel_rfl⟩
theorem cloneI.eq0 : ∀ (n : Nat), runNil (cloneI.cfg n) n Tryz.f28 (annOf Tryz.f28 []) [.val (.sl I)] [.val (.sl I)] .nil [] [] = some (([] : List Int), ()) := by
  intros
  kernel_rfl
theorem cloneI.eq1 : ∀ (n : Nat) (a0 : List Int), runNil (cloneI.cfg n) n Tryz.f28 (annOf Tryz.f28 []) [.val (.sl I)] [.val (.sl I)] (.osh I (some a0)) [] [] = cloneI.f n a0 := by
  intros
  kernel_rfl
theorem cloneI.sound (n : Nat) : Sound Tryz.prog 28 (cloneI.mng n) :=
  runNil_sound (t := I) (ps := []) (rs := [.val (.sl I)]) (F := fun x => cloneI.f n x.1) (regOK mixed (opOK (.of (c := cloneI.cfg n) trivial) (.of (c := cloneI.cfg n) trivial)) (tysOK tys2_ok)) (tysOK tys2_ok) Tryz.func28
    (fun x y hy hx => by
      have hy : cloneI.f n x.1 = some y := hy
      rw [hx] at hy
      unfold cloneI.f chk at hy
      split at hy
      · exact (cloneI.eq0 n).trans hy
      · simp at hy)
    (fun x y hy => (cloneI.eq1 n x.1).trans hy)

def want.las : List (Nat × LA) := []
noncomputable def want.f (n : Nat) (a0 : Program) (a1 : Actor) : Option (Int × (Int × Unit)) := br (decide (a1.1 = (a0.2.2.length : Int))) (some (0, (0, ()))) (chk (0 ≤ a1.1 ∧ a1.1 < (a0.2.2.length : Int)) (let v1 := (a0.2.2.getD a1.1.toNat zInstr); br (decide (v1.1 = 11)) (some (0, (0, ()))) (br (decide (v1.1 = 1)) (some (2, (v1.2.2.1, ()))) (br (decide (v1.1 = 2)) (some (3, (v1.2.2.1, ()))) (some (1, (0, ())))))))
noncomputable def want.mng (n : Nat) : Mng := ⟨[.val tProgram, .val tActor], [.val I, .val I], fun x => want.f n x.1 x.2.1⟩
noncomputable def want.cfg (n : Nat) : Cfg := ⟨tys2, [], [], []⟩
theorem want.eq : ∀ (n : Nat) (a0 : Program) (a1 : Actor), runF (want.cfg n) n Tryz.f76 (annOf Tryz.f76 want.las) [.val tProgram, .val tActor] [.val I, .val I] (a0, (a1, ())) = want.f n a0 a1 := by
  intros
  kernel_rfl
theorem want.gof : GoF Tryz.prog 76 := ⟨_, Tryz.func76, by kernel_rfl, by kernel_rfl⟩
theorem want.sound (n : Nat) : Sound Tryz.prog 76 (want.mng n) := runF_sound (fn := Tryz.f76) (m := want.mng n) (c := want.cfg n) (regOK mixed (opOK (.of (c := want.cfg n) trivial) (.of (c := want.cfg n) trivial)) (tysOK tys2_ok)) (tysOK tys2_ok) Tryz.func76 (fun x => (want.eq n x.1 x.2.1).symm)

def sL2Want.las : List (Nat × LA) := []
noncomputable def sL2Want.f (n : Nat) (a0 : Program) (a1 : Actor) : Option (Int × (Int × Unit)) := br (decide (a1.1 = (a0.2.2.length : Int))) (some (0, (0, ()))) (chk (0 ≤ a1.1 ∧ a1.1 < (a0.2.2.length : Int)) (let v1 := (a0.2.2.getD a1.1.toNat zInstr); br (decide (v1.1 = 11)) (some (0, (0, ()))) (br (decide (v1.1 = 1)) (some (2, (v1.2.2.1, ()))) (br (decide (v1.1 = 2)) (some (3, (v1.2.2.1, ()))) (some (1, (0, ())))))))
noncomputable def sL2Want.mng (n : Nat) : Mng := ⟨[.val tProgram, .val tActor], [.val I, .val I], fun x => sL2Want.f n x.1 x.2.1⟩
noncomputable def sL2Want.cfg (n : Nat) : Cfg := ⟨tys2, [], [], []⟩
theorem sL2Want.eq : ∀ (n : Nat) (a0 : Program) (a1 : Actor), runF (sL2Want.cfg n) n Tryz.f73 (annOf Tryz.f73 sL2Want.las) [.val tProgram, .val tActor] [.val I, .val I] (a0, (a1, ())) = sL2Want.f n a0 a1 := by
  intros
  kernel_rfl
theorem sL2Want.gof : GoF Tryz.prog 73 := ⟨_, Tryz.func73, by kernel_rfl, by kernel_rfl⟩
theorem sL2Want.sound (n : Nat) : Sound Tryz.prog 73 (sL2Want.mng n) := runF_sound (fn := Tryz.f73) (m := sL2Want.mng n) (c := sL2Want.cfg n) (regOK mixed (opOK (.of (c := sL2Want.cfg n) trivial) (.of (c := sL2Want.cfg n) trivial)) (tysOK tys2_ok)) (tysOK tys2_ok) Tryz.func73 (fun x => (sL2Want.eq n x.1 x.2.1).symm)
end Go.AmT
