/- Functions that the law FnDropped reaches, each as a plain Lean function, and that each does what that says. No condition. -/
import Derived.Test.YtgepghodhnmhjaaPSt
import Derived.Test.YtgepghodhnmhjaaPMark0
namespace Go.AmT
open Go Go.Am Go.Proofs
set_option linter.unusedVariables false
set_option maxRecDepth 100000
abbrev tRun : Ty := (.pair tNetwork (.pair tState (.pair (.sl IS) (.pair (.sl IS) (.osl I)))))
abbrev Run : Type := Network × (State × (List (List Int) × (List (List Int) × Option (List Int))))
def tys4 : List (Nat × TInfo) := [(3, ⟨false, 1, 8, [.int .i64 0], .int .i64, 0, some I, [], false⟩),
  (23, ⟨false, 1, 24, [.nil], .slice, 71, some (.sl tProgram), [], false⟩),
  (24, ⟨false, 1, 24, [.nil], .slice, 53, some (.sl tLink), [], false⟩),
  (26, ⟨true, 2, 48, [.nil, .nil], .struct, 0, some tNetwork, [(0, 23), (1, 24)], false⟩),
  (30, ⟨false, 1, 24, [.nil], .slice, 89, some (.sl tActor), [], false⟩),
  (31, ⟨false, 1, 24, [.nil], .slice, 37, some (.sl IS), [], false⟩),
  (33, ⟨true, 4, 80, [.nil, .nil, .nil, .int .i64 0], .struct, 0, some tState, [(0, 30), (1, 31), (2, 31), (3, 3)], false⟩),
  (37, ⟨false, 1, 24, [.nil], .slice, 3, some IS, [], false⟩),
  (53, ⟨true, 5, 56, [.int .i64 0, .int .i64 0, .int .i64 0, .int .i64 0, .nil], .struct, 0, some tLink, [(0, 3), (1, 3), (2, 3), (3, 3), (4, 37)], false⟩),
  (69, ⟨false, 1, 24, [.nil], .slice, 129, some (.sl tInstr), [], false⟩),
  (71, ⟨true, 3, 40, [.int .i64 0, .int .i64 0, .nil], .struct, 0, some tProgram, [(0, 3), (1, 3), (2, 69)], false⟩),
  (85, ⟨true, 9, 200, [.nil, .nil, .nil, .nil, .nil, .int .i64 0, .nil, .nil, .nil], .struct, 0, some tRun, [(0, 26), (2, 33), (6, 31), (7, 31), (8, 37)], false⟩),
  (89, ⟨true, 2, 32, [.int .i64 0, .nil], .struct, 0, some tActor, [(0, 3), (1, 37)], false⟩),
  (129, ⟨true, 4, 32, [.int .i64 0, .int .i64 0, .int .i64 0, .int .i64 0], .struct, 0, some tInstr, [(0, 3), (1, 3), (2, 3), (3, 3)], false⟩)]
theorem tys4_ok : (tys4.all fun p => tokB Try.prog p.1 p.2) = true := by kernel_rfl

noncomputable def cloneI.f (n : Nat) (a0 : List Int) : Option ((List Int) × Unit) := chk ((([] : List Int).length + a0.length) * 8 ≤ maxB) (some ((([] : List Int) ++ a0), ()))
noncomputable def cloneI.mng (n : Nat) : Mng := ⟨[.val (.sl I)], [.val (.sl I)], fun x => cloneI.f n x.1⟩
noncomputable def cloneI.cfg (n : Nat) : Cfg := ⟨tys4, [], [], []⟩
theorem cloneI.gof : GoF Try.prog 91 := ⟨_, Try.func91, by kernel_rfl, by kernel_rfl⟩
theorem cloneI.eq0 : ∀ (n : Nat), runNil (cloneI.cfg n) n Try.f91 (annOf Try.f91 []) [.val (.sl I)] [.val (.sl I)] .nil [] [] = some (([] : List Int), ()) := by
  intros
  kernel_rfl
theorem cloneI.eq1 : ∀ (n : Nat) (a0 : List Int), runNil (cloneI.cfg n) n Try.f91 (annOf Try.f91 []) [.val (.sl I)] [.val (.sl I)] (.osh I (some a0)) [] [] = cloneI.f n a0 := by
  intros
  kernel_rfl
theorem cloneI.sound (n : Nat) : Sound Try.prog 91 (cloneI.mng n) :=
  runNil_sound (t := I) (ps := []) (rs := [.val (.sl I)]) (F := fun x => cloneI.f n x.1) (regOK mixed (opOK (.of (c := cloneI.cfg n) trivial) (.of (c := cloneI.cfg n) trivial)) (tysOK tys4_ok)) (tysOK tys4_ok) Try.func91
    (fun x y hy hx => by
      have hy : cloneI.f n x.1 = some y := hy
      rw [hx] at hy
      unfold cloneI.f chk at hy
      split at hy
      · exact (cloneI.eq0 n).trans hy
      · simp at hy)
    (fun x y hy => (cloneI.eq1 n x.1).trans hy)

def want.las : List (Nat × LA) := []
noncomputable def want.f (n : Nat) (a0 : Program) (a1 : Actor) : Option (Int × (Int × Unit)) := br (decide (a1.1 = (a0.2.2.length : Int))) (some (0, (0, ()))) (chk (0 ≤ a1.1 ∧ a1.1 < (a0.2.2.length : Int)) (let v1 := (a0.2.2.getD a1.1.toNat zInstr); br (decide (v1.1 = 11)) (some (0, (0, ()))) (br (decide (v1.1 = 1)) (some (2, (v1.2.2.1, ()))) (br (decide (v1.1 = 2)) (some (3, (v1.2.2.1, ()))) (some (1, (0, ())))))))
noncomputable def want.mng (n : Nat) : Mng := ⟨[.val tProgram, .val tActor], [.val I, .val I], fun x => want.f n x.1 x.2.1⟩
noncomputable def want.cfg (n : Nat) : Cfg := ⟨tys4, [], [], []⟩
theorem want.eq : ∀ (n : Nat) (a0 : Program) (a1 : Actor), runF (want.cfg n) n Try.f143 (annOf Try.f143 want.las) [.val tProgram, .val tActor] [.val I, .val I] (a0, (a1, ())) = want.f n a0 a1 := by
  intros
  kernel_rfl
theorem want.gof : GoF Try.prog 143 := ⟨_, Try.func143, by kernel_rfl, by kernel_rfl⟩
theorem want.sound (n : Nat) : Sound Try.prog 143 (want.mng n) := runF_sound (fn := Try.f143) (m := want.mng n) (c := want.cfg n) (regOK mixed (opOK (.of (c := want.cfg n) trivial) (.of (c := want.cfg n) trivial)) (tysOK tys4_ok)) (tysOK tys4_ok) Try.func143 (fun x => (want.eq n x.1 x.2.1).symm)

def sL2Want.las : List (Nat × LA) := []
noncomputable def sL2Want.f (n : Nat) (a0 : Program) (a1 : Actor) : Option (Int × (Int × Unit)) := br (decide (a1.1 = (a0.2.2.length : Int))) (some (0, (0, ()))) (chk (0 ≤ a1.1 ∧ a1.1 < (a0.2.2.length : Int)) (let v1 := (a0.2.2.getD a1.1.toNat zInstr); br (decide (v1.1 = 11)) (some (0, (0, ()))) (br (decide (v1.1 = 1)) (some (2, (v1.2.2.1, ()))) (br (decide (v1.1 = 2)) (some (3, (v1.2.2.1, ()))) (some (1, (0, ())))))))
noncomputable def sL2Want.mng (n : Nat) : Mng := ⟨[.val tProgram, .val tActor], [.val I, .val I], fun x => sL2Want.f n x.1 x.2.1⟩
noncomputable def sL2Want.cfg (n : Nat) : Cfg := ⟨tys4, [], [], []⟩
theorem sL2Want.eq : ∀ (n : Nat) (a0 : Program) (a1 : Actor), runF (sL2Want.cfg n) n Try.f137 (annOf Try.f137 sL2Want.las) [.val tProgram, .val tActor] [.val I, .val I] (a0, (a1, ())) = sL2Want.f n a0 a1 := by
  intros
  kernel_rfl
theorem sL2Want.gof : GoF Try.prog 137 := ⟨_, Try.func137, by kernel_rfl, by kernel_rfl⟩
theorem sL2Want.sound (n : Nat) : Sound Try.prog 137 (sL2Want.mng n) := runF_sound (fn := Try.f137) (m := sL2Want.mng n) (c := sL2Want.cfg n) (regOK mixed (opOK (.of (c := sL2Want.cfg n) trivial) (.of (c := sL2Want.cfg n) trivial)) (tysOK tys4_ok)) (tysOK tys4_ok) Try.func137 (fun x => (sL2Want.eq n x.1 x.2.1).symm)

end Go.AmT
