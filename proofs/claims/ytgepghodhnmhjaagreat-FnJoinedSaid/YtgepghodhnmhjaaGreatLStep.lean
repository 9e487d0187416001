/- Functions that the law FnJoined reaches, each as a plain Lean function, and that each does what that says. No condition. -/
import Derived.Test.YtgepghodhnmhjaaGreatPRun
namespace Go.AmT
open Go Go.Am Go.Proofs
set_option linter.unusedVariables false
set_option maxRecDepth 100000
def tys3 : List (Nat × TInfo) := [(3, ⟨false, 1, 8, [.int .i64 0], .int .i64, 0, some I, [], false⟩),
  (36, ⟨false, 1, 24, [.nil], .slice, 3, some IS, [], false⟩),
  (45, ⟨false, 1, 24, [.nil], .slice, 88, some (.sl tInstr), [], false⟩),
  (47, ⟨true, 3, 40, [.int .i64 0, .int .i64 0, .nil], .struct, 0, some tProgram, [(0, 3), (1, 3), (2, 45)], false⟩),
  (88, ⟨true, 4, 32, [.int .i64 0, .int .i64 0, .int .i64 0, .int .i64 0], .struct, 0, some tInstr, [(0, 3), (1, 3), (2, 3), (3, 3)], false⟩),
  (100, ⟨true, 2, 32, [.int .i64 0, .nil], .struct, 0, some tActor, [(0, 3), (1, 36)], false⟩)]
theorem tys3_ok : (tys3.all fun p => tokB Tryz.prog p.1 p.2) = true := by kernel_rfl

def sL1Copy.las : List (Nat × LA) := []
noncomputable def sL1Copy.f (n : Nat) (a0 : List Int) : Option ((List Int) × Unit) := chk ((([] : List Int).length + a0.length) * 8 ≤ maxB) (some ((([] : List Int) ++ a0), ()))
noncomputable def sL1Copy.mng (n : Nat) : Mng := ⟨[.val IS], [.val IS], fun x => sL1Copy.f n x.1⟩
noncomputable def sL1Copy.cfg (n : Nat) : Cfg := ⟨tys3, [], [], []⟩
theorem sL1Copy.eq : ∀ (n : Nat) (a0 : List Int), runF (sL1Copy.cfg n) n Tryz.f51 (annOf Tryz.f51 sL1Copy.las) [.val IS] [.val IS] (a0, ()) = sL1Copy.f n a0 := by
  intros
  kernel_rfl
theorem sL1Copy.gof : GoF Tryz.prog 51 := ⟨_, Tryz.func51, by kernel_rfl, by kernel_rfl⟩
theorem sL1Copy.sound (n : Nat) : Sound Tryz.prog 51 (sL1Copy.mng n) := runF_sound (fn := Tryz.f51) (m := sL1Copy.mng n) (c := sL1Copy.cfg n) (regOK mixed (opOK (.of (c := sL1Copy.cfg n) trivial) (.of (c := sL1Copy.cfg n) trivial)) (tysOK tys3_ok)) (tysOK tys3_ok) Tryz.func51 (fun x => (sL1Copy.eq n x.1).symm)

def sWrapToken.las : List (Nat × LA) := [(3, ⟨[(3, .int .i64)], [], [], []⟩)]
noncomputable def sWrapToken.f (n : Nat) (a0 : Int) : Option (Int × Unit) := cut (α := (Int × Unit)) (br (decide (999999 < (a0.tmod 1999999))) (some (.inr ((w64 ((a0.tmod 1999999) - 1999999)), ()))) (some (.inr ((a0.tmod 1999999), ())))) fun y1 => br (decide (y1.1 < (-999999))) (some ((w64 (y1.1 + 1999999)), ())) (some (y1.1, ()))
noncomputable def sWrapToken.mng (n : Nat) : Mng := ⟨[.val I], [.val I], fun x => sWrapToken.f n x.1⟩
noncomputable def sWrapToken.cfg (n : Nat) : Cfg := ⟨tys3, [], [], []⟩
theorem sWrapToken.eq : ∀ (n : Nat) (a0 : Int), runF (sWrapToken.cfg n) n Tryz.f98 (annOf Tryz.f98 sWrapToken.las) [.val I] [.val I] (a0, ()) = sWrapToken.f n a0 := by
  intros
  kernel_rfl
theorem sWrapToken.gof : GoF Tryz.prog 98 := ⟨_, Tryz.func98, by kernel_rfl, by kernel_rfl⟩
theorem sWrapToken.sound (n : Nat) : Sound Tryz.prog 98 (sWrapToken.mng n) := runF_sound (fn := Tryz.f98) (m := sWrapToken.mng n) (c := sWrapToken.cfg n) (regOK mixed (opOK (.of (c := sWrapToken.cfg n) trivial) (.of (c := sWrapToken.cfg n) trivial)) (tysOK tys3_ok)) (tysOK tys3_ok) Tryz.func98 (fun x => (sWrapToken.eq n x.1).symm)

def sL2Rest.las : List (Nat × LA) := []
noncomputable def sL2Rest.f (n : Nat) (a0 : Int) (a1 : Int) : Option (Int × Unit) := br (decide ((max a1 (w64 (0 - a1))) = 0)) (some (0, ())) (if (max a1 (w64 (0 - a1))) = 0 then none else br (decide ((a0.tmod (max a1 (w64 (0 - a1)))) < 0)) (some ((w64 ((a0.tmod (max a1 (w64 (0 - a1)))) + (max a1 (w64 (0 - a1))))), ())) (some ((a0.tmod (max a1 (w64 (0 - a1)))), ())))
noncomputable def sL2Rest.mng (n : Nat) : Mng := ⟨[.val I, .val I], [.val I], fun x => sL2Rest.f n x.1 x.2.1⟩
noncomputable def sL2Rest.cfg (n : Nat) : Cfg := ⟨tys3, [], [], []⟩
theorem sL2Rest.eq : ∀ (n : Nat) (a0 : Int) (a1 : Int), runF (sL2Rest.cfg n) n Tryz.f99 (annOf Tryz.f99 sL2Rest.las) [.val I, .val I] [.val I] (a0, (a1, ())) = sL2Rest.f n a0 a1 := by
  intros
  kernel_rfl
theorem sL2Rest.gof : GoF Tryz.prog 99 := ⟨_, Tryz.func99, by kernel_rfl, by kernel_rfl⟩
theorem sL2Rest.sound (n : Nat) : Sound Tryz.prog 99 (sL2Rest.mng n) := runF_sound (fn := Tryz.f99) (m := sL2Rest.mng n) (c := sL2Rest.cfg n) (regOK mixed (opOK (.of (c := sL2Rest.cfg n) trivial) (.of (c := sL2Rest.cfg n) trivial)) (tysOK tys3_ok)) (tysOK tys3_ok) Tryz.func99 (fun x => (sL2Rest.eq n x.1 x.2.1).symm)

def sL2Value.las : List (Nat × LA) := []
noncomputable def sL2Value.f (n : Nat) (a0 : Instr) (a1 : List Int) (a2 : Int) : Option (Int × Unit) := br (decide (a0.1 = 1)) (some (a2, ())) (br (decide (a0.1 = 3)) (some (a0.2.2.1, ())) (br (decide (a0.1 = 4)) (chk (0 ≤ a0.2.2.1 ∧ a0.2.2.1 < (a1.length : Int)) (let v49 := (a1.getD a0.2.2.1.toNat 0); chk (0 ≤ a0.2.2.2 ∧ a0.2.2.2 < (a1.length : Int)) (let v50 := (a1.getD a0.2.2.2.toNat 0); (sWrapToken.f n (w64 (v49 + v50))).bind fun r51 => some (r51.1, ())))) (br (decide (a0.1 = 5)) (chk (0 ≤ a0.2.2.1 ∧ a0.2.2.1 < (a1.length : Int)) (let v61 := (a1.getD a0.2.2.1.toNat 0); chk (0 ≤ a0.2.2.2 ∧ a0.2.2.2 < (a1.length : Int)) (let v62 := (a1.getD a0.2.2.2.toNat 0); (sWrapToken.f n (w64 (v61 - v62))).bind fun r63 => some (r63.1, ())))) (br (decide (a0.1 = 6)) (chk (0 ≤ a0.2.2.1 ∧ a0.2.2.1 < (a1.length : Int)) (let v70 := (a1.getD a0.2.2.1.toNat 0); chk (0 ≤ a0.2.2.2 ∧ a0.2.2.2 < (a1.length : Int)) (let v71 := (a1.getD a0.2.2.2.toNat 0); (sWrapToken.f n (w64 (v70 * v71))).bind fun r72 => some (r72.1, ())))) (br (decide (a0.1 = 7)) (chk (0 ≤ a0.2.2.1 ∧ a0.2.2.1 < (a1.length : Int)) (let v76 := (a1.getD a0.2.2.1.toNat 0); chk (0 ≤ a0.2.2.2 ∧ a0.2.2.2 < (a1.length : Int)) (let v77 := (a1.getD a0.2.2.2.toNat 0); (sL2Rest.f n v76 v77).bind fun r78 => some (r78.1, ())))) (chk (0 ≤ a0.2.1 ∧ a0.2.1 < (a1.length : Int)) (some ((a1.getD a0.2.1.toNat 0), ()))))))))
noncomputable def sL2Value.mng (n : Nat) : Mng := ⟨[.val tInstr, .val IS, .val I], [.val I], fun x => sL2Value.f n x.1 x.2.1 x.2.2.1⟩
noncomputable def sL2Value.cfg (n : Nat) : Cfg := ⟨tys3, [(98, sWrapToken.mng n), (99, sL2Rest.mng n)], [], []⟩
theorem sL2Value.eq : ∀ (n : Nat) (a0 : Instr) (a1 : List Int) (a2 : Int), runF (sL2Value.cfg n) n Tryz.f84 (annOf Tryz.f84 sL2Value.las) [.val tInstr, .val IS, .val I] [.val I] (a0, (a1, (a2, ()))) = sL2Value.f n a0 a1 a2 := by
  intros
  kernel_rfl
theorem sL2Value.gof : GoF Tryz.prog 84 := ⟨_, Tryz.func84, by kernel_rfl, by kernel_rfl⟩
theorem sL2Value.sound (n : Nat) : Sound Tryz.prog 84 (sL2Value.mng n) := runF_sound (fn := Tryz.f84) (m := sL2Value.mng n) (c := sL2Value.cfg n) (regOK mixed (opOK (.of (c := sL2Value.cfg n) ⟨⟨sWrapToken.sound n, sWrapToken.gof⟩, ⟨⟨sL2Rest.sound n, sL2Rest.gof⟩, trivial⟩⟩) (.of (c := sL2Value.cfg n) trivial)) (tysOK tys3_ok)) (tysOK tys3_ok) Tryz.func84 (fun x => (sL2Value.eq n x.1 x.2.1 x.2.2.1).symm)

def sL2Step.las : List (Nat × LA) := [(5, ⟨[(10, .int .i64)], [], [2, 4, 6, 8, 9], []⟩), (7, ⟨[(63, .bool)], [], [2, 4, 6, 8, 9, 10], []⟩), (8, ⟨[(9, .vptr 1000 0)], [(1000, .cells [] [.int .i64, .own 1001 I]), (1001, .row true I)], [2, 4, 6, 8, 10], []⟩)]
noncomputable def sL2Step.f (n : Nat) (a0 : Program) (a1 : Actor) (a2 : Int) : Option (Actor × (Int × Unit)) := chk (0 ≤ a1.1 ∧ a1.1 < (a0.2.2.length : Int)) (let v1 := (a0.2.2.getD a1.1.toNat zInstr); (sL1Copy.f n a1.2).bind fun r2 => cut (α := (Int × Unit)) (br (decide (v1.1 = 2)) (chk (0 ≤ v1.2.1 ∧ v1.2.1 < (a1.2.length : Int)) (let v5 := (a1.2.getD v1.2.1.toNat 0); some (.inr (v5, ())))) (some (.inr (0, ())))) fun y4 => cut (α := (Bool × Unit)) (br (decide (v1.1 = 8)) (some (.inr (true, ()))) (br (decide (v1.1 = 9)) (chk (0 ≤ v1.2.1 ∧ v1.2.1 < (a1.2.length : Int)) (let v10 := (a1.2.getD v1.2.1.toNat 0); br (decide (v10 = 0)) (some (.inr (true, ()))) (br (decide (v1.1 = 10)) (chk (0 ≤ v1.2.1 ∧ v1.2.1 < (a1.2.length : Int)) (let v11 := (a1.2.getD v1.2.1.toNat 0); some (.inr ((decide (v11 < 0)), ())))) (some (.inr (false, ())))))) (br (decide (v1.1 = 10)) (chk (0 ≤ v1.2.1 ∧ v1.2.1 < (a1.2.length : Int)) (let v12 := (a1.2.getD v1.2.1.toNat 0); some (.inr ((decide (v12 < 0)), ())))) (some (.inr (false, ())))))) fun y9 => cut (α := (Int × (List Int) × Unit)) (br y9.1 (some (.inr (v1.2.2.1, (r2.1, ())))) (some (.inr ((w64 (a1.1 + 1)), (r2.1, ()))))) fun y13 => (sL2Value.f n v1 a1.2 a2).bind fun r14 => chk (0 ≤ v1.2.1 ∧ v1.2.1 < (y13.2.1.length : Int)) (let v15 := (y13.2.1.set v1.2.1.toNat r14.1); some ((y13.1, v15), (y4.1, ()))))
noncomputable def sL2Step.mng (n : Nat) : Mng := ⟨[.val tProgram, .val tActor, .val I], [.val tActor, .val I], fun x => sL2Step.f n x.1 x.2.1 x.2.2.1⟩
noncomputable def sL2Step.cfg (n : Nat) : Cfg := ⟨tys3, [(51, sL1Copy.mng n), (84, sL2Value.mng n)], [], []⟩
theorem sL2Step.eq : ∀ (n : Nat) (a0 : Program) (a1 : Actor) (a2 : Int), runF (sL2Step.cfg n) n Tryz.f74 (annOf Tryz.f74 sL2Step.las) [.val tProgram, .val tActor, .val I] [.val tActor, .val I] (a0, (a1, (a2, ()))) = sL2Step.f n a0 a1 a2 := by
  intros
  kernel_rfl
theorem sL2Step.gof : GoF Tryz.prog 74 := ⟨_, Tryz.func74, by kernel_rfl, by kernel_rfl⟩
theorem sL2Step.sound (n : Nat) : Sound Tryz.prog 74 (sL2Step.mng n) := runF_sound (fn := Tryz.f74) (m := sL2Step.mng n) (c := sL2Step.cfg n) (regOK mixed (opOK (.of (c := sL2Step.cfg n) ⟨⟨sL1Copy.sound n, sL1Copy.gof⟩, ⟨⟨sL2Value.sound n, sL2Value.gof⟩, trivial⟩⟩) (.of (c := sL2Step.cfg n) trivial)) (tysOK tys3_ok)) (tysOK tys3_ok) Tryz.func74 (fun x => (sL2Step.eq n x.1 x.2.1 x.2.2.1).symm)

def iWrap.las : List (Nat × LA) := []
noncomputable def iWrap.f (n : Nat) (a0 : Int) : Option (Int × Unit) := br (decide (999999 < (a0.tmod 1999999))) (some ((w64 ((a0.tmod 1999999) - 1999999)), ())) (br (decide ((a0.tmod 1999999) < (-999999))) (some ((w64 ((a0.tmod 1999999) + 1999999)), ())) (some ((a0.tmod 1999999), ())))
noncomputable def iWrap.mng (n : Nat) : Mng := ⟨[.val I], [.val I], fun x => iWrap.f n x.1⟩
noncomputable def iWrap.cfg (n : Nat) : Cfg := ⟨tys3, [], [], []⟩
theorem iWrap.eq : ∀ (n : Nat) (a0 : Int), runF (iWrap.cfg n) n Tryz.f85 (annOf Tryz.f85 iWrap.las) [.val I] [.val I] (a0, ()) = iWrap.f n a0 := by
  intros
  kernel_rfl
theorem iWrap.gof : GoF Tryz.prog 85 := ⟨_, Tryz.func85, by kernel_rfl, by kernel_rfl⟩
theorem iWrap.sound (n : Nat) : Sound Tryz.prog 85 (iWrap.mng n) := runF_sound (fn := Tryz.f85) (m := iWrap.mng n) (c := iWrap.cfg n) (regOK mixed (opOK (.of (c := iWrap.cfg n) trivial) (.of (c := iWrap.cfg n) trivial)) (tysOK tys3_ok)) (tysOK tys3_ok) Tryz.func85 (fun x => (iWrap.eq n x.1).symm)

def iRest.las : List (Nat × LA) := []
noncomputable def iRest.f (n : Nat) (a0 : Int) (a1 : Int) : Option (Int × Unit) := br (decide (a1 = 0)) (some (0, ())) (if (max a1 (w64 (0 - a1))) = 0 then none else br (decide ((a0.tmod (max a1 (w64 (0 - a1)))) < 0)) (some ((w64 ((a0.tmod (max a1 (w64 (0 - a1)))) + (max a1 (w64 (0 - a1))))), ())) (some ((a0.tmod (max a1 (w64 (0 - a1)))), ())))
noncomputable def iRest.mng (n : Nat) : Mng := ⟨[.val I, .val I], [.val I], fun x => iRest.f n x.1 x.2.1⟩
noncomputable def iRest.cfg (n : Nat) : Cfg := ⟨tys3, [], [], []⟩
theorem iRest.eq : ∀ (n : Nat) (a0 : Int) (a1 : Int), runF (iRest.cfg n) n Tryz.f86 (annOf Tryz.f86 iRest.las) [.val I, .val I] [.val I] (a0, (a1, ())) = iRest.f n a0 a1 := by
  intros
  kernel_rfl
theorem iRest.gof : GoF Tryz.prog 86 := ⟨_, Tryz.func86, by kernel_rfl, by kernel_rfl⟩
theorem iRest.sound (n : Nat) : Sound Tryz.prog 86 (iRest.mng n) := runF_sound (fn := Tryz.f86) (m := iRest.mng n) (c := iRest.cfg n) (regOK mixed (opOK (.of (c := iRest.cfg n) trivial) (.of (c := iRest.cfg n) trivial)) (tysOK tys3_ok)) (tysOK tys3_ok) Tryz.func86 (fun x => (iRest.eq n x.1 x.2.1).symm)

end Go.AmT
