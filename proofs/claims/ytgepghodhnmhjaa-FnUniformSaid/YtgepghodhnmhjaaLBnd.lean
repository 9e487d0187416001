/- Functions that the law FnUniform reaches, each as a plain Lean function, and that each does what that says. No condition. -/
import Derived.Test.YtgepghodhnmhjaaPRun
namespace Go.AmT
open Go Go.Am Go.Proofs
set_option linter.unusedVariables false
set_option maxRecDepth 100000
def tys7 : List (Nat × TInfo) := [(3, ⟨false, 1, 8, [.int .i64 0], .int .i64, 0, some I, [], false⟩),
  (23, ⟨false, 1, 24, [.nil], .slice, 71, some (.sl tProgram), [], false⟩),
  (24, ⟨false, 1, 24, [.nil], .slice, 53, some (.sl tLink), [], false⟩),
  (26, ⟨true, 2, 48, [.nil, .nil], .struct, 0, some tNetwork, [(0, 23), (1, 24)], false⟩),
  (30, ⟨false, 1, 24, [.nil], .slice, 89, some (.sl tActor), [], false⟩),
  (31, ⟨false, 1, 24, [.nil], .slice, 37, some (.sl IS), [], false⟩),
  (33, ⟨true, 4, 80, [.nil, .nil, .nil, .int .i64 0], .struct, 0, some tState, [(0, 30), (1, 31), (2, 31), (3, 3)], false⟩),
  (37, ⟨false, 1, 24, [.nil], .slice, 3, some IS, [], false⟩),
  (53, ⟨true, 5, 56, [.int .i64 0, .int .i64 0, .int .i64 0, .int .i64 0, .nil], .struct, 0, some tLink, [(0, 3), (1, 3), (2, 3), (3, 3), (4, 37)], false⟩),
  (71, ⟨true, 3, 40, [.int .i64 0, .int .i64 0, .nil], .struct, 0, some tProgram, [(0, 3), (1, 3), (2, 69)], false⟩),
  (89, ⟨true, 2, 32, [.int .i64 0, .nil], .struct, 0, some tActor, [(0, 3), (1, 37)], false⟩)]
theorem tys7_ok : (tys7.all fun p => tokB Try.prog p.1 p.2) = true := by kernel_rfl

def sL6Full.las : List (Nat × LA) := []
noncomputable def sL6Full.f (n : Nat) (a0 : Network) (a1 : State) (a2 : List Int) (a3 : Int) : Option (Int × Unit) := chk (0 ≤ a3 ∧ a3 < (a0.1.length : Int)) (let v1 := (a0.1.getD a3.toNat zProgram); chk (0 ≤ a3 ∧ a3 < (a1.1.length : Int)) (let v2 := (a1.1.getD a3.toNat zActor); (sL2Want.f n v1 v2).bind fun r3 => (sL5Link.f n a0 a1 a3).bind fun r4 => br (!decide (r3.1 = 3)) (some ((-1), ())) (chk (0 ≤ r4.1 ∧ r4.1 < (a0.2.length : Int)) (let v5 := (a0.2.getD r4.1.toNat zLink); br (decide (v5.2.2.1 < 0)) (some ((-1), ())) (chk (0 ≤ r4.1 ∧ r4.1 < (a1.2.1.length : Int)) (let v6 := (a1.2.1.getD r4.1.toNat []); chk (0 ≤ r4.1 ∧ r4.1 < (a2.length : Int)) (br (decide ((v6.length : Int) < (a2.getD r4.1.toNat 0))) (some ((-1), ())) (some (r4.1, ())))))))))
noncomputable def sL6Full.mng (n : Nat) : Mng := ⟨[.val tNetwork, .val tState, .val IS, .val I], [.val I], fun x => sL6Full.f n x.1 x.2.1 x.2.2.1 x.2.2.2.1⟩
noncomputable def sL6Full.cfg (n : Nat) : Cfg := ⟨tys7, [(137, sL2Want.mng n), (138, sL5Link.mng n)], [], []⟩
theorem sL6Full.eq : ∀ (n : Nat) (a0 : Network) (a1 : State) (a2 : List Int) (a3 : Int), runF (sL6Full.cfg n) n Try.f163 (annOf Try.f163 sL6Full.las) [.val tNetwork, .val tState, .val IS, .val I] [.val I] (a0, (a1, (a2, (a3, ())))) = sL6Full.f n a0 a1 a2 a3 := by
  intros
  kernel_rfl
theorem sL6Full.gof : GoF Try.prog 163 := ⟨_, Try.func163, by kernel_rfl, by kernel_rfl⟩
theorem sL6Full.sound (n : Nat) : Sound Try.prog 163 (sL6Full.mng n) := runF_sound (fn := Try.f163) (m := sL6Full.mng n) (c := sL6Full.cfg n) (regOK mixed (opOK (.of (c := sL6Full.cfg n) ⟨⟨sL2Want.sound n, sL2Want.gof⟩, ⟨⟨sL5Link.sound n, sL5Link.gof⟩, trivial⟩⟩) (.of (c := sL6Full.cfg n) trivial)) (tysOK tys7_ok)) (tysOK tys7_ok) Try.func163 (fun x => (sL6Full.eq n x.1 x.2.1 x.2.2.1 x.2.2.2.1).symm)

def sL6Can.las : List (Nat × LA) := []
noncomputable def sL6Can.f (n : Nat) (a0 : Network) (a1 : State) (a2 : List Int) (a3 : Int) : Option (Bool × Unit) := (sL5Can.f n a0 a1 a3).bind fun r1 => br r1.1 ((sL6Full.f n a0 a1 a2 a3).bind fun r2 => some ((decide (r2.1 < 0)), ())) (some (false, ()))
noncomputable def sL6Can.mng (n : Nat) : Mng := ⟨[.val tNetwork, .val tState, .val IS, .val I], [.val .bool], fun x => sL6Can.f n x.1 x.2.1 x.2.2.1 x.2.2.2.1⟩
noncomputable def sL6Can.cfg (n : Nat) : Cfg := ⟨tys7, [(75, sL5Can.mng n), (163, sL6Full.mng n)], [], []⟩
theorem sL6Can.eq : ∀ (n : Nat) (a0 : Network) (a1 : State) (a2 : List Int) (a3 : Int), runF (sL6Can.cfg n) n Try.f128 (annOf Try.f128 sL6Can.las) [.val tNetwork, .val tState, .val IS, .val I] [.val .bool] (a0, (a1, (a2, (a3, ())))) = sL6Can.f n a0 a1 a2 a3 := by
  intros
  kernel_rfl
theorem sL6Can.gof : GoF Try.prog 128 := ⟨_, Try.func128, by kernel_rfl, by kernel_rfl⟩
theorem sL6Can.sound (n : Nat) : Sound Try.prog 128 (sL6Can.mng n) := runF_sound (fn := Try.f128) (m := sL6Can.mng n) (c := sL6Can.cfg n) (regOK mixed (opOK (.of (c := sL6Can.cfg n) ⟨⟨sL5Can.sound n, sL5Can.gof⟩, ⟨⟨sL6Full.sound n, sL6Full.gof⟩, trivial⟩⟩) (.of (c := sL6Can.cfg n) trivial)) (tysOK tys7_ok)) (tysOK tys7_ok) Try.func128 (fun x => (sL6Can.eq n x.1 x.2.1 x.2.2.1 x.2.2.2.1).symm)

def iBounded.las : List (Nat × LA) := []
noncomputable def iBounded.f (n : Nat) (a0 : Network) (a1 : State) (a2 : List Int) : Option (Bool × Unit) := (iIsState.f n a0 a1).bind fun r1 => br r1.1 ((iAre.f n a0 a2).bind fun r2 => some (r2.1, ())) (some (false, ()))
noncomputable def iBounded.mng (n : Nat) : Mng := ⟨[.val tNetwork, .val tState, .val IS], [.val .bool], fun x => iBounded.f n x.1 x.2.1 x.2.2.1⟩
noncomputable def iBounded.cfg (n : Nat) : Cfg := ⟨tys7, [(68, iIsState.mng n), (129, iAre.mng n)], [], []⟩
theorem iBounded.eq : ∀ (n : Nat) (a0 : Network) (a1 : State) (a2 : List Int), runF (iBounded.cfg n) n Try.f61 (annOf Try.f61 iBounded.las) [.val tNetwork, .val tState, .val IS] [.val .bool] (a0, (a1, (a2, ()))) = iBounded.f n a0 a1 a2 := by
  intros
  kernel_rfl
theorem iBounded.gof : GoF Try.prog 61 := ⟨_, Try.func61, by kernel_rfl, by kernel_rfl⟩
theorem iBounded.sound (n : Nat) : Sound Try.prog 61 (iBounded.mng n) := runF_sound (fn := Try.f61) (m := iBounded.mng n) (c := iBounded.cfg n) (regOK mixed (opOK (.of (c := iBounded.cfg n) ⟨⟨iIsState.sound n, iIsState.gof⟩, ⟨⟨iAre.sound n, iAre.gof⟩, trivial⟩⟩) (.of (c := iBounded.cfg n) trivial)) (tysOK tys7_ok)) (tysOK tys7_ok) Try.func61 (fun x => (iBounded.eq n x.1 x.2.1 x.2.2.1).symm)

def boundedRun.las : List (Nat × LA) := []
def boundedRun.la : LA := ⟨[(0, .agg [.sh tProgram, .sh tLink]), (1, .agg [.sh tActor, .sh IS, .sh IS, .int .i64]), (2, .sh I)], [], [], []⟩
def boundedRun.lb : LA := ⟨[(0, .vptr 1000 0)], [(1000, .cells [] [.sh tProgram, .sh tLink, .own 1001 tActor, .own 1002 IS, .own 1003 IS, .int .i64, .own 1004 IS, .own 1005 IS, .osh I]), (1001, .row true tActor), (1002, .row true IS), (1003, .row true IS), (1004, .row true IS), (1005, .row true IS)], [], []⟩
noncomputable def boundedRun.f (n : Nat) (a0 : List Program) (a1 : List Link) (a2 : List Actor) (a3 : List (List Int)) (a4 : List (List Int)) (a5 : Int) (a6 : List Int) : Option ((List Program) × (List Link) × (Int × (Option (List Int)) × (List Actor) × (List (List Int)) × (List (List Int)) × (List (List Int)) × (List (List Int)) × Unit)) := chk (a6.length * 8 ≤ maxB) ((newRun.f n a0 a1 a2 a3 a4 a5 ((some a6) : Option (List Int))).bind fun r1 => some (r1.1, (r1.2.1, (r1.2.2.1, (r1.2.2.2.1, (r1.2.2.2.2.1, (r1.2.2.2.2.2.1, (r1.2.2.2.2.2.2.1, (r1.2.2.2.2.2.2.2.1, (r1.2.2.2.2.2.2.2.2.1, ()))))))))))
noncomputable def boundedRun.mng (n : Nat) : LMng := ⟨boundedRun.la, boundedRun.lb, fun x => boundedRun.f n x.1 x.2.1 x.2.2.1 x.2.2.2.1 x.2.2.2.2.1 x.2.2.2.2.2.1 x.2.2.2.2.2.2.1⟩
noncomputable def boundedRun.cfg (n : Nat) : Cfg := ⟨tys7, [], [(69, newRun.mng n)], [27]⟩
theorem boundedRun.eq : ∀ (n : Nat) (a0 : List Program) (a1 : List Link) (a2 : List Actor) (a3 : List (List Int)) (a4 : List (List Int)) (a5 : Int) (a6 : List Int) (mp : Mp), LMng.run (boundedRun.cfg n) n Try.f62 (annOf Try.f62 boundedRun.las) boundedRun.la boundedRun.lb (a0, (a1, (a2, (a3, (a4, (a5, (a6, mp))))))) = boundedRun.f n a0 a1 a2 a3 a4 a5 a6 := by
  intros
  kernel_rfl
theorem boundedRun.gof : GoF Try.prog 62 := ⟨_, Try.func62, by kernel_rfl, by kernel_rfl⟩
theorem boundedRun.sound (n : Nat) : LSound Try.prog 62 (boundedRun.mng n) := runL_sound (fn := Try.f62) (M := boundedRun.mng n) (c := boundedRun.cfg n) (regOK mixed (opOK (.of (c := boundedRun.cfg n) trivial) (.of (c := boundedRun.cfg n) ⟨⟨newRun.sound n, newRun.gof⟩, trivial⟩)) (tysOK tys7_ok)) (tysOK tys7_ok) Try.func62 (fun x => (boundedRun.eq n x.1 x.2.1 x.2.2.1 x.2.2.2.1 x.2.2.2.2.1 x.2.2.2.2.2.1 x.2.2.2.2.2.2.1 x.2.2.2.2.2.2.2).symm)
end Go.AmT
