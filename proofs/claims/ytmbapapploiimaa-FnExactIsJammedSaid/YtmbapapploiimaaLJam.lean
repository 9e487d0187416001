/- Functions that the law FnExactIsJammed reaches, each as a plain Lean function, and that each does what that says. No condition. -/
import Derived.Test.YtmbapapploiimaaPBnd
namespace Go.AmT
open Go Go.Am Go.Proofs
set_option linter.unusedVariables false
set_option maxRecDepth 100000
def tys5 : List (Nat × TInfo) := [(3, ⟨false, 1, 8, [.int .i64 0], .int .i64, 0, some I, [], false⟩),
  (4, ⟨false, 1, 1, [.bool false], .bool, 0, some .bool, [], false⟩),
  (25, ⟨true, 2, 48, [.nil, .nil], .struct, 0, some tNetwork, [(0, 22), (1, 23)], false⟩),
  (26, ⟨false, 1, 24, [.nil], .slice, 3, some IS, [], false⟩),
  (29, ⟨false, 1, 24, [.nil], .slice, 100, some (.sl tProgram), [], false⟩),
  (32, ⟨true, 2, 48, [.nil, .nil], .struct, 0, some tNetwork, [(0, 29), (1, 30)], false⟩),
  (49, ⟨true, 4, 80, [.nil, .nil, .nil, .int .i64 0], .struct, 0, some tState, [(0, 46), (1, 47), (2, 47), (3, 3)], false⟩),
  (56, ⟨true, 4, 80, [.nil, .nil, .nil, .int .i64 0], .struct, 0, some tState, [(0, 54), (1, 47), (2, 47), (3, 3)], false⟩),
  (141, ⟨true, 9, 200, [.nil, .nil, .nil, .nil, .nil, .int .i64 0, .nil, .nil, .nil], .struct, 0, some tRun, [(0, 32), (2, 56), (6, 47), (7, 47), (8, 26)], false⟩)]
theorem tys5_ok : (tys5.all fun p => tokB Try.prog p.1 p.2) = true := by kernel_rfl

def sL6Some.las : List (Nat × LA) := [(3, ⟨[(11, .int .i64)], [], [2, 3, 4, 10], []⟩)]
noncomputable def sL6Some.f (n : Nat) (a0 : Network) (a1 : State) (a2 : List Int) : Option (Bool × Unit) := iter (α := (Int × Unit)) n (fun ih12 x11 => br (decide (x11.1 < (a0.1.length : Int))) ((sL6Can.f n a0 a1 a2 x11.1).bind fun r13 => br r13.1 (some (true, ())) (ih12 ((w64 (x11.1 + 1)), ()))) (some (false, ()))) (0, ())
noncomputable def sL6Some.mng (n : Nat) : Mng := ⟨[.val tNetwork, .val tState, .val IS], [.val .bool], fun x => sL6Some.f n x.1 x.2.1 x.2.2.1⟩
noncomputable def sL6Some.cfg (n : Nat) : Cfg := ⟨tys5, [(99, sL6Can.mng n)], [], []⟩
theorem sL6Some.eq : ∀ (n : Nat) (a0 : Network) (a1 : State) (a2 : List Int), runF (sL6Some.cfg n) n Try.f108 (annOf Try.f108 sL6Some.las) [.val tNetwork, .val tState, .val IS] [.val .bool] (a0, (a1, (a2, ()))) = sL6Some.f n a0 a1 a2 := by
  intros
  kernel_rfl
theorem sL6Some.gof : GoF Try.prog 108 := ⟨_, Try.func108, by kernel_rfl, by kernel_rfl⟩
theorem sL6Some.sound (n : Nat) : Sound Try.prog 108 (sL6Some.mng n) := runF_sound (fn := Try.f108) (m := sL6Some.mng n) (c := sL6Some.cfg n) (regOK mixed (opOK (.of (c := sL6Some.cfg n) ⟨⟨sL6Can.sound n, sL6Can.gof⟩, trivial⟩) (.of (c := sL6Some.cfg n) trivial)) (tysOK tys5_ok)) (tysOK tys5_ok) Try.func108 (fun x => (sL6Some.eq n x.1 x.2.1 x.2.2.1).symm)

def sL5First.las : List (Nat × LA) := [(3, ⟨[(9, .int .i64)], [], [2, 3, 8], []⟩)]
noncomputable def sL5First.f (n : Nat) (a0 : Network) (a1 : State) : Option (Int × Unit) := iter (α := (Int × Unit)) n (fun ih11 x10 => br (decide (x10.1 < (a0.1.length : Int))) ((sL5Can.f n a0 a1 x10.1).bind fun r12 => br r12.1 (some (x10.1, ())) (ih11 ((w64 (x10.1 + 1)), ()))) (some ((-1), ()))) (0, ())
noncomputable def sL5First.mng (n : Nat) : Mng := ⟨[.val tNetwork, .val tState], [.val I], fun x => sL5First.f n x.1 x.2.1⟩
noncomputable def sL5First.cfg (n : Nat) : Cfg := ⟨tys5, [(113, sL5Can.mng n)], [], []⟩
theorem sL5First.eq : ∀ (n : Nat) (a0 : Network) (a1 : State), runF (sL5First.cfg n) n Try.f109 (annOf Try.f109 sL5First.las) [.val tNetwork, .val tState] [.val I] (a0, (a1, ())) = sL5First.f n a0 a1 := by
  intros
  kernel_rfl
theorem sL5First.gof : GoF Try.prog 109 := ⟨_, Try.func109, by kernel_rfl, by kernel_rfl⟩
theorem sL5First.sound (n : Nat) : Sound Try.prog 109 (sL5First.mng n) := runF_sound (fn := Try.f109) (m := sL5First.mng n) (c := sL5First.cfg n) (regOK mixed (opOK (.of (c := sL5First.cfg n) ⟨⟨sL5Can.sound n, sL5Can.gof⟩, trivial⟩) (.of (c := sL5First.cfg n) trivial)) (tysOK tys5_ok)) (tysOK tys5_ok) Try.func109 (fun x => (sL5First.eq n x.1 x.2.1).symm)

def sIsJammed.las : List (Nat × LA) := []
noncomputable def sIsJammed.f (n : Nat) (a0 : Network) (a1 : State) (a2 : List Int) : Option (Bool × Unit) := (sL6Valid.f n a0 a1 a2).bind fun r1 => br r1.1 ((sL6Some.f n a0 a1 a2).bind fun r2 => br (!r2.1) ((sL5First.f n a0 a1).bind fun r3 => some ((decide (0 ≤ r3.1)), ())) (some (false, ()))) (some (false, ()))
noncomputable def sIsJammed.mng (n : Nat) : Mng := ⟨[.val tNetwork, .val tState, .val IS], [.val .bool], fun x => sIsJammed.f n x.1 x.2.1 x.2.2.1⟩
noncomputable def sIsJammed.cfg (n : Nat) : Cfg := ⟨tys5, [(82, sL6Valid.mng n), (108, sL6Some.mng n), (109, sL5First.mng n)], [], []⟩
theorem sIsJammed.eq : ∀ (n : Nat) (a0 : Network) (a1 : State) (a2 : List Int), runF (sIsJammed.cfg n) n Try.f51 (annOf Try.f51 sIsJammed.las) [.val tNetwork, .val tState, .val IS] [.val .bool] (a0, (a1, (a2, ()))) = sIsJammed.f n a0 a1 a2 := by
  intros
  kernel_rfl
theorem sIsJammed.gof : GoF Try.prog 51 := ⟨_, Try.func51, by kernel_rfl, by kernel_rfl⟩
theorem sIsJammed.sound (n : Nat) : Sound Try.prog 51 (sIsJammed.mng n) := runF_sound (fn := Try.f51) (m := sIsJammed.mng n) (c := sIsJammed.cfg n) (regOK mixed (opOK (.of (c := sIsJammed.cfg n) ⟨⟨sL6Valid.sound n, sL6Valid.gof⟩, ⟨⟨sL6Some.sound n, sL6Some.gof⟩, ⟨⟨sL5First.sound n, sL5First.gof⟩, trivial⟩⟩⟩) (.of (c := sIsJammed.cfg n) trivial)) (tysOK tys5_ok)) (tysOK tys5_ok) Try.func51 (fun x => (sIsJammed.eq n x.1 x.2.1 x.2.2.1).symm)

def stuck.las : List (Nat × LA) := [(3, ⟨[(10, .int .i64)], [], [0, 9], []⟩)]
noncomputable def stuck.f (n : Nat) (a0 : Run) : Option (Bool × Unit) := iter (α := (Int × Unit)) n (fun ih6 x5 => br (decide (x5.1 < (a0.1.1.length : Int))) ((may.f n a0 x5.1).bind fun r7 => br r7.1 (some (false, ())) (ih6 ((w64 (x5.1 + 1)), ()))) (some (true, ()))) (0, ())
noncomputable def stuck.mng (n : Nat) : Mng := ⟨[.psh tRun], [.val .bool], fun x => stuck.f n x.1⟩
noncomputable def stuck.cfg (n : Nat) : Cfg := ⟨tys5, [(105, may.mng n)], [], []⟩
theorem stuck.eq : ∀ (n : Nat) (a0 : Run), runF (stuck.cfg n) n Try.f110 (annOf Try.f110 stuck.las) [.psh tRun] [.val .bool] (a0, ()) = stuck.f n a0 := by
  intros
  kernel_rfl
theorem stuck.gof : GoF Try.prog 110 := ⟨_, Try.func110, by kernel_rfl, by kernel_rfl⟩
theorem stuck.sound (n : Nat) : Sound Try.prog 110 (stuck.mng n) := runF_sound (fn := Try.f110) (m := stuck.mng n) (c := stuck.cfg n) (regOK mixed (opOK (.of (c := stuck.cfg n) ⟨⟨may.sound n, may.gof⟩, trivial⟩) (.of (c := stuck.cfg n) trivial)) (tysOK tys5_ok)) (tysOK tys5_ok) Try.func110 (fun x => (stuck.eq n x.1).symm)

def iJam.las : List (Nat × LA) := []
noncomputable def iJam.f (n : Nat) (a0 : Network) (a1 : State) (a2 : List Int) : Option (Bool × Unit) := (iBounded.f n a0 a1 a2).bind fun r1 => br (!r1.1) (some (false, ())) ((boundedRun.f n a0.1 a0.2 a1.1 a1.2.1 a1.2.2.1 a1.2.2.2 a2).bind fun r2 => (stuck.f n ((r2.1, r2.2.1), ((r2.2.2.2.2.1, (r2.2.2.2.2.2.1, (r2.2.2.2.2.2.2.1, r2.2.2.1))), (r2.2.2.2.2.2.2.2.1, (r2.2.2.2.2.2.2.2.2.1, r2.2.2.2.1))))).bind fun r3 => br r3.1 ((quiet.f n ((r2.1, r2.2.1), ((r2.2.2.2.2.1, (r2.2.2.2.2.2.1, (r2.2.2.2.2.2.2.1, r2.2.2.1))), (r2.2.2.2.2.2.2.2.1, (r2.2.2.2.2.2.2.2.2.1, r2.2.2.2.1))))).bind fun r4 => some ((!r4.1), ())) (some (false, ())))
noncomputable def iJam.mng (n : Nat) : Mng := ⟨[.val tNetwork, .val tState, .val IS], [.val .bool], fun x => iJam.f n x.1 x.2.1 x.2.2.1⟩
noncomputable def iJam.cfg (n : Nat) : Cfg := ⟨tys5, [(102, iBounded.mng n), (110, stuck.mng n), (111, quiet.mng n)], [(103, boundedRun.mng n)], []⟩
theorem iJam.eq : ∀ (n : Nat) (a0 : Network) (a1 : State) (a2 : List Int), runF (iJam.cfg n) n Try.f52 (annOf Try.f52 iJam.las) [.val tNetwork, .val tState, .val IS] [.val .bool] (a0, (a1, (a2, ()))) = iJam.f n a0 a1 a2 := by
  intros
  kernel_rfl
theorem iJam.gof : GoF Try.prog 52 := ⟨_, Try.func52, by kernel_rfl, by kernel_rfl⟩
theorem iJam.sound (n : Nat) : Sound Try.prog 52 (iJam.mng n) := runF_sound (fn := Try.f52) (m := iJam.mng n) (c := iJam.cfg n) (regOK mixed (opOK (.of (c := iJam.cfg n) ⟨⟨iBounded.sound n, iBounded.gof⟩, ⟨⟨stuck.sound n, stuck.gof⟩, ⟨⟨quiet.sound n, quiet.gof⟩, trivial⟩⟩⟩) (.of (c := iJam.cfg n) ⟨⟨boundedRun.sound n, boundedRun.gof⟩, trivial⟩)) (tysOK tys5_ok)) (tysOK tys5_ok) Try.func52 (fun x => (iJam.eq n x.1 x.2.1 x.2.2.1).symm)

def law.las : List (Nat × LA) := []
noncomputable def law.f (n : Nat) (a0 : Network) (a1 : State) (a2 : List Int) : Option (Bool × Unit) := br (decide (1048576 < (a2.length : Int))) (some (true, ())) ((szNetwork.f n a0 1048576).bind fun r1 => br (decide (r1.1 < 0)) (some (true, ())) ((szState.f n a1 r1.1).bind fun r2 => br (decide (r2.1 < 0)) (some (true, ())) ((toNetwork.f n a0).bind fun r3 => (toState.f n a1).bind fun r4 => (toIntS.f n a2).bind fun r5 => (sIsJammed.f n r3.1 r4.1 r5.1).bind fun r6 => (toNetwork.f n a0).bind fun r7 => (toState.f n a1).bind fun r8 => (toIntS.f n a2).bind fun r9 => (iJam.f n r7.1 r8.1 r9.1).bind fun r10 => br (!decide (r10.1 = r6.1)) (some (false, ())) ((toNetwork.f n a0).bind fun r11 => (eqNetwork.f n r7.1 r11.1).bind fun r12 => br (!r12.1) (some (false, ())) ((toState.f n a1).bind fun r13 => (eqState.f n r8.1 r13.1).bind fun r14 => br (!r14.1) (some (false, ())) ((toIntS.f n a2).bind fun r15 => (eqIntS.f n r9.1 r15.1).bind fun r16 => br (!r16.1) (some (false, ())) (some (true, ()))))))))
noncomputable def law.mng (n : Nat) : Mng := ⟨[.val tNetwork, .val tState, .val IS], [.val .bool], fun x => law.f n x.1 x.2.1 x.2.2.1⟩
noncomputable def law.cfg (n : Nat) : Cfg := ⟨tys5, [(14, szNetwork.mng n), (46, szState.mng n), (16, toNetwork.mng n), (48, toState.mng n), (17, toIntS.mng n), (51, sIsJammed.mng n), (52, iJam.mng n), (19, eqNetwork.mng n), (50, eqState.mng n), (20, eqIntS.mng n)], [], []⟩
theorem law.eq : ∀ (n : Nat) (a0 : Network) (a1 : State) (a2 : List Int), runF (law.cfg n) n Try.f12 (annOf Try.f12 law.las) [.val tNetwork, .val tState, .val IS] [.val .bool] (a0, (a1, (a2, ()))) = law.f n a0 a1 a2 := by
  intros
  kernel_rfl
theorem law.gof : GoF Try.prog 12 := ⟨_, Try.func12, by kernel_rfl, by kernel_rfl⟩
theorem law.sound (n : Nat) : Sound Try.prog 12 (law.mng n) := runF_sound (fn := Try.f12) (m := law.mng n) (c := law.cfg n) (regOK mixed (opOK (.of (c := law.cfg n) ⟨⟨szNetwork.sound n, szNetwork.gof⟩, ⟨⟨szState.sound n, szState.gof⟩, ⟨⟨toNetwork.sound n, toNetwork.gof⟩, ⟨⟨toState.sound n, toState.gof⟩, ⟨⟨toIntS.sound n, toIntS.gof⟩, ⟨⟨sIsJammed.sound n, sIsJammed.gof⟩, ⟨⟨iJam.sound n, iJam.gof⟩, ⟨⟨eqNetwork.sound n, eqNetwork.gof⟩, ⟨⟨eqState.sound n, eqState.gof⟩, ⟨⟨eqIntS.sound n, eqIntS.gof⟩, trivial⟩⟩⟩⟩⟩⟩⟩⟩⟩⟩) (.of (c := law.cfg n) trivial)) (tysOK tys5_ok)) (tysOK tys5_ok) Try.func12 (fun x => (law.eq n x.1 x.2.1 x.2.2.1).symm)
end Go.AmT
