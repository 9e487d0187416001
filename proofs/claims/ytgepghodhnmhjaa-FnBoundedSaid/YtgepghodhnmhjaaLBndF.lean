/- Functions that the law FnBounded reaches, each as a plain Lean function, and that each does what that says. No condition. -/
import Derived.Test.YtgepghodhnmhjaaPBel
namespace Go.AmT
open Go Go.Am Go.Proofs
set_option linter.unusedVariables false
set_option maxRecDepth 100000
def tys17 : List (Nat × TInfo) := [(3, ⟨false, 1, 8, [.int .i64 0], .int .i64, 0, some I, [], false⟩),
  (4, ⟨false, 1, 1, [.bool false], .bool, 0, some .bool, [], false⟩),
  (22, ⟨false, 1, 24, [.nil], .slice, 5, some (.sl U8), [], false⟩),
  (24, ⟨false, 1, 24, [.nil], .slice, 53, some (.sl tLink), [], false⟩),
  (26, ⟨true, 2, 48, [.nil, .nil], .struct, 0, some tNetwork, [(0, 23), (1, 24)], false⟩),
  (31, ⟨false, 1, 24, [.nil], .slice, 37, some (.sl IS), [], false⟩),
  (33, ⟨true, 4, 80, [.nil, .nil, .nil, .int .i64 0], .struct, 0, some tState, [(0, 30), (1, 31), (2, 31), (3, 3)], false⟩),
  (37, ⟨false, 1, 24, [.nil], .slice, 3, some IS, [], false⟩),
  (53, ⟨true, 5, 56, [.int .i64 0, .int .i64 0, .int .i64 0, .int .i64 0, .nil], .struct, 0, some tLink, [(0, 3), (1, 3), (2, 3), (3, 3), (4, 37)], false⟩)]
theorem tys17_ok : (tys17.all fun p => tokB Try.prog p.1 p.2) = true := by kernel_rfl

def iIsJammed.las : List (Nat × LA) := []
noncomputable def iIsJammed.f (n : Nat) (a0 : Network) (a1 : State) (a2 : List Int) : Option (Bool × Unit) := (iBounded.f n a0 a1 a2).bind fun r1 => br (!r1.1) (some (false, ())) ((boundedRun.f n a0.1 a0.2 a1.1 a1.2.1 a1.2.2.1 a1.2.2.2 a2).bind fun r2 => (stuck.f n ((r2.1, r2.2.1), ((r2.2.2.2.2.1, (r2.2.2.2.2.2.1, (r2.2.2.2.2.2.2.1, r2.2.2.1))), (r2.2.2.2.2.2.2.2.1, (r2.2.2.2.2.2.2.2.2.1, r2.2.2.2.1))))).bind fun r3 => br r3.1 ((quiet.f n ((r2.1, r2.2.1), ((r2.2.2.2.2.1, (r2.2.2.2.2.2.1, (r2.2.2.2.2.2.2.1, r2.2.2.1))), (r2.2.2.2.2.2.2.2.1, (r2.2.2.2.2.2.2.2.2.1, r2.2.2.2.1))))).bind fun r4 => some ((!r4.1), ())) (some (false, ())))
noncomputable def iIsJammed.mng (n : Nat) : Mng := ⟨[.val tNetwork, .val tState, .val IS], [.val .bool], fun x => iIsJammed.f n x.1 x.2.1 x.2.2.1⟩
noncomputable def iIsJammed.cfg (n : Nat) : Cfg := ⟨tys17, [(61, iBounded.mng n), (88, stuck.mng n), (70, quiet.mng n)], [(62, boundedRun.mng n)], []⟩
theorem iIsJammed.eq : ∀ (n : Nat) (a0 : Network) (a1 : State) (a2 : List Int), runF (iIsJammed.cfg n) n Try.f32 (annOf Try.f32 iIsJammed.las) [.val tNetwork, .val tState, .val IS] [.val .bool] (a0, (a1, (a2, ()))) = iIsJammed.f n a0 a1 a2 := by
  intros
  kernel_rfl
theorem iIsJammed.gof : GoF Try.prog 32 := ⟨_, Try.func32, by kernel_rfl, by kernel_rfl⟩
theorem iIsJammed.sound (n : Nat) : Sound Try.prog 32 (iIsJammed.mng n) := runF_sound (fn := Try.f32) (m := iIsJammed.mng n) (c := iIsJammed.cfg n) (regOK mixed (opOK (.of (c := iIsJammed.cfg n) ⟨⟨iBounded.sound n, iBounded.gof⟩, ⟨⟨stuck.sound n, stuck.gof⟩, ⟨⟨quiet.sound n, quiet.gof⟩, trivial⟩⟩⟩) (.of (c := iIsJammed.cfg n) ⟨⟨boundedRun.sound n, boundedRun.gof⟩, trivial⟩)) (tysOK tys17_ok)) (tysOK tys17_ok) Try.func32 (fun x => (iIsJammed.eq n x.1 x.2.1 x.2.2.1).symm)

def sIsQuiet.las : List (Nat × LA) := []
noncomputable def sIsQuiet.f (n : Nat) (a0 : Network) (a1 : State) : Option (Bool × Unit) := (sIsState.f n a0 a1).bind fun r1 => br r1.1 ((sL5First.f n a0 a1).bind fun r2 => some ((decide (r2.1 < 0)), ())) (some (false, ()))
noncomputable def sIsQuiet.mng (n : Nat) : Mng := ⟨[.val tNetwork, .val tState], [.val .bool], fun x => sIsQuiet.f n x.1 x.2.1⟩
noncomputable def sIsQuiet.cfg (n : Nat) : Cfg := ⟨tys17, [(31, sIsState.mng n), (78, sL5First.mng n)], [], []⟩
theorem sIsQuiet.eq : ∀ (n : Nat) (a0 : Network) (a1 : State), runF (sIsQuiet.cfg n) n Try.f33 (annOf Try.f33 sIsQuiet.las) [.val tNetwork, .val tState] [.val .bool] (a0, (a1, ())) = sIsQuiet.f n a0 a1 := by
  intros
  kernel_rfl
theorem sIsQuiet.gof : GoF Try.prog 33 := ⟨_, Try.func33, by kernel_rfl, by kernel_rfl⟩
theorem sIsQuiet.sound (n : Nat) : Sound Try.prog 33 (sIsQuiet.mng n) := runF_sound (fn := Try.f33) (m := sIsQuiet.mng n) (c := sIsQuiet.cfg n) (regOK mixed (opOK (.of (c := sIsQuiet.cfg n) ⟨⟨sIsState.sound n, sIsState.gof⟩, ⟨⟨sL5First.sound n, sL5First.gof⟩, trivial⟩⟩) (.of (c := sIsQuiet.cfg n) trivial)) (tysOK tys17_ok)) (tysOK tys17_ok) Try.func33 (fun x => (sIsQuiet.eq n x.1 x.2.1).symm)

def law.las : List (Nat × LA) := [(8, ⟨[(55, .bool)], [], [3, 4, 5, 7, 8, 9], []⟩), (13, ⟨[(59, .int .i64)], [], [4, 5, 7, 8, 9, 57, 58], []⟩)]
noncomputable def law.f (n : Nat) (a0 : List Int) : Option (Bool × Unit) := br (decide (1048576 < (a0.length : Int))) (some (true, ())) ((makeNetwork.f n a0 6).bind fun r1 => (fresh.f n a0 3).bind fun r2 => (makeCaps.f n r2.1 r1.1).bind fun r3 => (sLeast.f n r1.1).bind fun r4 => (sStartState.f n r1.1).bind fun r5 => (iRunBounded.f n r1.1 r5.1 r3.1 5000).bind fun r6 => cut (α := (Bool × Unit)) ((sIsState.f n r1.1 r6.1).bind fun r11 => br (!r11.1) (some (.inr (true, ()))) ((iIsJammed.f n r1.1 r6.1 r3.1).bind fun r12 => br (!decide ((decide (r6.2.1 = 2)) = r12.1)) (some (.inr (true, ()))) ((sIsQuiet.f n r1.1 r6.1).bind fun r13 => some (.inr ((!decide ((decide (r6.2.1 = 1)) = r13.1)), ()))))) fun y10 => br y10.1 (some (false, ())) (iter (α := (Int × Unit)) n (fun ih31 x30 => br (decide (x30.1 < (r1.1.2.length : Int))) (chk (0 ≤ x30.1 ∧ x30.1 < (r1.1.2.length : Int)) (let v32 := (r1.1.2.getD x30.1.toNat zLink); br (decide (0 ≤ v32.1)) (br (decide (0 ≤ v32.2.2.1)) (chk (0 ≤ x30.1 ∧ x30.1 < (r6.1.2.1.length : Int)) (chk (0 ≤ x30.1 ∧ x30.1 < (r3.1.length : Int)) (let v33 := (r3.1.getD x30.1.toNat 0); br (decide (v33 < ((r6.1.2.1.getD x30.1.toNat []).length : Int))) (some (false, ())) (ih31 ((w64 (x30.1 + 1)), ()))))) (ih31 ((w64 (x30.1 + 1)), ()))) (ih31 ((w64 (x30.1 + 1)), ())))) (br (!r4.2.2.1) (some (true, ())) ((below.f n r6.1.2.2.1 r4.1).bind fun r34 => br r34.1 (br (!decide (r6.2.1 = 1)) (some (true, ())) (br (decide (20000 ≤ r6.1.2.2.2)) (some (true, ())) ((makeEqual.f n r6.1.2.2.1 r4.1).bind fun r35 => some (r35.1, ())))) (some (false, ()))))) (0, ())))
noncomputable def law.mng (n : Nat) : Mng := ⟨[.val (.sl U8)], [.val .bool], fun x => law.f n x.1⟩
noncomputable def law.cfg (n : Nat) : Cfg := ⟨tys17, [(14, makeNetwork.mng n), (23, fresh.mng n), (29, makeCaps.mng n), (30, sLeast.mng n), (18, sStartState.mng n), (17, iRunBounded.mng n), (31, sIsState.mng n), (32, iIsJammed.mng n), (33, sIsQuiet.mng n), (34, below.mng n), (35, makeEqual.mng n)], [], []⟩
theorem law.eq : ∀ (n : Nat) (a0 : List Int), runF (law.cfg n) n Try.f6 (annOf Try.f6 law.las) [.val (.sl U8)] [.val .bool] (a0, ()) = law.f n a0 := by
  intros
  kernel_rfl
theorem law.sound (n : Nat) : Sound Try.prog 6 (law.mng n) := runF_sound (fn := Try.f6) (m := law.mng n) (c := law.cfg n) (regOK mixed (opOK (.of (c := law.cfg n) ⟨⟨makeNetwork.sound n, makeNetwork.gof⟩, ⟨⟨fresh.sound n, fresh.gof⟩, ⟨⟨makeCaps.sound n, makeCaps.gof⟩, ⟨⟨sLeast.sound n, sLeast.gof⟩, ⟨⟨sStartState.sound n, sStartState.gof⟩, ⟨⟨iRunBounded.sound n, iRunBounded.gof⟩, ⟨⟨sIsState.sound n, sIsState.gof⟩, ⟨⟨iIsJammed.sound n, iIsJammed.gof⟩, ⟨⟨sIsQuiet.sound n, sIsQuiet.gof⟩, ⟨⟨below.sound n, below.gof⟩, ⟨⟨makeEqual.sound n, makeEqual.gof⟩, trivial⟩⟩⟩⟩⟩⟩⟩⟩⟩⟩⟩) (.of (c := law.cfg n) trivial)) (tysOK tys17_ok)) (tysOK tys17_ok) Try.func6 (fun x => (law.eq n x.1).symm)
end Go.AmT
