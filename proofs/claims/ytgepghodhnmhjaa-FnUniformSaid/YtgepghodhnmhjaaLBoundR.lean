/- Functions that the law FnUniform reaches, each as a plain Lean function, and that each does what that says. No condition. -/
import Derived.Test.YtgepghodhnmhjaaPStk
namespace Go.AmT
open Go Go.Am Go.Proofs
set_option linter.unusedVariables false
set_option maxRecDepth 100000
def tys12 : List (Nat × TInfo) := [(3, ⟨false, 1, 8, [.int .i64 0], .int .i64, 0, some I, [], false⟩),
  (23, ⟨false, 1, 24, [.nil], .slice, 71, some (.sl tProgram), [], false⟩),
  (26, ⟨true, 2, 48, [.nil, .nil], .struct, 0, some tNetwork, [(0, 23), (1, 24)], false⟩),
  (30, ⟨false, 1, 24, [.nil], .slice, 89, some (.sl tActor), [], false⟩),
  (31, ⟨false, 1, 24, [.nil], .slice, 37, some (.sl IS), [], false⟩),
  (33, ⟨true, 4, 80, [.nil, .nil, .nil, .int .i64 0], .struct, 0, some tState, [(0, 30), (1, 31), (2, 31), (3, 3)], false⟩),
  (37, ⟨false, 1, 24, [.nil], .slice, 3, some IS, [], false⟩),
  (85, ⟨true, 9, 200, [.nil, .nil, .nil, .nil, .nil, .int .i64 0, .nil, .nil, .nil], .struct, 0, some tRun, [(0, 26), (2, 33), (6, 31), (7, 31), (8, 37)], false⟩)]
theorem tys12_ok : (tys12.all fun p => tokB Try.prog p.1 p.2) = true := by kernel_rfl

def sL6Run.las : List (Nat × LA) := [(3, ⟨[(5, .vptr 1000 0), (10, .int .i64)], [(1000, .cells [] [.own 0 tActor, .own 1 IS, .own 2 IS, .int .i64]), (0, .row true tActor), (1, .row true IS), (2, .row true IS)], [2, 3, 4, 8], []⟩), (4, ⟨[(20, .bool)], [], [2, 3, 4, 5, 8, 10], [0, 1, 2]⟩), (9, ⟨[(5, .vptr 1000 0), (10, .int .i64), (11, .int .i64)], [(1000, .cells [] [.own 0 tActor, .own 1 IS, .own 2 IS, .int .i64]), (0, .row true tActor), (1, .row true IS), (2, .row true IS)], [2, 3, 4, 8], []⟩), (10, ⟨[(30, .bool)], [], [2, 3, 4, 5, 8, 10, 11], [0, 1, 2]⟩)]
def sL6Run.la : LA := ⟨[(0, .agg [.sh tProgram, .sh tLink]), (1, .agg [.own 0 tActor, .own 1 IS, .own 2 IS, .int .i64]), (2, .sh I), (3, .int .i64)], [(0, .row true tActor), (1, .row true IS), (2, .row true IS)], [], []⟩
def sL6Run.lb : LA := ⟨[(0, .agg [.own 0 tActor, .own 1 IS, .own 2 IS, .int .i64]), (1, .int .i64)], [(0, .row true tActor), (1, .row true IS), (2, .row true IS)], [], []⟩
noncomputable def sL6Run.f (n : Nat) (a0 : List Program) (a1 : List Link) (a2 : Int) (a3 : List Int) (a4 : Int) (a5 : List Actor) (a6 : List (List Int)) (a7 : List (List Int)) : Option (Int × (Int × (List Actor) × (List (List Int)) × (List (List Int)) × Unit)) := iter (α := (Int × (Int × (List Actor) × (List (List Int)) × (List (List Int)) × Unit))) n (fun ih58 x57 => cut (α := (Bool × Unit)) ((sL6Some.f n (a0, a1) (x57.2.2.1, (x57.2.2.2.1, (x57.2.2.2.2.1, x57.2.1))) a3).bind fun r60 => br r60.1 (some (.inr ((decide (x57.1 < a4)), ()))) (some (.inr (false, ())))) fun y59 => br y59.1 (iter (α := (Int × (Int × (Int × (List Actor) × (List (List Int)) × (List (List Int)) × Unit)))) n (fun ih62 x61 => cut (α := (Bool × Unit)) (br (decide (x61.2.1 < (a0.length : Int))) (some (.inr ((decide (x61.1 < a4)), ()))) (some (.inr (false, ())))) fun y63 => br y63.1 ((sL6Can.f n (a0, a1) (x61.2.2.2.1, (x61.2.2.2.2.1, (x61.2.2.2.2.2.1, x61.2.2.1))) a3 x61.2.1).bind fun r64 => br r64.1 ((sL5Step.f n a0 a1 x61.2.2.1 x61.2.1 x61.2.2.2.1 x61.2.2.2.2.1 x61.2.2.2.2.2.1).bind fun r65 => ih62 ((w64 (x61.1 + 1)), ((w64 (x61.2.1 + 1)), (r65.1, (r65.2.1, (r65.2.2.1, (r65.2.2.2.1, ()))))))) (ih62 (x61.1, ((w64 (x61.2.1 + 1)), (x61.2.2.1, (x61.2.2.2.1, (x61.2.2.2.2.1, (x61.2.2.2.2.2.1, ())))))))) (ih58 (x61.1, (x61.2.2.1, (x61.2.2.2.1, (x61.2.2.2.2.1, (x61.2.2.2.2.2.1, ()))))))) (x57.1, (0, (x57.2.1, (x57.2.2.1, (x57.2.2.2.1, (x57.2.2.2.2.1, ()))))))) ((sL5First.f n (a0, a1) (x57.2.2.1, (x57.2.2.2.1, (x57.2.2.2.2.1, x57.2.1)))).bind fun r66 => br (decide (r66.1 < 0)) (some (x57.2.1, (1, (x57.2.2.1, (x57.2.2.2.1, (x57.2.2.2.2.1, ())))))) ((sL6Some.f n (a0, a1) (x57.2.2.1, (x57.2.2.2.1, (x57.2.2.2.2.1, x57.2.1))) a3).bind fun r67 => br (!r67.1) (some (x57.2.1, (2, (x57.2.2.1, (x57.2.2.2.1, (x57.2.2.2.2.1, ())))))) (some (x57.2.1, (3, (x57.2.2.1, (x57.2.2.2.1, (x57.2.2.2.2.1, ()))))))))) (0, (a2, (a5, (a6, (a7, ())))))
noncomputable def sL6Run.mng (n : Nat) : LMng := ⟨sL6Run.la, sL6Run.lb, fun x => sL6Run.f n x.1 x.2.1 x.2.2.1 x.2.2.2.1 x.2.2.2.2.1 x.2.2.2.2.2.1 x.2.2.2.2.2.2.1 x.2.2.2.2.2.2.2.1⟩
noncomputable def sL6Run.cfg (n : Nat) : Cfg := ⟨tys12, [(127, sL6Some.mng n), (128, sL6Can.mng n), (78, sL5First.mng n)], [(76, sL5Step.mng n)], []⟩
theorem sL6Run.eq : ∀ (n : Nat) (a0 : List Program) (a1 : List Link) (a2 : Int) (a3 : List Int) (a4 : Int) (a5 : List Actor) (a6 : List (List Int)) (a7 : List (List Int)) (mp : Mp), LMng.run (sL6Run.cfg n) n Try.f59 (annOf Try.f59 sL6Run.las) sL6Run.la sL6Run.lb (a0, (a1, (a2, (a3, (a4, (a5, (a6, (a7, mp)))))))) = sL6Run.f n a0 a1 a2 a3 a4 a5 a6 a7 := by
  intros
  kernel_rfl
theorem sL6Run.gof : GoF Try.prog 59 := ⟨_, Try.func59, by kernel_rfl, by kernel_rfl⟩
theorem sL6Run.sound (n : Nat) : LSound Try.prog 59 (sL6Run.mng n) := runL_sound (fn := Try.f59) (M := sL6Run.mng n) (c := sL6Run.cfg n) (regOK mixed (opOK (.of (c := sL6Run.cfg n) ⟨⟨sL6Some.sound n, sL6Some.gof⟩, ⟨⟨sL6Can.sound n, sL6Can.gof⟩, ⟨⟨sL5First.sound n, sL5First.gof⟩, trivial⟩⟩⟩) (.of (c := sL6Run.cfg n) ⟨⟨sL5Step.sound n, sL5Step.gof⟩, trivial⟩)) (tysOK tys12_ok)) (tysOK tys12_ok) Try.func59 (fun x => (sL6Run.eq n x.1 x.2.1 x.2.2.1 x.2.2.2.1 x.2.2.2.2.1 x.2.2.2.2.2.1 x.2.2.2.2.2.2.1 x.2.2.2.2.2.2.2.1 x.2.2.2.2.2.2.2.2).symm)

def iBound.las : List (Nat × LA) := []
noncomputable def iBound.f (n : Nat) (a0 : Run) : Option (Int × Unit) := (quiet.f n a0).bind fun r1 => br r1.1 (some (1, ())) ((stuck.f n a0).bind fun r2 => br r2.1 (some (2, ())) (some (3, ())))
noncomputable def iBound.mng (n : Nat) : Mng := ⟨[.psh tRun], [.val I], fun x => iBound.f n x.1⟩
noncomputable def iBound.cfg (n : Nat) : Cfg := ⟨tys12, [(70, quiet.mng n), (88, stuck.mng n)], [], []⟩
theorem iBound.eq : ∀ (n : Nat) (a0 : Run), runF (iBound.cfg n) n Try.f65 (annOf Try.f65 iBound.las) [.psh tRun] [.val I] (a0, ()) = iBound.f n a0 := by
  intros
  kernel_rfl
theorem iBound.gof : GoF Try.prog 65 := ⟨_, Try.func65, by kernel_rfl, by kernel_rfl⟩
theorem iBound.sound (n : Nat) : Sound Try.prog 65 (iBound.mng n) := runF_sound (fn := Try.f65) (m := iBound.mng n) (c := iBound.cfg n) (regOK mixed (opOK (.of (c := iBound.cfg n) ⟨⟨quiet.sound n, quiet.gof⟩, ⟨⟨stuck.sound n, stuck.gof⟩, trivial⟩⟩) (.of (c := iBound.cfg n) trivial)) (tysOK tys12_ok)) (tysOK tys12_ok) Try.func65 (fun x => (iBound.eq n x.1).symm)

def iRunBounded.las : List (Nat × LA) := []
noncomputable def iRunBounded.f (n : Nat) (a0 : Network) (a1 : State) (a2 : List Int) (a3 : Int) : Option (State × (Int × Unit)) := (iBounded.f n a0 a1 a2).bind fun r1 => br (!r1.1) (some (([], ([], ([], 0))), (0, ()))) ((boundedRun.f n a0.1 a0.2 a1.1 a1.2.1 a1.2.2.1 a1.2.2.2 a2).bind fun r2 => (turns.f n a3 r2.1 r2.2.1 r2.2.2.1 r2.2.2.2.1 r2.2.2.2.2.1 r2.2.2.2.2.2.1 r2.2.2.2.2.2.2.1 r2.2.2.2.2.2.2.2.1 r2.2.2.2.2.2.2.2.2.1).bind fun r3 => (iBound.f n ((r3.1, r3.2.1), ((r3.2.2.2.2.1, (r3.2.2.2.2.2.1, (r3.2.2.2.2.2.2.1, r3.2.2.1))), (r3.2.2.2.2.2.2.2.1, (r3.2.2.2.2.2.2.2.2.1, r3.2.2.2.1))))).bind fun r4 => some ((r3.2.2.2.2.1, (r3.2.2.2.2.2.1, (r3.2.2.2.2.2.2.1, r3.2.2.1))), (r4.1, ())))
noncomputable def iRunBounded.mng (n : Nat) : Mng := ⟨[.val tNetwork, .val tState, .val IS, .val I], [.val tState, .val I], fun x => iRunBounded.f n x.1 x.2.1 x.2.2.1 x.2.2.2.1⟩
noncomputable def iRunBounded.cfg (n : Nat) : Cfg := ⟨tys12, [(61, iBounded.mng n), (65, iBound.mng n)], [(62, boundedRun.mng n), (63, turns.mng n)], []⟩
theorem iRunBounded.eq : ∀ (n : Nat) (a0 : Network) (a1 : State) (a2 : List Int) (a3 : Int), runF (iRunBounded.cfg n) n Try.f17 (annOf Try.f17 iRunBounded.las) [.val tNetwork, .val tState, .val IS, .val I] [.val tState, .val I] (a0, (a1, (a2, (a3, ())))) = iRunBounded.f n a0 a1 a2 a3 := by
  intros
  kernel_rfl
theorem iRunBounded.gof : GoF Try.prog 17 := ⟨_, Try.func17, by kernel_rfl, by kernel_rfl⟩
theorem iRunBounded.sound (n : Nat) : Sound Try.prog 17 (iRunBounded.mng n) := runF_sound (fn := Try.f17) (m := iRunBounded.mng n) (c := iRunBounded.cfg n) (regOK mixed (opOK (.of (c := iRunBounded.cfg n) ⟨⟨iBounded.sound n, iBounded.gof⟩, ⟨⟨iBound.sound n, iBound.gof⟩, trivial⟩⟩) (.of (c := iRunBounded.cfg n) ⟨⟨boundedRun.sound n, boundedRun.gof⟩, ⟨⟨turns.sound n, turns.gof⟩, trivial⟩⟩)) (tysOK tys12_ok)) (tysOK tys12_ok) Try.func17 (fun x => (iRunBounded.eq n x.1 x.2.1 x.2.2.1 x.2.2.2.1).symm)
end Go.AmT
