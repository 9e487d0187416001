/- Functions that the law FnOneEnd reaches, each as a plain Lean function, and that each does what that says. No condition. -/
import Derived.Test.YtgepghodhnmhjaaPCpS
namespace Go.AmT
open Go Go.Am Go.Proofs
set_option linter.unusedVariables false
set_option maxRecDepth 100000
def tys11 : List (Nat × TInfo) := [(3, ⟨false, 1, 8, [.int .i64 0], .int .i64, 0, some I, [], false⟩),
  (23, ⟨false, 1, 24, [.nil], .slice, 71, some (.sl tProgram), [], false⟩),
  (26, ⟨true, 2, 48, [.nil, .nil], .struct, 0, some tNetwork, [(0, 23), (1, 24)], false⟩),
  (30, ⟨false, 1, 24, [.nil], .slice, 89, some (.sl tActor), [], false⟩),
  (31, ⟨false, 1, 24, [.nil], .slice, 37, some (.sl IS), [], false⟩),
  (33, ⟨true, 4, 80, [.nil, .nil, .nil, .int .i64 0], .struct, 0, some tState, [(0, 30), (1, 31), (2, 31), (3, 3)], false⟩),
  (85, ⟨true, 9, 200, [.nil, .nil, .nil, .nil, .nil, .int .i64 0, .nil, .nil, .nil], .struct, 0, some tRun, [(0, 26), (2, 33), (6, 31), (7, 31), (8, 37)], false⟩)]
theorem tys11_ok : (tys11.all fun p => tokB Try.prog p.1 p.2) = true := by kernel_rfl

def sRunTurns.las : List (Nat × LA) := [(7, ⟨[(8, .vptr 1000 0), (9, .int .i64)], [(1000, .cells [] [.own 1001 tActor, .own 1002 IS, .own 1003 IS, .int .i64]), (1001, .row true tActor), (1002, .row true IS), (1003, .row true IS)], [2, 3, 6], []⟩), (8, ⟨[(26, .bool)], [], [2, 3, 6, 8, 9], []⟩), (13, ⟨[(8, .vptr 1000 0), (9, .int .i64), (10, .int .i64)], [(1000, .cells [] [.own 1001 tActor, .own 1002 IS, .own 1003 IS, .int .i64]), (1001, .row true tActor), (1002, .row true IS), (1003, .row true IS)], [2, 3, 6], []⟩), (14, ⟨[(36, .bool)], [], [2, 3, 6, 8, 9, 10], []⟩)]
noncomputable def sRunTurns.f (n : Nat) (a0 : Network) (a1 : State) (a2 : Int) : Option (State × (Bool × Unit)) := (sIsState.f n a0 a1).bind fun r1 => br (!r1.1) (some (([], ([], ([], 0))), (false, ()))) ((sL5Copy.f n a1).bind fun r2 => iter (α := (Int × (Int × (List Actor) × (List (List Int)) × (List (List Int)) × Unit))) n (fun ih57 x56 => cut (α := (Bool × Unit)) ((sL5First.f n a0 (x56.2.2.1, (x56.2.2.2.1, (x56.2.2.2.2.1, x56.2.1)))).bind fun r59 => br (decide (0 ≤ r59.1)) (some (.inr ((decide (x56.1 < a2)), ()))) (some (.inr (false, ())))) fun y58 => br y58.1 (iter (α := (Int × (Int × (Int × (List Actor) × (List (List Int)) × (List (List Int)) × Unit)))) n (fun ih61 x60 => cut (α := (Bool × Unit)) (br (decide (x60.2.1 < (a0.1.length : Int))) (some (.inr ((decide (x60.1 < a2)), ()))) (some (.inr (false, ())))) fun y62 => br y62.1 ((sL5Can.f n a0 (x60.2.2.2.1, (x60.2.2.2.2.1, (x60.2.2.2.2.2.1, x60.2.2.1))) x60.2.1).bind fun r63 => br r63.1 ((sL5Step.f n a0.1 a0.2 x60.2.2.1 x60.2.1 x60.2.2.2.1 x60.2.2.2.2.1 x60.2.2.2.2.2.1).bind fun r64 => ih61 ((w64 (x60.1 + 1)), ((w64 (x60.2.1 + 1)), (r64.1, (r64.2.1, (r64.2.2.1, (r64.2.2.2.1, ()))))))) (ih61 (x60.1, ((w64 (x60.2.1 + 1)), (x60.2.2.1, (x60.2.2.2.1, (x60.2.2.2.2.1, (x60.2.2.2.2.2.1, ())))))))) (ih57 (x60.1, (x60.2.2.1, (x60.2.2.2.1, (x60.2.2.2.2.1, (x60.2.2.2.2.2.1, ()))))))) (x56.1, (0, (x56.2.1, (x56.2.2.1, (x56.2.2.2.1, (x56.2.2.2.2.1, ()))))))) ((sL5First.f n a0 (x56.2.2.1, (x56.2.2.2.1, (x56.2.2.2.2.1, x56.2.1)))).bind fun r65 => some ((x56.2.2.1, (x56.2.2.2.1, (x56.2.2.2.2.1, x56.2.1))), ((decide (r65.1 < 0)), ())))) (0, (r2.1.2.2.2, (r2.1.1, (r2.1.2.1, (r2.1.2.2.1, ()))))))
noncomputable def sRunTurns.mng (n : Nat) : Mng := ⟨[.val tNetwork, .val tState, .val I], [.val tState, .val .bool], fun x => sRunTurns.f n x.1 x.2.1 x.2.2.1⟩
noncomputable def sRunTurns.cfg (n : Nat) : Cfg := ⟨tys11, [(31, sIsState.mng n), (77, sL5Copy.mng n), (78, sL5First.mng n), (75, sL5Can.mng n)], [(76, sL5Step.mng n)], []⟩
theorem sRunTurns.eq : ∀ (n : Nat) (a0 : Network) (a1 : State) (a2 : Int), runF (sRunTurns.cfg n) n Try.f24 (annOf Try.f24 sRunTurns.las) [.val tNetwork, .val tState, .val I] [.val tState, .val .bool] (a0, (a1, (a2, ()))) = sRunTurns.f n a0 a1 a2 := by
  intros
  kernel_rfl
theorem sRunTurns.gof : GoF Try.prog 24 := ⟨_, Try.func24, by kernel_rfl, by kernel_rfl⟩
theorem sRunTurns.sound (n : Nat) : Sound Try.prog 24 (sRunTurns.mng n) := runF_sound (fn := Try.f24) (m := sRunTurns.mng n) (c := sRunTurns.cfg n) (regOK mixed (opOK (.of (c := sRunTurns.cfg n) ⟨⟨sIsState.sound n, sIsState.gof⟩, ⟨⟨sL5Copy.sound n, sL5Copy.gof⟩, ⟨⟨sL5First.sound n, sL5First.gof⟩, ⟨⟨sL5Can.sound n, sL5Can.gof⟩, trivial⟩⟩⟩⟩) (.of (c := sRunTurns.cfg n) ⟨⟨sL5Step.sound n, sL5Step.gof⟩, trivial⟩)) (tysOK tys11_ok)) (tysOK tys11_ok) Try.func24 (fun x => (sRunTurns.eq n x.1 x.2.1 x.2.2.1).symm)

def iRunTurns.las : List (Nat × LA) := []
noncomputable def iRunTurns.f (n : Nat) (a0 : Network) (a1 : State) (a2 : Int) : Option (State × (Bool × Unit)) := (iIsState.f n a0 a1).bind fun r1 => br (!r1.1) (some (([], ([], ([], 0))), (false, ()))) ((newRun.f n a0.1 a0.2 a1.1 a1.2.1 a1.2.2.1 a1.2.2.2 (none : Option (List Int))).bind fun r2 => (turns.f n a2 r2.1 r2.2.1 r2.2.2.1 r2.2.2.2.1 r2.2.2.2.2.1 r2.2.2.2.2.2.1 r2.2.2.2.2.2.2.1 r2.2.2.2.2.2.2.2.1 r2.2.2.2.2.2.2.2.2.1).bind fun r3 => (quiet.f n ((r3.1, r3.2.1), ((r3.2.2.2.2.1, (r3.2.2.2.2.2.1, (r3.2.2.2.2.2.2.1, r3.2.2.1))), (r3.2.2.2.2.2.2.2.1, (r3.2.2.2.2.2.2.2.2.1, r3.2.2.2.1))))).bind fun r4 => some ((r3.2.2.2.2.1, (r3.2.2.2.2.2.1, (r3.2.2.2.2.2.2.1, r3.2.2.1))), (r4.1, ())))
noncomputable def iRunTurns.mng (n : Nat) : Mng := ⟨[.val tNetwork, .val tState, .val I], [.val tState, .val .bool], fun x => iRunTurns.f n x.1 x.2.1 x.2.2.1⟩
noncomputable def iRunTurns.cfg (n : Nat) : Cfg := ⟨tys11, [(68, iIsState.mng n), (70, quiet.mng n)], [(69, newRun.mng n), (63, turns.mng n)], []⟩
theorem iRunTurns.eq : ∀ (n : Nat) (a0 : Network) (a1 : State) (a2 : Int), runF (iRunTurns.cfg n) n Try.f20 (annOf Try.f20 iRunTurns.las) [.val tNetwork, .val tState, .val I] [.val tState, .val .bool] (a0, (a1, (a2, ()))) = iRunTurns.f n a0 a1 a2 := by
  intros
  kernel_rfl
theorem iRunTurns.gof : GoF Try.prog 20 := ⟨_, Try.func20, by kernel_rfl, by kernel_rfl⟩
theorem iRunTurns.sound (n : Nat) : Sound Try.prog 20 (iRunTurns.mng n) := runF_sound (fn := Try.f20) (m := iRunTurns.mng n) (c := iRunTurns.cfg n) (regOK mixed (opOK (.of (c := iRunTurns.cfg n) ⟨⟨iIsState.sound n, iIsState.gof⟩, ⟨⟨quiet.sound n, quiet.gof⟩, trivial⟩⟩) (.of (c := iRunTurns.cfg n) ⟨⟨newRun.sound n, newRun.gof⟩, ⟨⟨turns.sound n, turns.gof⟩, trivial⟩⟩)) (tysOK tys11_ok)) (tysOK tys11_ok) Try.func20 (fun x => (iRunTurns.eq n x.1 x.2.1 x.2.2.1).symm)
end Go.AmT
