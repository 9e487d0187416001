/- Functions that the law FnParks reaches, each as a plain Lean function, and that each does what that says. No condition. -/
import Derived.Test.YtgepghodhnmhjaaPParks0
namespace Go.AmT
open Go Go.Am Go.Proofs
set_option linter.unusedVariables false
set_option maxRecDepth 100000
def tys14 : List (Nat × TInfo) := [(3, ⟨false, 1, 8, [.int .i64 0], .int .i64, 0, some I, [], false⟩),
  (23, ⟨false, 1, 24, [.nil], .slice, 71, some (.sl tProgram), [], false⟩),
  (26, ⟨true, 2, 48, [.nil, .nil], .struct, 0, some tNetwork, [(0, 23), (1, 24)], false⟩),
  (30, ⟨false, 1, 24, [.nil], .slice, 89, some (.sl tActor), [], false⟩),
  (31, ⟨false, 1, 24, [.nil], .slice, 37, some (.sl IS), [], false⟩),
  (33, ⟨true, 4, 80, [.nil, .nil, .nil, .int .i64 0], .struct, 0, some tState, [(0, 30), (1, 31), (2, 31), (3, 3)], false⟩)]
theorem tys14_ok : (tys14.all fun p => tokB Try.prog p.1 p.2) = true := by kernel_rfl

def sRunTurns.las : List (Nat × LA) := [(7, ⟨[(8, .vptr 1000 0), (9, .int .i64)], [(1000, .cells [] [.own 1001 tActor, .own 1002 IS, .own 1003 IS, .int .i64]), (1001, .row true tActor), (1002, .row true IS), (1003, .row true IS)], [2, 3, 6], []⟩), (8, ⟨[(26, .bool)], [], [2, 3, 6, 8, 9], []⟩), (13, ⟨[(8, .vptr 1000 0), (9, .int .i64), (10, .int .i64)], [(1000, .cells [] [.own 1001 tActor, .own 1002 IS, .own 1003 IS, .int .i64]), (1001, .row true tActor), (1002, .row true IS), (1003, .row true IS)], [2, 3, 6], []⟩), (14, ⟨[(36, .bool)], [], [2, 3, 6, 8, 9, 10], []⟩)]
noncomputable def sRunTurns.f (n : Nat) (a0 : Network) (a1 : State) (a2 : Int) : Option (State × (Bool × Unit)) := (sIsState.f n a0 a1).bind fun r1 => br (!r1.1) (some (([], ([], ([], 0))), (false, ()))) ((sL5Copy.f n a1).bind fun r2 => iter (α := (Int × (Int × (List Actor) × (List (List Int)) × (List (List Int)) × Unit))) n (fun ih57 x56 => cut (α := (Bool × Unit)) ((sL5First.f n a0 (x56.2.2.1, (x56.2.2.2.1, (x56.2.2.2.2.1, x56.2.1)))).bind fun r59 => br (decide (0 ≤ r59.1)) (some (.inr ((decide (x56.1 < a2)), ()))) (some (.inr (false, ())))) fun y58 => br y58.1 (iter (α := (Int × (Int × (Int × (List Actor) × (List (List Int)) × (List (List Int)) × Unit)))) n (fun ih61 x60 => cut (α := (Bool × Unit)) (br (decide (x60.2.1 < (a0.1.length : Int))) (some (.inr ((decide (x60.1 < a2)), ()))) (some (.inr (false, ())))) fun y62 => br y62.1 ((sL5Can.f n a0 (x60.2.2.2.1, (x60.2.2.2.2.1, (x60.2.2.2.2.2.1, x60.2.2.1))) x60.2.1).bind fun r63 => br r63.1 ((sL5Step.f n a0.1 a0.2 x60.2.2.1 x60.2.1 x60.2.2.2.1 x60.2.2.2.2.1 x60.2.2.2.2.2.1).bind fun r64 => ih61 ((w64 (x60.1 + 1)), ((w64 (x60.2.1 + 1)), (r64.1, (r64.2.1, (r64.2.2.1, (r64.2.2.2.1, ()))))))) (ih61 (x60.1, ((w64 (x60.2.1 + 1)), (x60.2.2.1, (x60.2.2.2.1, (x60.2.2.2.2.1, (x60.2.2.2.2.2.1, ())))))))) (ih57 (x60.1, (x60.2.2.1, (x60.2.2.2.1, (x60.2.2.2.2.1, (x60.2.2.2.2.2.1, ()))))))) (x56.1, (0, (x56.2.1, (x56.2.2.1, (x56.2.2.2.1, (x56.2.2.2.2.1, ()))))))) ((sL5First.f n a0 (x56.2.2.1, (x56.2.2.2.1, (x56.2.2.2.2.1, x56.2.1)))).bind fun r65 => some ((x56.2.2.1, (x56.2.2.2.1, (x56.2.2.2.2.1, x56.2.1))), ((decide (r65.1 < 0)), ())))) (0, (r2.1.2.2.2, (r2.1.1, (r2.1.2.1, (r2.1.2.2.1, ()))))))
noncomputable def sRunTurns.mng (n : Nat) : Mng := ⟨[.val tNetwork, .val tState, .val I], [.val tState, .val .bool], fun x => sRunTurns.f n x.1 x.2.1 x.2.2.1⟩
noncomputable def sRunTurns.cfg (n : Nat) : Cfg := ⟨tys14, [(31, sIsState.mng n), (77, sL5Copy.mng n), (78, sL5First.mng n), (75, sL5Can.mng n)], [(76, sL5Step.mng n)], []⟩
theorem sRunTurns.eq : ∀ (n : Nat) (a0 : Network) (a1 : State) (a2 : Int), runF (sRunTurns.cfg n) n Try.f24 (annOf Try.f24 sRunTurns.las) [.val tNetwork, .val tState, .val I] [.val tState, .val .bool] (a0, (a1, (a2, ()))) = sRunTurns.f n a0 a1 a2 := by
  intros
  kernel_rfl
theorem sRunTurns.gof : GoF Try.prog 24 := ⟨_, Try.func24, by kernel_rfl, by kernel_rfl⟩
theorem sRunTurns.sound (n : Nat) : Sound Try.prog 24 (sRunTurns.mng n) := runF_sound (fn := Try.f24) (m := sRunTurns.mng n) (c := sRunTurns.cfg n) (regOK mixed (opOK (.of (c := sRunTurns.cfg n) ⟨⟨sIsState.sound n, sIsState.gof⟩, ⟨⟨sL5Copy.sound n, sL5Copy.gof⟩, ⟨⟨sL5First.sound n, sL5First.gof⟩, ⟨⟨sL5Can.sound n, sL5Can.gof⟩, trivial⟩⟩⟩⟩) (.of (c := sRunTurns.cfg n) ⟨⟨sL5Step.sound n, sL5Step.gof⟩, trivial⟩)) (tysOK tys14_ok)) (tysOK tys14_ok) Try.func24 (fun x => (sRunTurns.eq n x.1 x.2.1 x.2.2.1).symm)
end Go.AmT
