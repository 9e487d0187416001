/- Functions that the law FnParks reaches, each as a plain Lean function, and that each does what that says. No condition. -/
import Derived.Test.YtgepghodhnmhjaaPBoundR
namespace Go.AmT
open Go Go.Am Go.Proofs
set_option linter.unusedVariables false
set_option maxRecDepth 100000
def tys13 : List (Nat × TInfo) := [(3, ⟨false, 1, 8, [.int .i64 0], .int .i64, 0, some I, [], false⟩),
  (26, ⟨true, 2, 48, [.nil, .nil], .struct, 0, some tNetwork, [(0, 23), (1, 24)], false⟩),
  (30, ⟨false, 1, 24, [.nil], .slice, 89, some (.sl tActor), [], false⟩),
  (31, ⟨false, 1, 24, [.nil], .slice, 37, some (.sl IS), [], false⟩),
  (33, ⟨true, 4, 80, [.nil, .nil, .nil, .int .i64 0], .struct, 0, some tState, [(0, 30), (1, 31), (2, 31), (3, 3)], false⟩)]
theorem tys13_ok : (tys13.all fun p => tokB Try.prog p.1 p.2) = true := by kernel_rfl

def iRunParks.las : List (Nat × LA) := [(6, ⟨[(5, .vptr 1000 0), (12, .own 1004 I)], [(1000, .cells [] [.own 1001 tActor, .own 1002 IS, .own 1003 IS, .int .i64]), (1001, .row true tActor), (1002, .row true IS), (1003, .row true IS), (1004, .row true I)], [3, 4, 8, 11], []⟩), (11, ⟨[(55, .bool)], [], [3, 4, 5, 8, 11, 12, 14, 15], []⟩), (1000006, ⟨[], [], [], []⟩), (2000011, ⟨[(55, .bool)], [], [3, 4, 5, 8, 11, 12, 14, 15], []⟩)]
noncomputable def iRunParks.f (n : Nat) (a0 : Network) (a1 : State) (a2 : List Int) (a3 : Int) : Option (State × (List Int) × (Int × Unit)) := (iBounded.f n a0 a1 a2).bind fun r1 => br (!r1.1) (some (([], ([], ([], 0))), ([], (0, ())))) ((cloneI.f n a2).bind fun r2 => (iRunBounded.f n a0 a1 r2.1 (w64 (a3 - (w64 (a1.2.2.2 - a1.2.2.2))))).bind fun r3 => (iRaise.f n a0 r3.1 r2.1).bind fun r4 => cut (α := (Bool × Unit)) (br (!decide (r3.2.1 = 2)) (some (.inr (true, ()))) (some (.inr ((!r4.2.2.1), ())))) fun y5 => br y5.1 (some (r3.1, (r2.1, (r3.2.1, ())))) (iter (α := (Int × (List Actor) × (List (List Int)) × (List (List Int)) × (List Int) × Unit)) n (fun ih20 x19 => (iRunBounded.f n a0 (x19.2.1, (x19.2.2.1, (x19.2.2.2.1, x19.1))) x19.2.2.2.2.1 (w64 (a3 - (w64 (x19.1 - a1.2.2.2))))).bind fun r21 => (iRaise.f n a0 r21.1 x19.2.2.2.2.1).bind fun r22 => cut (α := (Bool × Unit)) (br (!decide (r21.2.1 = 2)) (some (.inr (true, ()))) (some (.inr ((!r22.2.2.1), ())))) fun y23 => br y23.1 (some (r21.1, (x19.2.2.2.2.1, (r21.2.1, ())))) (ih20 (r21.1.2.2.2, (r21.1.1, (r21.1.2.1, (r21.1.2.2.1, (r22.1, ()))))))) (r3.1.2.2.2, (r3.1.1, (r3.1.2.1, (r3.1.2.2.1, (r4.1, ())))))))
noncomputable def iRunParks.mng (n : Nat) : Mng := ⟨[.val tNetwork, .val tState, .val IS, .val I], [.val tState, .val IS, .val I], fun x => iRunParks.f n x.1 x.2.1 x.2.2.1 x.2.2.2.1⟩
noncomputable def iRunParks.cfg (n : Nat) : Cfg := ⟨tys13, [(61, iBounded.mng n), (91, cloneI.mng n), (17, iRunBounded.mng n), (40, iRaise.mng n)], [], []⟩
theorem iRunParks.eq : ∀ (n : Nat) (a0 : Network) (a1 : State) (a2 : List Int) (a3 : Int), runF (iRunParks.cfg n) n Try.f38 (annOf Try.f38 iRunParks.las) [.val tNetwork, .val tState, .val IS, .val I] [.val tState, .val IS, .val I] (a0, (a1, (a2, (a3, ())))) = iRunParks.f n a0 a1 a2 a3 := by
  intros
  kernel_rfl
theorem iRunParks.gof : GoF Try.prog 38 := ⟨_, Try.func38, by kernel_rfl, by kernel_rfl⟩
theorem iRunParks.sound (n : Nat) : Sound Try.prog 38 (iRunParks.mng n) := runF_sound (fn := Try.f38) (m := iRunParks.mng n) (c := iRunParks.cfg n) (regOK mixed (opOK (.of (c := iRunParks.cfg n) ⟨⟨iBounded.sound n, iBounded.gof⟩, ⟨⟨cloneI.sound n, cloneI.gof⟩, ⟨⟨iRunBounded.sound n, iRunBounded.gof⟩, ⟨⟨iRaise.sound n, iRaise.gof⟩, trivial⟩⟩⟩⟩) (.of (c := iRunParks.cfg n) trivial)) (tysOK tys13_ok)) (tysOK tys13_ok) Try.func38 (fun x => (iRunParks.eq n x.1 x.2.1 x.2.2.1 x.2.2.2.1).symm)
end Go.AmT
