/- Functions that the law FnExactRunParks reaches, each as a plain Lean function, and that each does what that says. No condition. -/
import Derived.Test.YtcipidfgblbeiaaGreatPBoundR
namespace Go.AmT
open Go Go.Am Go.Proofs
set_option linter.unusedVariables false
set_option maxRecDepth 100000
def tys12 : List (Nat × TInfo) := [(3, ⟨false, 1, 8, [.int .i64 0], .int .i64, 0, some I, [], false⟩),
  (27, ⟨false, 1, 24, [.nil], .slice, 30, some (.sl IS), [], false⟩),
  (38, ⟨true, 2, 48, [.nil, .nil], .struct, 0, some tNetwork, [(0, 35), (1, 36)], false⟩),
  (40, ⟨false, 1, 24, [.nil], .slice, 106, some (.sl tActor), [], false⟩),
  (42, ⟨true, 4, 80, [.nil, .nil, .nil, .int .i64 0], .struct, 0, some tState, [(0, 40), (1, 27), (2, 27), (3, 3)], false⟩)]
theorem tys12_ok : (tys12.all fun p => tokB Tryz.prog p.1 p.2) = true := by kernel_rfl

def sRunParks.las : List (Nat × LA) := [(8, ⟨[(11, .vptr 1000 0), (12, .own 1004 I)], [(1000, .cells [] [.own 1001 tActor, .own 1002 IS, .own 1003 IS, .int .i64]), (1001, .row true tActor), (1002, .row true IS), (1003, .row true IS), (1004, .row true I)], [3, 4, 5, 8], []⟩)]
noncomputable def sRunParks.f (n : Nat) (a0 : Network) (a1 : State) (a2 : List Int) (a3 : Int) : Option (State × (List Int) × (Int × Unit)) := (sL6Valid.f n a0 a1 a2).bind fun r1 => br (!r1.1) (some (([], ([], ([], 0))), ([], (0, ())))) ((sL5Copy.f n a1).bind fun r2 => (sL1Copy.f n a2).bind fun r3 => iter (α := (Int × (List Actor) × (List (List Int)) × (List (List Int)) × (List Int) × Unit)) n (fun ih20 x19 => (sL6Run.f n a0.1 a0.2 x19.1 x19.2.2.2.2.1 (w64 ((w64 (a1.2.2.2 + (max 0 (min a3 20000)))) - x19.1)) x19.2.1 x19.2.2.1 x19.2.2.2.1).bind fun r21 => br (!decide (r21.2.1 = 2)) (some ((r21.2.2.1, (r21.2.2.2.1, (r21.2.2.2.2.1, r21.1))), (x19.2.2.2.2.1, (r21.2.1, ())))) ((sL6Raise.f n a0 (r21.2.2.1, (r21.2.2.2.1, (r21.2.2.2.2.1, r21.1))) x19.2.2.2.2.1).bind fun r22 => br (!r22.2.2.1) (some ((r21.2.2.1, (r21.2.2.2.1, (r21.2.2.2.2.1, r21.1))), (x19.2.2.2.2.1, (r21.2.1, ())))) (ih20 (r21.1, (r21.2.2.1, (r21.2.2.2.1, (r21.2.2.2.2.1, (r22.1, ())))))))) (r2.1.2.2.2, (r2.1.1, (r2.1.2.1, (r2.1.2.2.1, (r3.1, ()))))))
noncomputable def sRunParks.mng (n : Nat) : Mng := ⟨[.val tNetwork, .val tState, .val IS, .val I], [.val tState, .val IS, .val I], fun x => sRunParks.f n x.1 x.2.1 x.2.2.1 x.2.2.2.1⟩
noncomputable def sRunParks.cfg (n : Nat) : Cfg := ⟨tys12, [(79, sL6Valid.mng n), (62, sL5Copy.mng n), (80, sL1Copy.mng n), (42, sL6Raise.mng n)], [(81, sL6Run.mng n)], []⟩
theorem sRunParks.eq : ∀ (n : Nat) (a0 : Network) (a1 : State) (a2 : List Int) (a3 : Int), runF (sRunParks.cfg n) n Tryz.f33 (annOf Tryz.f33 sRunParks.las) [.val tNetwork, .val tState, .val IS, .val I] [.val tState, .val IS, .val I] (a0, (a1, (a2, (a3, ())))) = sRunParks.f n a0 a1 a2 a3 := by
  intros
  kernel_rfl
theorem sRunParks.gof : GoF Tryz.prog 33 := ⟨_, Tryz.func33, by kernel_rfl, by kernel_rfl⟩
theorem sRunParks.sound (n : Nat) : Sound Tryz.prog 33 (sRunParks.mng n) := runF_sound (fn := Tryz.f33) (m := sRunParks.mng n) (c := sRunParks.cfg n) (regOK mixed (opOK (.of (c := sRunParks.cfg n) ⟨⟨sL6Valid.sound n, sL6Valid.gof⟩, ⟨⟨sL5Copy.sound n, sL5Copy.gof⟩, ⟨⟨sL1Copy.sound n, sL1Copy.gof⟩, ⟨⟨sL6Raise.sound n, sL6Raise.gof⟩, trivial⟩⟩⟩⟩) (.of (c := sRunParks.cfg n) ⟨⟨sL6Run.sound n, sL6Run.gof⟩, trivial⟩)) (tysOK tys12_ok)) (tysOK tys12_ok) Tryz.func33 (fun x => (sRunParks.eq n x.1 x.2.1 x.2.2.1 x.2.2.2.1).symm)

def iRunParks.las : List (Nat × LA) := [(6, ⟨[(5, .vptr 1000 0), (12, .own 1004 I)], [(1000, .cells [] [.own 1001 tActor, .own 1002 IS, .own 1003 IS, .int .i64]), (1001, .row true tActor), (1002, .row true IS), (1003, .row true IS), (1004, .row true I)], [3, 4, 8, 11], []⟩), (11, ⟨[(55, .bool)], [], [3, 4, 5, 8, 11, 12, 14, 15], []⟩), (1000006, ⟨[], [], [], []⟩), (2000011, ⟨[(55, .bool)], [], [3, 4, 5, 8, 11, 12, 14, 15], []⟩)]
noncomputable def iRunParks.f (n : Nat) (a0 : Network) (a1 : State) (a2 : List Int) (a3 : Int) : Option (State × (List Int) × (Int × Unit)) := (iBounded.f n a0 a1 a2).bind fun r1 => br (!r1.1) (some (([], ([], ([], 0))), ([], (0, ())))) ((cloneI.f n a2).bind fun r2 => (iRunBounded.f n a0 a1 r2.1 (w64 (a3 - (w64 (a1.2.2.2 - a1.2.2.2))))).bind fun r3 => (iRaise.f n a0 r3.1 r2.1).bind fun r4 => cut (α := (Bool × Unit)) (br (!decide (r3.2.1 = 2)) (some (.inr (true, ()))) (some (.inr ((!r4.2.2.1), ())))) fun y5 => br y5.1 (some (r3.1, (r2.1, (r3.2.1, ())))) (iter (α := (Int × (List Actor) × (List (List Int)) × (List (List Int)) × (List Int) × Unit)) n (fun ih20 x19 => (iRunBounded.f n a0 (x19.2.1, (x19.2.2.1, (x19.2.2.2.1, x19.1))) x19.2.2.2.2.1 (w64 (a3 - (w64 (x19.1 - a1.2.2.2))))).bind fun r21 => (iRaise.f n a0 r21.1 x19.2.2.2.2.1).bind fun r22 => cut (α := (Bool × Unit)) (br (!decide (r21.2.1 = 2)) (some (.inr (true, ()))) (some (.inr ((!r22.2.2.1), ())))) fun y23 => br y23.1 (some (r21.1, (x19.2.2.2.2.1, (r21.2.1, ())))) (ih20 (r21.1.2.2.2, (r21.1.1, (r21.1.2.1, (r21.1.2.2.1, (r22.1, ()))))))) (r3.1.2.2.2, (r3.1.1, (r3.1.2.1, (r3.1.2.2.1, (r4.1, ())))))))
noncomputable def iRunParks.mng (n : Nat) : Mng := ⟨[.val tNetwork, .val tState, .val IS, .val I], [.val tState, .val IS, .val I], fun x => iRunParks.f n x.1 x.2.1 x.2.2.1 x.2.2.2.1⟩
noncomputable def iRunParks.cfg (n : Nat) : Cfg := ⟨tys12, [(82, iBounded.mng n), (52, cloneI.mng n), (83, iRunBounded.mng n), (16, iRaise.mng n)], [], []⟩
theorem iRunParks.eq : ∀ (n : Nat) (a0 : Network) (a1 : State) (a2 : List Int) (a3 : Int), runF (iRunParks.cfg n) n Tryz.f34 (annOf Tryz.f34 iRunParks.las) [.val tNetwork, .val tState, .val IS, .val I] [.val tState, .val IS, .val I] (a0, (a1, (a2, (a3, ())))) = iRunParks.f n a0 a1 a2 a3 := by
  intros
  kernel_rfl
theorem iRunParks.gof : GoF Tryz.prog 34 := ⟨_, Tryz.func34, by kernel_rfl, by kernel_rfl⟩
theorem iRunParks.sound (n : Nat) : Sound Tryz.prog 34 (iRunParks.mng n) := runF_sound (fn := Tryz.f34) (m := iRunParks.mng n) (c := iRunParks.cfg n) (regOK mixed (opOK (.of (c := iRunParks.cfg n) ⟨⟨iBounded.sound n, iBounded.gof⟩, ⟨⟨cloneI.sound n, cloneI.gof⟩, ⟨⟨iRunBounded.sound n, iRunBounded.gof⟩, ⟨⟨iRaise.sound n, iRaise.gof⟩, trivial⟩⟩⟩⟩) (.of (c := iRunParks.cfg n) trivial)) (tysOK tys12_ok)) (tysOK tys12_ok) Tryz.func34 (fun x => (iRunParks.eq n x.1 x.2.1 x.2.2.1 x.2.2.2.1).symm)
end Go.AmT
