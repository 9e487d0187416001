/- Functions that the law FnAcyclic reaches, each as a plain Lean function, and that each does what that says. No condition. -/
import Derived.Test.YtfcehikkpoeebaaGreatPStep
import Derived.Test.YtfcehikkpoeebaaGreatPTurns
import Derived.Test.YtfcehikkpoeebaaGreatPBnd
namespace Go.AmT
open Go Go.Am Go.Proofs
set_option linter.unusedVariables false
set_option maxRecDepth 100000
def tys8 : List (Nat × TInfo) := [(3, ⟨false, 1, 8, [.int .i64 0], .int .i64, 0, some I, [], false⟩),
  (23, ⟨false, 1, 24, [.nil], .slice, 35, some (.sl tProgram), [], false⟩),
  (26, ⟨true, 2, 48, [.nil, .nil], .struct, 0, some tNetwork, [(0, 23), (1, 24)], false⟩),
  (73, ⟨true, 9, 200, [.nil, .nil, .nil, .nil, .nil, .int .i64 0, .nil, .nil, .nil], .struct, 0, some tRun, [(0, 26), (2, 45), (6, 29), (7, 29), (8, 40)], false⟩)]
theorem tys8_ok : (tys8.all fun p => tokB Tryz.prog p.1 p.2) = true := by kernel_rfl

def nothing.las : List (Nat × LA) := []
def nothing.la : LA := ⟨[], [], [], []⟩
def nothing.lb : LA := ⟨[], [], [], []⟩
noncomputable def nothing.f (n : Nat)  : Option (Unit) := some ()
noncomputable def nothing.mng (n : Nat) : LMng := ⟨nothing.la, nothing.lb, fun x => nothing.f n ⟩
noncomputable def nothing.cfg (n : Nat) : Cfg := ⟨tys8, [], [], []⟩
theorem nothing.eq : ∀ (n : Nat)  (mp : Mp), LMng.run (nothing.cfg n) n Tryz.f35 (annOf Tryz.f35 nothing.las) nothing.la nothing.lb mp = nothing.f n  := by
  intros
  kernel_rfl
theorem nothing.gof : GoF Tryz.prog 35 := ⟨_, Tryz.func35, by kernel_rfl, by kernel_rfl⟩
theorem nothing.sound (n : Nat) : LSound Tryz.prog 35 (nothing.mng n) := runL_sound (fn := Tryz.f35) (M := nothing.mng n) (c := nothing.cfg n) (regOK mixed (opOK (.of (c := nothing.cfg n) trivial) (.of (c := nothing.cfg n) trivial)) (tysOK tys8_ok)) (tysOK tys8_ok) Tryz.func35 (fun x => (nothing.eq n  x).symm)

def turns.las : List (Nat × LA) := [(3, ⟨[(0, .vptr 0 0), (6, .int .i64), (7, .bool)], [(0, .cells [true, true, false, false, false, false, false, false, true] [.sh tProgram, .sh tLink, .own 1 tActor, .own 2 IS, .own 3 IS, .int .i64, .own 4 IS, .own 5 IS, .osh I]), (1, .row true tActor), (2, .row true IS), (3, .row true IS), (4, .row true IS), (5, .row true IS)], [1, 2], []⟩), (10, ⟨[(0, .vptr 0 0), (6, .int .i64), (7, .bool), (16, .int .i64)], [(0, .cells [true, true, false, false, false, false, false, false, true] [.sh tProgram, .sh tLink, .own 1 tActor, .own 2 IS, .own 3 IS, .int .i64, .own 4 IS, .own 5 IS, .osh I]), (1, .row true tActor), (2, .row true IS), (3, .row true IS), (4, .row true IS), (5, .row true IS)], [1, 2, 15], []⟩)]
def turns.la : LA := ⟨[(0, .vptr 0 0), (1, .int .i64), (2, .fn 35 [])], [(0, .cells [true, true, false, false, false, false, false, false, true] [.sh tProgram, .sh tLink, .own 1 tActor, .own 2 IS, .own 3 IS, .int .i64, .own 4 IS, .own 5 IS, .osh I]), (1, .row true tActor), (2, .row true IS), (3, .row true IS), (4, .row true IS), (5, .row true IS)], [], []⟩
def turns.lb : LA := ⟨[], [(0, .cells [true, true, false, false, false, false, false, false, true] [.sh tProgram, .sh tLink, .own 1 tActor, .own 2 IS, .own 3 IS, .int .i64, .own 4 IS, .own 5 IS, .osh I]), (1, .row true tActor), (2, .row true IS), (3, .row true IS), (4, .row true IS), (5, .row true IS)], [], []⟩
noncomputable def turns.f (n : Nat) (a0 : Int) (a1 : List Program) (a2 : List Link) (a3 : Int) (a4 : Option (List Int)) (a5 : List Actor) (a6 : List (List Int)) (a7 : List (List Int)) (a8 : List (List Int)) (a9 : List (List Int)) : Option ((List Program) × (List Link) × (Int × (Option (List Int)) × (List Actor) × (List (List Int)) × (List (List Int)) × (List (List Int)) × (List (List Int)) × Unit)) := iter (α := (Int × (Bool × (List Program) × (List Link) × (Int × (Option (List Int)) × (List Actor) × (List (List Int)) × (List (List Int)) × (List (List Int)) × (List (List Int)) × Unit)))) n (fun ih36 x35 => br x35.2.1 (iter (α := (Int × (Bool × (Int × (List Program) × (List Link) × (Int × (Option (List Int)) × (List Actor) × (List (List Int)) × (List (List Int)) × (List (List Int)) × (List (List Int)) × Unit))))) n (fun ih55 x54 => br (decide (x54.2.2.1 < (x35.2.2.1.length : Int))) (br (decide (a0 ≤ x54.1)) (some (x54.2.2.2.1, (x54.2.2.2.2.1, (x54.2.2.2.2.2.1, (x54.2.2.2.2.2.2.1, (x54.2.2.2.2.2.2.2.1, (x54.2.2.2.2.2.2.2.2.1, (x54.2.2.2.2.2.2.2.2.2.1, (x54.2.2.2.2.2.2.2.2.2.2.1, (x54.2.2.2.2.2.2.2.2.2.2.2.1, ())))))))))) ((may.f n ((x54.2.2.2.1, x54.2.2.2.2.1), ((x54.2.2.2.2.2.2.2.1, (x54.2.2.2.2.2.2.2.2.1, (x54.2.2.2.2.2.2.2.2.2.1, x54.2.2.2.2.2.1))), (x54.2.2.2.2.2.2.2.2.2.2.1, (x54.2.2.2.2.2.2.2.2.2.2.2.1, x54.2.2.2.2.2.2.1)))) x54.2.2.1).bind fun r56 => br r56.1 ((runStep.f n x54.2.2.1 x54.2.2.2.1 x54.2.2.2.2.1 x54.2.2.2.2.2.1 x54.2.2.2.2.2.2.1 x54.2.2.2.2.2.2.2.1 x54.2.2.2.2.2.2.2.2.1 x54.2.2.2.2.2.2.2.2.2.1 x54.2.2.2.2.2.2.2.2.2.2.1 x54.2.2.2.2.2.2.2.2.2.2.2.1).bind fun r57 => (nothing.f n ).bind fun r58 => ih55 ((w64 (x54.1 + 1)), (true, ((w64 (x54.2.2.1 + 1)), (r57.1, (r57.2.1, (r57.2.2.1, (r57.2.2.2.1, (r57.2.2.2.2.1, (r57.2.2.2.2.2.1, (r57.2.2.2.2.2.2.1, (r57.2.2.2.2.2.2.2.1, (r57.2.2.2.2.2.2.2.2.1, ()))))))))))))) (ih55 (x54.1, (x54.2.1, ((w64 (x54.2.2.1 + 1)), (x54.2.2.2.1, (x54.2.2.2.2.1, (x54.2.2.2.2.2.1, (x54.2.2.2.2.2.2.1, (x54.2.2.2.2.2.2.2.1, (x54.2.2.2.2.2.2.2.2.1, (x54.2.2.2.2.2.2.2.2.2.1, (x54.2.2.2.2.2.2.2.2.2.2.1, (x54.2.2.2.2.2.2.2.2.2.2.2.1, ()))))))))))))))) (ih36 (x54.1, (x54.2.1, (x54.2.2.2.1, (x54.2.2.2.2.1, (x54.2.2.2.2.2.1, (x54.2.2.2.2.2.2.1, (x54.2.2.2.2.2.2.2.1, (x54.2.2.2.2.2.2.2.2.1, (x54.2.2.2.2.2.2.2.2.2.1, (x54.2.2.2.2.2.2.2.2.2.2.1, (x54.2.2.2.2.2.2.2.2.2.2.2.1, ()))))))))))))) (x35.1, (false, (0, (x35.2.2.1, (x35.2.2.2.1, (x35.2.2.2.2.1, (x35.2.2.2.2.2.1, (x35.2.2.2.2.2.2.1, (x35.2.2.2.2.2.2.2.1, (x35.2.2.2.2.2.2.2.2.1, (x35.2.2.2.2.2.2.2.2.2.1, (x35.2.2.2.2.2.2.2.2.2.2.1, ()))))))))))))) (some (x35.2.2.1, (x35.2.2.2.1, (x35.2.2.2.2.1, (x35.2.2.2.2.2.1, (x35.2.2.2.2.2.2.1, (x35.2.2.2.2.2.2.2.1, (x35.2.2.2.2.2.2.2.2.1, (x35.2.2.2.2.2.2.2.2.2.1, (x35.2.2.2.2.2.2.2.2.2.2.1, ()))))))))))) (0, (true, (a1, (a2, (a3, (a4, (a5, (a6, (a7, (a8, (a9, ())))))))))))
noncomputable def turns.mng (n : Nat) : LMng := ⟨turns.la, turns.lb, fun x => turns.f n x.1 x.2.1 x.2.2.1 x.2.2.2.1 x.2.2.2.2.1 x.2.2.2.2.2.1 x.2.2.2.2.2.2.1 x.2.2.2.2.2.2.2.1 x.2.2.2.2.2.2.2.2.1 x.2.2.2.2.2.2.2.2.2.1⟩
noncomputable def turns.cfg (n : Nat) : Cfg := ⟨tys8, [(65, may.mng n)], [(66, runStep.mng n), (35, nothing.mng n)], []⟩
theorem turns.eq : ∀ (n : Nat) (a0 : Int) (a1 : List Program) (a2 : List Link) (a3 : Int) (a4 : Option (List Int)) (a5 : List Actor) (a6 : List (List Int)) (a7 : List (List Int)) (a8 : List (List Int)) (a9 : List (List Int)) (mp : Mp), LMng.run (turns.cfg n) n Tryz.f34 (annOf Tryz.f34 turns.las) turns.la turns.lb (a0, (a1, (a2, (a3, (a4, (a5, (a6, (a7, (a8, (a9, mp)))))))))) = turns.f n a0 a1 a2 a3 a4 a5 a6 a7 a8 a9 := by
  intros
  kernel_rfl
theorem turns.gof : GoF Tryz.prog 34 := ⟨_, Tryz.func34, by kernel_rfl, by kernel_rfl⟩
theorem turns.sound (n : Nat) : LSound Tryz.prog 34 (turns.mng n) := runL_sound (fn := Tryz.f34) (M := turns.mng n) (c := turns.cfg n) (regOK mixed (opOK (.of (c := turns.cfg n) ⟨⟨may.sound n, may.gof⟩, trivial⟩) (.of (c := turns.cfg n) ⟨⟨runStep.sound n, runStep.gof⟩, ⟨⟨nothing.sound n, nothing.gof⟩, trivial⟩⟩)) (tysOK tys8_ok)) (tysOK tys8_ok) Tryz.func34 (fun x => (turns.eq n x.1 x.2.1 x.2.2.1 x.2.2.2.1 x.2.2.2.2.1 x.2.2.2.2.2.1 x.2.2.2.2.2.2.1 x.2.2.2.2.2.2.2.1 x.2.2.2.2.2.2.2.2.1 x.2.2.2.2.2.2.2.2.2.1 x.2.2.2.2.2.2.2.2.2.2).symm)
end Go.AmT
