/- Functions that the law FnCounted reaches, each as a plain Lean function, and that each does what that says. No condition. -/
import Derived.Test.YtgepghodhnmhjaaPStep
namespace Go.AmT
open Go Go.Am Go.Proofs
set_option linter.unusedVariables false
set_option maxRecDepth 100000
def tys9 : List (Nat × TInfo) := [(3, ⟨false, 1, 8, [.int .i64 0], .int .i64, 0, some I, [], false⟩),
  (23, ⟨false, 1, 24, [.nil], .slice, 71, some (.sl tProgram), [], false⟩),
  (24, ⟨false, 1, 24, [.nil], .slice, 53, some (.sl tLink), [], false⟩),
  (26, ⟨true, 2, 48, [.nil, .nil], .struct, 0, some tNetwork, [(0, 23), (1, 24)], false⟩),
  (30, ⟨false, 1, 24, [.nil], .slice, 89, some (.sl tActor), [], false⟩),
  (31, ⟨false, 1, 24, [.nil], .slice, 37, some (.sl IS), [], false⟩),
  (33, ⟨true, 4, 80, [.nil, .nil, .nil, .int .i64 0], .struct, 0, some tState, [(0, 30), (1, 31), (2, 31), (3, 3)], false⟩),
  (37, ⟨false, 1, 24, [.nil], .slice, 3, some IS, [], false⟩),
  (53, ⟨true, 5, 56, [.int .i64 0, .int .i64 0, .int .i64 0, .int .i64 0, .nil], .struct, 0, some tLink, [(0, 3), (1, 3), (2, 3), (3, 3), (4, 37)], false⟩),
  (71, ⟨true, 3, 40, [.int .i64 0, .int .i64 0, .nil], .struct, 0, some tProgram, [(0, 3), (1, 3), (2, 69)], false⟩),
  (89, ⟨true, 2, 32, [.int .i64 0, .nil], .struct, 0, some tActor, [(0, 3), (1, 37)], false⟩)]
theorem tys9_ok : (tys9.all fun p => tokB Try.prog p.1 p.2) = true := by kernel_rfl

def iNewActor.las : List (Nat × LA) := []
noncomputable def iNewActor.f (n : Nat) (a0 : Program) : Option (Actor × Unit) := (iIsProgram.f n a0).bind fun r1 => br (!r1.1) (some ((0, []), ())) (chk (4 = 4 ∧ 0 ≤ 4 ∧ 4 * (8 : Int) ≤ (maxB : Int)) (some ((0, (List.replicate 4 (0 : Int))), ())))
noncomputable def iNewActor.mng (n : Nat) : Mng := ⟨[.val tProgram], [.val tActor], fun x => iNewActor.f n x.1⟩
noncomputable def iNewActor.cfg (n : Nat) : Cfg := ⟨tys9, [(125, iIsProgram.mng n)], [], []⟩
theorem iNewActor.eq : ∀ (n : Nat) (a0 : Program), runF (iNewActor.cfg n) n Try.f119 (annOf Try.f119 iNewActor.las) [.val tProgram] [.val tActor] (a0, ()) = iNewActor.f n a0 := by
  intros
  kernel_rfl
theorem iNewActor.gof : GoF Try.prog 119 := ⟨_, Try.func119, by kernel_rfl, by kernel_rfl⟩
theorem iNewActor.sound (n : Nat) : Sound Try.prog 119 (iNewActor.mng n) := runF_sound (fn := Try.f119) (m := iNewActor.mng n) (c := iNewActor.cfg n) (regOK mixed (opOK (.of (c := iNewActor.cfg n) ⟨⟨iIsProgram.sound n, iIsProgram.gof⟩, trivial⟩) (.of (c := iNewActor.cfg n) trivial)) (tysOK tys9_ok)) (tysOK tys9_ok) Try.func119 (fun x => (iNewActor.eq n x.1).symm)

def iStartState.las : List (Nat × LA) := [(7, ⟨[(3, .vptr 1000 0), (16, .int .i64)], [(1000, .cells [] [.own 1001 tActor, .con (.nil), .con (.nil), .int .i64]), (1001, .row true tActor)], [1, 2, 14, 15], []⟩), (16, ⟨[(3, .vptr 1000 0), (31, .int .i64)], [(1000, .cells [] [.own 1001 tActor, .own 1002 IS, .own 1003 IS, .int .i64]), (1001, .row true tActor), (1002, .row true IS), (1003, .row true IS)], [2, 29, 30], []⟩)]
noncomputable def iStartState.f (n : Nat) (a0 : Network) : Option (State × Unit) := (iIsNetwork.f n a0).bind fun r1 => br (!r1.1) (some (([], ([], ([], 0))), ())) (iter (α := (Int × (Int × (List Actor) × Unit))) n (fun ih26 x25 => br (decide (x25.1 < (a0.1.length : Int))) (chk (0 ≤ x25.1 ∧ x25.1 < (a0.1.length : Int)) (let v27 := (a0.1.getD x25.1.toNat zProgram); (iNewActor.f n v27).bind fun r28 => chk ((x25.2.2.1.length + ([r28.1] : List Actor).length) * 32 ≤ maxB) (ih26 ((w64 (x25.1 + 1)), (x25.2.1, ((x25.2.2.1 ++ [r28.1]), ())))))) (iter (α := (Int × (Int × (List Actor) × (List (List Int)) × (List (List Int)) × Unit))) n (fun ih50 x49 => br (decide (x49.1 < (a0.2.length : Int))) (chk (0 ≤ x49.1 ∧ x49.1 < (a0.2.length : Int)) (let v51 := (a0.2.getD x49.1.toNat zLink); (cloneI.f n v51.2.2.2.2).bind fun r52 => chk ((x49.2.2.2.1.length + ([r52.1] : List (List Int)).length) * 24 ≤ maxB) ((cloneI.f n v51.2.2.2.2).bind fun r53 => chk ((x49.2.2.2.2.1.length + ([r53.1] : List (List Int)).length) * 24 ≤ maxB) (ih50 ((w64 (x49.1 + 1)), (x49.2.1, (x49.2.2.1, ((x49.2.2.2.1 ++ [r52.1]), ((x49.2.2.2.2.1 ++ [r53.1]), ()))))))))) (some ((x49.2.2.1, (x49.2.2.2.1, (x49.2.2.2.2.1, x49.2.1))), ()))) (0, (x25.2.1, (x25.2.2.1, ([], ([], ()))))))) (0, (0, ([], ()))))
noncomputable def iStartState.mng (n : Nat) : Mng := ⟨[.val tNetwork], [.val tState], fun x => iStartState.f n x.1⟩
noncomputable def iStartState.cfg (n : Nat) : Cfg := ⟨tys9, [(57, iIsNetwork.mng n), (119, iNewActor.mng n), (91, cloneI.mng n)], [], []⟩
theorem iStartState.eq : ∀ (n : Nat) (a0 : Network), runF (iStartState.cfg n) n Try.f53 (annOf Try.f53 iStartState.las) [.val tNetwork] [.val tState] (a0, ()) = iStartState.f n a0 := by
  intros
  kernel_rfl
theorem iStartState.gof : GoF Try.prog 53 := ⟨_, Try.func53, by kernel_rfl, by kernel_rfl⟩
theorem iStartState.sound (n : Nat) : Sound Try.prog 53 (iStartState.mng n) := runF_sound (fn := Try.f53) (m := iStartState.mng n) (c := iStartState.cfg n) (regOK mixed (opOK (.of (c := iStartState.cfg n) ⟨⟨iIsNetwork.sound n, iIsNetwork.gof⟩, ⟨⟨iNewActor.sound n, iNewActor.gof⟩, ⟨⟨cloneI.sound n, cloneI.gof⟩, trivial⟩⟩⟩) (.of (c := iStartState.cfg n) trivial)) (tysOK tys9_ok)) (tysOK tys9_ok) Try.func53 (fun x => (iStartState.eq n x.1).symm)
end Go.AmT
