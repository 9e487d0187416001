/- Functions that the law FnRates reaches, each as a plain Lean function, and that each does what that says. No condition. -/
import Derived.Test.YtfcehikkpoeebaaPStep
namespace Go.AmT
open Go Go.Am Go.Proofs
set_option linter.unusedVariables false
set_option maxRecDepth 100000
def tys7 : List (Nat × TInfo) := [(3, ⟨false, 1, 8, [.int .i64 0], .int .i64, 0, some I, [], false⟩),
  (27, ⟨false, 1, 24, [.nil], .slice, 49, some (.sl tProgram), [], false⟩),
  (28, ⟨false, 1, 24, [.nil], .slice, 64, some (.sl tLink), [], false⟩),
  (30, ⟨true, 2, 48, [.nil, .nil], .struct, 0, some tNetwork, [(0, 27), (1, 28)], false⟩),
  (33, ⟨false, 1, 24, [.nil], .slice, 3, some IS, [], false⟩),
  (39, ⟨false, 1, 24, [.nil], .slice, 54, some (.sl tActor), [], false⟩),
  (40, ⟨false, 1, 24, [.nil], .slice, 33, some (.sl IS), [], false⟩),
  (42, ⟨true, 4, 80, [.nil, .nil, .nil, .int .i64 0], .struct, 0, some tState, [(0, 39), (1, 40), (2, 40), (3, 3)], false⟩),
  (49, ⟨true, 3, 40, [.int .i64 0, .int .i64 0, .nil], .struct, 0, some tProgram, [(0, 3), (1, 3), (2, 47)], false⟩),
  (54, ⟨true, 2, 32, [.int .i64 0, .nil], .struct, 0, some tActor, [(0, 3), (1, 33)], false⟩),
  (64, ⟨true, 5, 56, [.int .i64 0, .int .i64 0, .int .i64 0, .int .i64 0, .nil], .struct, 0, some tLink, [(0, 3), (1, 3), (2, 3), (3, 3), (4, 33)], false⟩)]
theorem tys7_ok : (tys7.all fun p => tokB Try.prog p.1 p.2) = true := by kernel_rfl

def sNewActor.las : List (Nat × LA) := []
noncomputable def sNewActor.f (n : Nat) (a0 : Program) : Option (Actor × Unit) := (sIsProgram.f n a0).bind fun r1 => br (!r1.1) (some ((0, []), ())) (some ((0, [0, 0, 0, 0]), ()))
noncomputable def sNewActor.mng (n : Nat) : Mng := ⟨[.val tProgram], [.val tActor], fun x => sNewActor.f n x.1⟩
noncomputable def sNewActor.cfg (n : Nat) : Cfg := ⟨tys7, [(27, sIsProgram.mng n)], [], []⟩
theorem sNewActor.eq : ∀ (n : Nat) (a0 : Program), runF (sNewActor.cfg n) n Try.f14 (annOf Try.f14 sNewActor.las) [.val tProgram] [.val tActor] (a0, ()) = sNewActor.f n a0 := by
  intros
  kernel_rfl
theorem sNewActor.gof : GoF Try.prog 14 := ⟨_, Try.func14, by kernel_rfl, by kernel_rfl⟩
theorem sNewActor.sound (n : Nat) : Sound Try.prog 14 (sNewActor.mng n) := runF_sound (fn := Try.f14) (m := sNewActor.mng n) (c := sNewActor.cfg n) (regOK mixed (opOK (.of (c := sNewActor.cfg n) ⟨⟨sIsProgram.sound n, sIsProgram.gof⟩, trivial⟩) (.of (c := sNewActor.cfg n) trivial)) (tysOK tys7_ok)) (tysOK tys7_ok) Try.func14 (fun x => (sNewActor.eq n x.1).symm)

def iNewActor.las : List (Nat × LA) := []
noncomputable def iNewActor.f (n : Nat) (a0 : Program) : Option (Actor × Unit) := (iIsProgram.f n a0).bind fun r1 => br (!r1.1) (some ((0, []), ())) (chk (4 = 4 ∧ 0 ≤ 4 ∧ 4 * (8 : Int) ≤ (maxB : Int)) (some ((0, (List.replicate 4 (0 : Int))), ())))
noncomputable def iNewActor.mng (n : Nat) : Mng := ⟨[.val tProgram], [.val tActor], fun x => iNewActor.f n x.1⟩
noncomputable def iNewActor.cfg (n : Nat) : Cfg := ⟨tys7, [(59, iIsProgram.mng n)], [], []⟩
theorem iNewActor.eq : ∀ (n : Nat) (a0 : Program), runF (iNewActor.cfg n) n Try.f33 (annOf Try.f33 iNewActor.las) [.val tProgram] [.val tActor] (a0, ()) = iNewActor.f n a0 := by
  intros
  kernel_rfl
theorem iNewActor.gof : GoF Try.prog 33 := ⟨_, Try.func33, by kernel_rfl, by kernel_rfl⟩
theorem iNewActor.sound (n : Nat) : Sound Try.prog 33 (iNewActor.mng n) := runF_sound (fn := Try.f33) (m := iNewActor.mng n) (c := iNewActor.cfg n) (regOK mixed (opOK (.of (c := iNewActor.cfg n) ⟨⟨iIsProgram.sound n, iIsProgram.gof⟩, trivial⟩) (.of (c := iNewActor.cfg n) trivial)) (tysOK tys7_ok)) (tysOK tys7_ok) Try.func33 (fun x => (iNewActor.eq n x.1).symm)

def iStartState.las : List (Nat × LA) := [(7, ⟨[(3, .vptr 1000 0), (16, .int .i64)], [(1000, .cells [] [.own 1001 tActor, .con (.nil), .con (.nil), .int .i64]), (1001, .row true tActor)], [1, 2, 14, 15], []⟩), (16, ⟨[(3, .vptr 1000 0), (31, .int .i64)], [(1000, .cells [] [.own 1001 tActor, .own 1002 IS, .own 1003 IS, .int .i64]), (1001, .row true tActor), (1002, .row true IS), (1003, .row true IS)], [2, 29, 30], []⟩)]
noncomputable def iStartState.f (n : Nat) (a0 : Network) : Option (State × Unit) := (iIsNetwork.f n a0).bind fun r1 => br (!r1.1) (some (([], ([], ([], 0))), ())) (iter (α := (Int × (Int × (List Actor) × Unit))) n (fun ih26 x25 => br (decide (x25.1 < (a0.1.length : Int))) (chk (0 ≤ x25.1 ∧ x25.1 < (a0.1.length : Int)) (let v27 := (a0.1.getD x25.1.toNat zProgram); (iNewActor.f n v27).bind fun r28 => chk ((x25.2.2.1.length + ([r28.1] : List Actor).length) * 32 ≤ maxB) (ih26 ((w64 (x25.1 + 1)), (x25.2.1, ((x25.2.2.1 ++ [r28.1]), ())))))) (iter (α := (Int × (Int × (List Actor) × (List (List Int)) × (List (List Int)) × Unit))) n (fun ih50 x49 => br (decide (x49.1 < (a0.2.length : Int))) (chk (0 ≤ x49.1 ∧ x49.1 < (a0.2.length : Int)) (let v51 := (a0.2.getD x49.1.toNat zLink); (cloneI.f n v51.2.2.2.2).bind fun r52 => chk ((x49.2.2.2.1.length + ([r52.1] : List (List Int)).length) * 24 ≤ maxB) ((cloneI.f n v51.2.2.2.2).bind fun r53 => chk ((x49.2.2.2.2.1.length + ([r53.1] : List (List Int)).length) * 24 ≤ maxB) (ih50 ((w64 (x49.1 + 1)), (x49.2.1, (x49.2.2.1, ((x49.2.2.2.1 ++ [r52.1]), ((x49.2.2.2.2.1 ++ [r53.1]), ()))))))))) (some ((x49.2.2.1, (x49.2.2.2.1, (x49.2.2.2.2.1, x49.2.1))), ()))) (0, (x25.2.1, (x25.2.2.1, ([], ([], ()))))))) (0, (0, ([], ()))))
noncomputable def iStartState.mng (n : Nat) : Mng := ⟨[.val tNetwork], [.val tState], fun x => iStartState.f n x.1⟩
noncomputable def iStartState.cfg (n : Nat) : Cfg := ⟨tys7, [(32, iIsNetwork.mng n), (33, iNewActor.mng n), (34, cloneI.mng n)], [], []⟩
theorem iStartState.eq : ∀ (n : Nat) (a0 : Network), runF (iStartState.cfg n) n Try.f9 (annOf Try.f9 iStartState.las) [.val tNetwork] [.val tState] (a0, ()) = iStartState.f n a0 := by
  intros
  kernel_rfl
theorem iStartState.gof : GoF Try.prog 9 := ⟨_, Try.func9, by kernel_rfl, by kernel_rfl⟩
theorem iStartState.sound (n : Nat) : Sound Try.prog 9 (iStartState.mng n) := runF_sound (fn := Try.f9) (m := iStartState.mng n) (c := iStartState.cfg n) (regOK mixed (opOK (.of (c := iStartState.cfg n) ⟨⟨iIsNetwork.sound n, iIsNetwork.gof⟩, ⟨⟨iNewActor.sound n, iNewActor.gof⟩, ⟨⟨cloneI.sound n, cloneI.gof⟩, trivial⟩⟩⟩) (.of (c := iStartState.cfg n) trivial)) (tysOK tys7_ok)) (tysOK tys7_ok) Try.func9 (fun x => (iStartState.eq n x.1).symm)
end Go.AmT
