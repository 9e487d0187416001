/- Functions that the law FnPeaks reaches, each as a plain Lean function, and that each does what that says. No condition. -/
import Derived.Test.YtcipidfgblbeiaaPStep
namespace Go.AmT
open Go Go.Am Go.Proofs
set_option linter.unusedVariables false
set_option maxRecDepth 100000
def tys9 : List (Nat × TInfo) := [(3, ⟨false, 1, 8, [.int .i64 0], .int .i64, 0, some I, [], false⟩),
  (27, ⟨false, 1, 24, [.nil], .slice, 3, some IS, [], false⟩),
  (30, ⟨false, 1, 24, [.nil], .slice, 54, some (.sl tProgram), [], false⟩),
  (31, ⟨false, 1, 24, [.nil], .slice, 62, some (.sl tLink), [], false⟩),
  (33, ⟨true, 2, 48, [.nil, .nil], .struct, 0, some tNetwork, [(0, 30), (1, 31)], false⟩),
  (45, ⟨false, 1, 24, [.nil], .slice, 60, some (.sl tActor), [], false⟩),
  (46, ⟨false, 1, 24, [.nil], .slice, 27, some (.sl IS), [], false⟩),
  (48, ⟨true, 4, 80, [.nil, .nil, .nil, .int .i64 0], .struct, 0, some tState, [(0, 45), (1, 46), (2, 46), (3, 3)], false⟩),
  (54, ⟨true, 3, 40, [.int .i64 0, .int .i64 0, .nil], .struct, 0, some tProgram, [(0, 3), (1, 3), (2, 52)], false⟩),
  (60, ⟨true, 2, 32, [.int .i64 0, .nil], .struct, 0, some tActor, [(0, 3), (1, 27)], false⟩),
  (62, ⟨true, 5, 56, [.int .i64 0, .int .i64 0, .int .i64 0, .int .i64 0, .nil], .struct, 0, some tLink, [(0, 3), (1, 3), (2, 3), (3, 3), (4, 27)], false⟩)]
theorem tys9_ok : (tys9.all fun p => tokB Try.prog p.1 p.2) = true := by kernel_rfl

def sL4Tokens.las : List (Nat × LA) := [(4, ⟨[(3, .own 1000 IS), (10, .int .i64)], [(1000, .row true IS)], [8, 9], []⟩)]
noncomputable def sL4Tokens.f (n : Nat) (a0 : Network) : Option ((List (List Int)) × Unit) := iter (α := (Int × (List (List Int)) × Unit)) n (fun ih7 x6 => br (decide (x6.1 < (a0.2.length : Int))) (chk (0 ≤ x6.1 ∧ x6.1 < (a0.2.length : Int)) (let v8 := (a0.2.getD x6.1.toNat zLink); (sL1Copy.f n v8.2.2.2.2).bind fun r9 => chk ((x6.2.1.length + ([r9.1] : List (List Int)).length) * 24 ≤ maxB) (ih7 ((w64 (x6.1 + 1)), ((x6.2.1 ++ [r9.1]), ()))))) (some (x6.2.1, ()))) (0, ([], ()))
noncomputable def sL4Tokens.mng (n : Nat) : Mng := ⟨[.val tNetwork], [.val (.sl IS)], fun x => sL4Tokens.f n x.1⟩
noncomputable def sL4Tokens.cfg (n : Nat) : Cfg := ⟨tys9, [(91, sL1Copy.mng n)], [], []⟩
theorem sL4Tokens.eq : ∀ (n : Nat) (a0 : Network), runF (sL4Tokens.cfg n) n Try.f74 (annOf Try.f74 sL4Tokens.las) [.val tNetwork] [.val (.sl IS)] (a0, ()) = sL4Tokens.f n a0 := by
  intros
  kernel_rfl
theorem sL4Tokens.gof : GoF Try.prog 74 := ⟨_, Try.func74, by kernel_rfl, by kernel_rfl⟩
theorem sL4Tokens.sound (n : Nat) : Sound Try.prog 74 (sL4Tokens.mng n) := runF_sound (fn := Try.f74) (m := sL4Tokens.mng n) (c := sL4Tokens.cfg n) (regOK mixed (opOK (.of (c := sL4Tokens.cfg n) ⟨⟨sL1Copy.sound n, sL1Copy.gof⟩, trivial⟩) (.of (c := sL4Tokens.cfg n) trivial)) (tysOK tys9_ok)) (tysOK tys9_ok) Try.func74 (fun x => (sL4Tokens.eq n x.1).symm)

def sNewActor.las : List (Nat × LA) := []
noncomputable def sNewActor.f (n : Nat) (a0 : Program) : Option (Actor × Unit) := (sIsProgram.f n a0).bind fun r1 => br (!r1.1) (some ((0, []), ())) (some ((0, [0, 0, 0, 0]), ()))
noncomputable def sNewActor.mng (n : Nat) : Mng := ⟨[.val tProgram], [.val tActor], fun x => sNewActor.f n x.1⟩
noncomputable def sNewActor.cfg (n : Nat) : Cfg := ⟨tys9, [(85, sIsProgram.mng n)], [], []⟩
theorem sNewActor.eq : ∀ (n : Nat) (a0 : Program), runF (sNewActor.cfg n) n Try.f75 (annOf Try.f75 sNewActor.las) [.val tProgram] [.val tActor] (a0, ()) = sNewActor.f n a0 := by
  intros
  kernel_rfl
theorem sNewActor.gof : GoF Try.prog 75 := ⟨_, Try.func75, by kernel_rfl, by kernel_rfl⟩
theorem sNewActor.sound (n : Nat) : Sound Try.prog 75 (sNewActor.mng n) := runF_sound (fn := Try.f75) (m := sNewActor.mng n) (c := sNewActor.cfg n) (regOK mixed (opOK (.of (c := sNewActor.cfg n) ⟨⟨sIsProgram.sound n, sIsProgram.gof⟩, trivial⟩) (.of (c := sNewActor.cfg n) trivial)) (tysOK tys9_ok)) (tysOK tys9_ok) Try.func75 (fun x => (sNewActor.eq n x.1).symm)

def sStartState.las : List (Nat × LA) := [(7, ⟨[(3, .vptr 1000 0), (18, .int .i64)], [(1000, .cells [] [.own 1001 tActor, .own 1002 IS, .own 1003 IS, .int .i64]), (1001, .row true tActor), (1002, .row true IS), (1003, .row true IS)], [2, 16, 17], []⟩)]
noncomputable def sStartState.f (n : Nat) (a0 : Network) : Option (State × Unit) := (sIsNetwork.f n a0).bind fun r1 => br (!r1.1) (some (([], ([], ([], 0))), ())) ((sL4Tokens.f n a0).bind fun r2 => (sL4Tokens.f n a0).bind fun r3 => iter (α := (Int × (Int × (List Actor) × (List (List Int)) × (List (List Int)) × Unit))) n (fun ih24 x23 => br (decide (x23.1 < (a0.1.length : Int))) (chk (0 ≤ x23.1 ∧ x23.1 < (a0.1.length : Int)) (let v25 := (a0.1.getD x23.1.toNat zProgram); (sNewActor.f n v25).bind fun r26 => chk ((x23.2.2.1.length + ([r26.1] : List Actor).length) * 32 ≤ maxB) (ih24 ((w64 (x23.1 + 1)), (x23.2.1, ((x23.2.2.1 ++ [r26.1]), (x23.2.2.2.1, (x23.2.2.2.2.1, ())))))))) (some ((x23.2.2.1, (x23.2.2.2.1, (x23.2.2.2.2.1, x23.2.1))), ()))) (0, (0, ([], (r2.1, (r3.1, ()))))))
noncomputable def sStartState.mng (n : Nat) : Mng := ⟨[.val tNetwork], [.val tState], fun x => sStartState.f n x.1⟩
noncomputable def sStartState.cfg (n : Nat) : Cfg := ⟨tys9, [(38, sIsNetwork.mng n), (74, sL4Tokens.mng n), (75, sNewActor.mng n)], [], []⟩
theorem sStartState.eq : ∀ (n : Nat) (a0 : Network), runF (sStartState.cfg n) n Try.f30 (annOf Try.f30 sStartState.las) [.val tNetwork] [.val tState] (a0, ()) = sStartState.f n a0 := by
  intros
  kernel_rfl
theorem sStartState.gof : GoF Try.prog 30 := ⟨_, Try.func30, by kernel_rfl, by kernel_rfl⟩
theorem sStartState.sound (n : Nat) : Sound Try.prog 30 (sStartState.mng n) := runF_sound (fn := Try.f30) (m := sStartState.mng n) (c := sStartState.cfg n) (regOK mixed (opOK (.of (c := sStartState.cfg n) ⟨⟨sIsNetwork.sound n, sIsNetwork.gof⟩, ⟨⟨sL4Tokens.sound n, sL4Tokens.gof⟩, ⟨⟨sNewActor.sound n, sNewActor.gof⟩, trivial⟩⟩⟩) (.of (c := sStartState.cfg n) trivial)) (tysOK tys9_ok)) (tysOK tys9_ok) Try.func30 (fun x => (sStartState.eq n x.1).symm)

def iNewActor.las : List (Nat × LA) := []
noncomputable def iNewActor.f (n : Nat) (a0 : Program) : Option (Actor × Unit) := (iIsProgram.f n a0).bind fun r1 => br (!r1.1) (some ((0, []), ())) (chk (4 = 4 ∧ 0 ≤ 4 ∧ 4 * (8 : Int) ≤ (maxB : Int)) (some ((0, (List.replicate 4 (0 : Int))), ())))
noncomputable def iNewActor.mng (n : Nat) : Mng := ⟨[.val tProgram], [.val tActor], fun x => iNewActor.f n x.1⟩
noncomputable def iNewActor.cfg (n : Nat) : Cfg := ⟨tys9, [(95, iIsProgram.mng n)], [], []⟩
theorem iNewActor.eq : ∀ (n : Nat) (a0 : Program), runF (iNewActor.cfg n) n Try.f98 (annOf Try.f98 iNewActor.las) [.val tProgram] [.val tActor] (a0, ()) = iNewActor.f n a0 := by
  intros
  kernel_rfl
theorem iNewActor.gof : GoF Try.prog 98 := ⟨_, Try.func98, by kernel_rfl, by kernel_rfl⟩
theorem iNewActor.sound (n : Nat) : Sound Try.prog 98 (iNewActor.mng n) := runF_sound (fn := Try.f98) (m := iNewActor.mng n) (c := iNewActor.cfg n) (regOK mixed (opOK (.of (c := iNewActor.cfg n) ⟨⟨iIsProgram.sound n, iIsProgram.gof⟩, trivial⟩) (.of (c := iNewActor.cfg n) trivial)) (tysOK tys9_ok)) (tysOK tys9_ok) Try.func98 (fun x => (iNewActor.eq n x.1).symm)

def iStartState.las : List (Nat × LA) := [(7, ⟨[(3, .vptr 1000 0), (16, .int .i64)], [(1000, .cells [] [.own 1001 tActor, .con (.nil), .con (.nil), .int .i64]), (1001, .row true tActor)], [1, 2, 14, 15], []⟩), (16, ⟨[(3, .vptr 1000 0), (31, .int .i64)], [(1000, .cells [] [.own 1001 tActor, .own 1002 IS, .own 1003 IS, .int .i64]), (1001, .row true tActor), (1002, .row true IS), (1003, .row true IS)], [2, 29, 30], []⟩)]
noncomputable def iStartState.f (n : Nat) (a0 : Network) : Option (State × Unit) := (iIsNetwork.f n a0).bind fun r1 => br (!r1.1) (some (([], ([], ([], 0))), ())) (iter (α := (Int × (Int × (List Actor) × Unit))) n (fun ih26 x25 => br (decide (x25.1 < (a0.1.length : Int))) (chk (0 ≤ x25.1 ∧ x25.1 < (a0.1.length : Int)) (let v27 := (a0.1.getD x25.1.toNat zProgram); (iNewActor.f n v27).bind fun r28 => chk ((x25.2.2.1.length + ([r28.1] : List Actor).length) * 32 ≤ maxB) (ih26 ((w64 (x25.1 + 1)), (x25.2.1, ((x25.2.2.1 ++ [r28.1]), ())))))) (iter (α := (Int × (Int × (List Actor) × (List (List Int)) × (List (List Int)) × Unit))) n (fun ih50 x49 => br (decide (x49.1 < (a0.2.length : Int))) (chk (0 ≤ x49.1 ∧ x49.1 < (a0.2.length : Int)) (let v51 := (a0.2.getD x49.1.toNat zLink); (cloneI.f n v51.2.2.2.2).bind fun r52 => chk ((x49.2.2.2.1.length + ([r52.1] : List (List Int)).length) * 24 ≤ maxB) ((cloneI.f n v51.2.2.2.2).bind fun r53 => chk ((x49.2.2.2.2.1.length + ([r53.1] : List (List Int)).length) * 24 ≤ maxB) (ih50 ((w64 (x49.1 + 1)), (x49.2.1, (x49.2.2.1, ((x49.2.2.2.1 ++ [r52.1]), ((x49.2.2.2.2.1 ++ [r53.1]), ()))))))))) (some ((x49.2.2.1, (x49.2.2.2.1, (x49.2.2.2.2.1, x49.2.1))), ()))) (0, (x25.2.1, (x25.2.2.1, ([], ([], ()))))))) (0, (0, ([], ()))))
noncomputable def iStartState.mng (n : Nat) : Mng := ⟨[.val tNetwork], [.sh tState], fun x => iStartState.f n x.1⟩
noncomputable def iStartState.cfg (n : Nat) : Cfg := ⟨tys9, [(44, iIsNetwork.mng n), (98, iNewActor.mng n), (99, cloneI.mng n)], [], []⟩
theorem iStartState.eq : ∀ (n : Nat) (a0 : Network), runF (iStartState.cfg n) n Try.f46 (annOf Try.f46 iStartState.las) [.val tNetwork] [.sh tState] (a0, ()) = iStartState.f n a0 := by
  intros
  kernel_rfl
theorem iStartState.gof : GoF Try.prog 46 := ⟨_, Try.func46, by kernel_rfl, by kernel_rfl⟩
theorem iStartState.sound (n : Nat) : Sound Try.prog 46 (iStartState.mng n) := runF_sound (fn := Try.f46) (m := iStartState.mng n) (c := iStartState.cfg n) (regOK mixed (opOK (.of (c := iStartState.cfg n) ⟨⟨iIsNetwork.sound n, iIsNetwork.gof⟩, ⟨⟨iNewActor.sound n, iNewActor.gof⟩, ⟨⟨cloneI.sound n, cloneI.gof⟩, trivial⟩⟩⟩) (.of (c := iStartState.cfg n) trivial)) (tysOK tys9_ok)) (tysOK tys9_ok) Try.func46 (fun x => (iStartState.eq n x.1).symm)
end Go.AmT
