/- Functions that the law FnAcyclic reaches, each as a plain Lean function, and that each does what that says. No condition. -/
import Derived.Test.YtfcehikkpoeebaaGreatPStep
namespace Go.AmT
open Go Go.Am Go.Proofs
set_option linter.unusedVariables false
set_option maxRecDepth 100000
def tys9 : List (Nat × TInfo) := [(3, ⟨false, 1, 8, [.int .i64 0], .int .i64, 0, some I, [], false⟩),
  (23, ⟨false, 1, 24, [.nil], .slice, 35, some (.sl tProgram), [], false⟩),
  (24, ⟨false, 1, 24, [.nil], .slice, 59, some (.sl tLink), [], false⟩),
  (26, ⟨true, 2, 48, [.nil, .nil], .struct, 0, some tNetwork, [(0, 23), (1, 24)], false⟩),
  (29, ⟨false, 1, 24, [.nil], .slice, 40, some (.sl IS), [], false⟩),
  (35, ⟨true, 3, 40, [.int .i64 0, .int .i64 0, .nil], .struct, 0, some tProgram, [(0, 3), (1, 3), (2, 33)], false⟩),
  (40, ⟨false, 1, 24, [.nil], .slice, 3, some IS, [], false⟩),
  (43, ⟨false, 1, 24, [.nil], .slice, 76, some (.sl tActor), [], false⟩),
  (45, ⟨true, 4, 80, [.nil, .nil, .nil, .int .i64 0], .struct, 0, some tState, [(0, 43), (1, 29), (2, 29), (3, 3)], false⟩),
  (59, ⟨true, 5, 56, [.int .i64 0, .int .i64 0, .int .i64 0, .int .i64 0, .nil], .struct, 0, some tLink, [(0, 3), (1, 3), (2, 3), (3, 3), (4, 40)], false⟩),
  (76, ⟨true, 2, 32, [.int .i64 0, .nil], .struct, 0, some tActor, [(0, 3), (1, 40)], false⟩)]
theorem tys9_ok : (tys9.all fun p => tokB Tryz.prog p.1 p.2) = true := by kernel_rfl

def sL4Tokens.las : List (Nat × LA) := [(4, ⟨[(3, .own 1000 IS), (10, .int .i64)], [(1000, .row true IS)], [8, 9], []⟩)]
noncomputable def sL4Tokens.f (n : Nat) (a0 : Network) : Option ((List (List Int)) × Unit) := iter (α := (Int × (List (List Int)) × Unit)) n (fun ih7 x6 => br (decide (x6.1 < (a0.2.length : Int))) (chk (0 ≤ x6.1 ∧ x6.1 < (a0.2.length : Int)) (let v8 := (a0.2.getD x6.1.toNat zLink); (sL1Copy.f n v8.2.2.2.2).bind fun r9 => chk ((x6.2.1.length + ([r9.1] : List (List Int)).length) * 24 ≤ maxB) (ih7 ((w64 (x6.1 + 1)), ((x6.2.1 ++ [r9.1]), ()))))) (some (x6.2.1, ()))) (0, ([], ()))
noncomputable def sL4Tokens.mng (n : Nat) : Mng := ⟨[.val tNetwork], [.val (.sl IS)], fun x => sL4Tokens.f n x.1⟩
noncomputable def sL4Tokens.cfg (n : Nat) : Cfg := ⟨tys9, [(56, sL1Copy.mng n)], [], []⟩
theorem sL4Tokens.eq : ∀ (n : Nat) (a0 : Network), runF (sL4Tokens.cfg n) n Tryz.f26 (annOf Tryz.f26 sL4Tokens.las) [.val tNetwork] [.val (.sl IS)] (a0, ()) = sL4Tokens.f n a0 := by
  intros
  kernel_rfl
theorem sL4Tokens.gof : GoF Tryz.prog 26 := ⟨_, Tryz.func26, by kernel_rfl, by kernel_rfl⟩
theorem sL4Tokens.sound (n : Nat) : Sound Tryz.prog 26 (sL4Tokens.mng n) := runF_sound (fn := Tryz.f26) (m := sL4Tokens.mng n) (c := sL4Tokens.cfg n) (regOK mixed (opOK (.of (c := sL4Tokens.cfg n) ⟨⟨sL1Copy.sound n, sL1Copy.gof⟩, trivial⟩) (.of (c := sL4Tokens.cfg n) trivial)) (tysOK tys9_ok)) (tysOK tys9_ok) Tryz.func26 (fun x => (sL4Tokens.eq n x.1).symm)

def sNewActor.las : List (Nat × LA) := []
noncomputable def sNewActor.f (n : Nat) (a0 : Program) : Option (Actor × Unit) := (sIsProgram.f n a0).bind fun r1 => br (!r1.1) (some ((0, []), ())) (some ((0, [0, 0, 0, 0]), ()))
noncomputable def sNewActor.mng (n : Nat) : Mng := ⟨[.val tProgram], [.val tActor], fun x => sNewActor.f n x.1⟩
noncomputable def sNewActor.cfg (n : Nat) : Cfg := ⟨tys9, [(51, sIsProgram.mng n)], [], []⟩
theorem sNewActor.eq : ∀ (n : Nat) (a0 : Program), runF (sNewActor.cfg n) n Tryz.f37 (annOf Tryz.f37 sNewActor.las) [.val tProgram] [.val tActor] (a0, ()) = sNewActor.f n a0 := by
  intros
  kernel_rfl
theorem sNewActor.gof : GoF Tryz.prog 37 := ⟨_, Tryz.func37, by kernel_rfl, by kernel_rfl⟩
theorem sNewActor.sound (n : Nat) : Sound Tryz.prog 37 (sNewActor.mng n) := runF_sound (fn := Tryz.f37) (m := sNewActor.mng n) (c := sNewActor.cfg n) (regOK mixed (opOK (.of (c := sNewActor.cfg n) ⟨⟨sIsProgram.sound n, sIsProgram.gof⟩, trivial⟩) (.of (c := sNewActor.cfg n) trivial)) (tysOK tys9_ok)) (tysOK tys9_ok) Tryz.func37 (fun x => (sNewActor.eq n x.1).symm)

def sStartState.las : List (Nat × LA) := [(7, ⟨[(3, .vptr 1000 0), (18, .int .i64)], [(1000, .cells [] [.own 1001 tActor, .own 1002 IS, .own 1003 IS, .int .i64]), (1001, .row true tActor), (1002, .row true IS), (1003, .row true IS)], [2, 16, 17], []⟩)]
noncomputable def sStartState.f (n : Nat) (a0 : Network) : Option (State × Unit) := (sIsNetwork.f n a0).bind fun r1 => br (!r1.1) (some (([], ([], ([], 0))), ())) ((sL4Tokens.f n a0).bind fun r2 => (sL4Tokens.f n a0).bind fun r3 => iter (α := (Int × (Int × (List Actor) × (List (List Int)) × (List (List Int)) × Unit))) n (fun ih24 x23 => br (decide (x23.1 < (a0.1.length : Int))) (chk (0 ≤ x23.1 ∧ x23.1 < (a0.1.length : Int)) (let v25 := (a0.1.getD x23.1.toNat zProgram); (sNewActor.f n v25).bind fun r26 => chk ((x23.2.2.1.length + ([r26.1] : List Actor).length) * 32 ≤ maxB) (ih24 ((w64 (x23.1 + 1)), (x23.2.1, ((x23.2.2.1 ++ [r26.1]), (x23.2.2.2.1, (x23.2.2.2.2.1, ())))))))) (some ((x23.2.2.1, (x23.2.2.2.1, (x23.2.2.2.2.1, x23.2.1))), ()))) (0, (0, ([], (r2.1, (r3.1, ()))))))
noncomputable def sStartState.mng (n : Nat) : Mng := ⟨[.val tNetwork], [.val tState], fun x => sStartState.f n x.1⟩
noncomputable def sStartState.cfg (n : Nat) : Cfg := ⟨tys9, [(25, sIsNetwork.mng n), (26, sL4Tokens.mng n), (37, sNewActor.mng n)], [], []⟩
theorem sStartState.eq : ∀ (n : Nat) (a0 : Network), runF (sStartState.cfg n) n Tryz.f14 (annOf Tryz.f14 sStartState.las) [.val tNetwork] [.val tState] (a0, ()) = sStartState.f n a0 := by
  intros
  kernel_rfl
theorem sStartState.gof : GoF Tryz.prog 14 := ⟨_, Tryz.func14, by kernel_rfl, by kernel_rfl⟩
theorem sStartState.sound (n : Nat) : Sound Tryz.prog 14 (sStartState.mng n) := runF_sound (fn := Tryz.f14) (m := sStartState.mng n) (c := sStartState.cfg n) (regOK mixed (opOK (.of (c := sStartState.cfg n) ⟨⟨sIsNetwork.sound n, sIsNetwork.gof⟩, ⟨⟨sL4Tokens.sound n, sL4Tokens.gof⟩, ⟨⟨sNewActor.sound n, sNewActor.gof⟩, trivial⟩⟩⟩) (.of (c := sStartState.cfg n) trivial)) (tysOK tys9_ok)) (tysOK tys9_ok) Tryz.func14 (fun x => (sStartState.eq n x.1).symm)

def iNewActor.las : List (Nat × LA) := []
noncomputable def iNewActor.f (n : Nat) (a0 : Program) : Option (Actor × Unit) := (iIsProgram.f n a0).bind fun r1 => br (!r1.1) (some ((0, []), ())) (chk (4 = 4 ∧ 0 ≤ 4 ∧ 4 * (8 : Int) ≤ (maxB : Int)) (some ((0, (List.replicate 4 (0 : Int))), ())))
noncomputable def iNewActor.mng (n : Nat) : Mng := ⟨[.val tProgram], [.val tActor], fun x => iNewActor.f n x.1⟩
noncomputable def iNewActor.cfg (n : Nat) : Cfg := ⟨tys9, [(45, iIsProgram.mng n)], [], []⟩
theorem iNewActor.eq : ∀ (n : Nat) (a0 : Program), runF (iNewActor.cfg n) n Tryz.f78 (annOf Tryz.f78 iNewActor.las) [.val tProgram] [.val tActor] (a0, ()) = iNewActor.f n a0 := by
  intros
  kernel_rfl
theorem iNewActor.gof : GoF Tryz.prog 78 := ⟨_, Tryz.func78, by kernel_rfl, by kernel_rfl⟩
theorem iNewActor.sound (n : Nat) : Sound Tryz.prog 78 (iNewActor.mng n) := runF_sound (fn := Tryz.f78) (m := iNewActor.mng n) (c := iNewActor.cfg n) (regOK mixed (opOK (.of (c := iNewActor.cfg n) ⟨⟨iIsProgram.sound n, iIsProgram.gof⟩, trivial⟩) (.of (c := iNewActor.cfg n) trivial)) (tysOK tys9_ok)) (tysOK tys9_ok) Tryz.func78 (fun x => (iNewActor.eq n x.1).symm)
end Go.AmT
