/- Functions that the law FnCan reaches, each as a plain Lean function, and that each does what that says. No condition. -/
import Derived.Test.YtcipidfgblbeiaaPGenS
namespace Go.AmT
open Go Go.Am Go.Proofs
set_option linter.unusedVariables false
set_option maxRecDepth 100000
def tys13 : List (Nat × TInfo) := [(3, ⟨false, 1, 8, [.int .i64 0], .int .i64, 0, some I, [], false⟩),
  (4, ⟨false, 1, 1, [.bool false], .bool, 0, some .bool, [], false⟩),
  (27, ⟨false, 1, 24, [.nil], .slice, 3, some IS, [], false⟩),
  (30, ⟨false, 1, 24, [.nil], .slice, 54, some (.sl tProgram), [], false⟩),
  (31, ⟨false, 1, 24, [.nil], .slice, 62, some (.sl tLink), [], false⟩),
  (33, ⟨true, 2, 48, [.nil, .nil], .struct, 0, some tNetwork, [(0, 30), (1, 31)], false⟩),
  (43, ⟨false, 1, 24, [.nil], .slice, 5, some (.sl U8), [], false⟩),
  (45, ⟨false, 1, 24, [.nil], .slice, 60, some (.sl tActor), [], false⟩),
  (46, ⟨false, 1, 24, [.nil], .slice, 27, some (.sl IS), [], false⟩),
  (48, ⟨true, 4, 80, [.nil, .nil, .nil, .int .i64 0], .struct, 0, some tState, [(0, 45), (1, 46), (2, 46), (3, 3)], false⟩),
  (54, ⟨true, 3, 40, [.int .i64 0, .int .i64 0, .nil], .struct, 0, some tProgram, [(0, 3), (1, 3), (2, 52)], false⟩),
  (60, ⟨true, 2, 32, [.int .i64 0, .nil], .struct, 0, some tActor, [(0, 3), (1, 27)], false⟩),
  (62, ⟨true, 5, 56, [.int .i64 0, .int .i64 0, .int .i64 0, .int .i64 0, .nil], .struct, 0, some tLink, [(0, 3), (1, 3), (2, 3), (3, 3), (4, 27)], false⟩)]
theorem tys13_ok : (tys13.all fun p => tokB Try.prog p.1 p.2) = true := by kernel_rfl

def iCanStep.las : List (Nat × LA) := []
noncomputable def iCanStep.f (n : Nat) (a0 : Network) (a1 : State) (a2 : Int) : Option (Bool × Unit) := (iIsState.f n a0 a1).bind fun r1 => br (!r1.1) (some (false, ())) ((newRun.f n a0.1 a0.2 a1.1 a1.2.1 a1.2.2.1 a1.2.2.2 (none : Option (List Int))).bind fun r2 => (isProcess.f n ((r2.1, r2.2.1), ((r2.2.2.2.2.1, (r2.2.2.2.2.2.1, (r2.2.2.2.2.2.2.1, r2.2.2.1))), (r2.2.2.2.2.2.2.2.1, (r2.2.2.2.2.2.2.2.2.1, r2.2.2.2.1)))) a2).bind fun r3 => br r3.1 ((can.f n ((r2.1, r2.2.1), ((r2.2.2.2.2.1, (r2.2.2.2.2.2.1, (r2.2.2.2.2.2.2.1, r2.2.2.1))), (r2.2.2.2.2.2.2.2.1, (r2.2.2.2.2.2.2.2.2.1, r2.2.2.2.1)))) a2).bind fun r4 => some (r4.1, ())) (some (false, ())))
noncomputable def iCanStep.mng (n : Nat) : Mng := ⟨[.val tNetwork, .val tState, .val I], [.val .bool], fun x => iCanStep.f n x.1 x.2.1 x.2.2.1⟩
noncomputable def iCanStep.cfg (n : Nat) : Cfg := ⟨tys13, [(63, iIsState.mng n), (64, isProcess.mng n), (65, can.mng n)], [(45, newRun.mng n)], []⟩
theorem iCanStep.eq : ∀ (n : Nat) (a0 : Network) (a1 : State) (a2 : Int), runF (iCanStep.cfg n) n Try.f23 (annOf Try.f23 iCanStep.las) [.val tNetwork, .val tState, .val I] [.val .bool] (a0, (a1, (a2, ()))) = iCanStep.f n a0 a1 a2 := by
  intros
  kernel_rfl
theorem iCanStep.gof : GoF Try.prog 23 := ⟨_, Try.func23, by kernel_rfl, by kernel_rfl⟩
theorem iCanStep.sound (n : Nat) : Sound Try.prog 23 (iCanStep.mng n) := runF_sound (fn := Try.f23) (m := iCanStep.mng n) (c := iCanStep.cfg n) (regOK mixed (opOK (.of (c := iCanStep.cfg n) ⟨⟨iIsState.sound n, iIsState.gof⟩, ⟨⟨isProcess.sound n, isProcess.gof⟩, ⟨⟨can.sound n, can.gof⟩, trivial⟩⟩⟩) (.of (c := iCanStep.cfg n) ⟨⟨newRun.sound n, newRun.gof⟩, trivial⟩)) (tysOK tys13_ok)) (tysOK tys13_ok) Try.func23 (fun x => (iCanStep.eq n x.1 x.2.1 x.2.2.1).symm)

def sCanStep.las : List (Nat × LA) := []
noncomputable def sCanStep.f (n : Nat) (a0 : Network) (a1 : State) (a2 : Int) : Option (Bool × Unit) := (sIsState.f n a0 a1).bind fun r1 => br r1.1 ((sL3Has.f n a0 a2).bind fun r2 => br r2.1 ((sL5Can.f n a0 a1 a2).bind fun r3 => some (r3.1, ())) (some (false, ()))) (some (false, ()))
noncomputable def sCanStep.mng (n : Nat) : Mng := ⟨[.val tNetwork, .val tState, .val I], [.val .bool], fun x => sCanStep.f n x.1 x.2.1 x.2.2.1⟩
noncomputable def sCanStep.cfg (n : Nat) : Cfg := ⟨tys13, [(31, sIsState.mng n), (62, sL3Has.mng n), (40, sL5Can.mng n)], [], []⟩
theorem sCanStep.eq : ∀ (n : Nat) (a0 : Network) (a1 : State) (a2 : Int), runF (sCanStep.cfg n) n Try.f25 (annOf Try.f25 sCanStep.las) [.val tNetwork, .val tState, .val I] [.val .bool] (a0, (a1, (a2, ()))) = sCanStep.f n a0 a1 a2 := by
  intros
  kernel_rfl
theorem sCanStep.gof : GoF Try.prog 25 := ⟨_, Try.func25, by kernel_rfl, by kernel_rfl⟩
theorem sCanStep.sound (n : Nat) : Sound Try.prog 25 (sCanStep.mng n) := runF_sound (fn := Try.f25) (m := sCanStep.mng n) (c := sCanStep.cfg n) (regOK mixed (opOK (.of (c := sCanStep.cfg n) ⟨⟨sIsState.sound n, sIsState.gof⟩, ⟨⟨sL3Has.sound n, sL3Has.gof⟩, ⟨⟨sL5Can.sound n, sL5Can.gof⟩, trivial⟩⟩⟩) (.of (c := sCanStep.cfg n) trivial)) (tysOK tys13_ok)) (tysOK tys13_ok) Try.func25 (fun x => (sCanStep.eq n x.1 x.2.1 x.2.2.1).symm)

def iCanB.las : List (Nat × LA) := []
noncomputable def iCanB.f (n : Nat) (a0 : Network) (a1 : State) (a2 : List Int) (a3 : Int) : Option (Bool × Unit) := (iBounded.f n a0 a1 a2).bind fun r1 => br (!r1.1) (some (false, ())) ((boundedRun.f n a0.1 a0.2 a1.1 a1.2.1 a1.2.2.1 a1.2.2.2 a2).bind fun r2 => (isProcess.f n ((r2.1, r2.2.1), ((r2.2.2.2.2.1, (r2.2.2.2.2.2.1, (r2.2.2.2.2.2.2.1, r2.2.2.1))), (r2.2.2.2.2.2.2.2.1, (r2.2.2.2.2.2.2.2.2.1, r2.2.2.2.1)))) a3).bind fun r3 => br r3.1 ((may.f n ((r2.1, r2.2.1), ((r2.2.2.2.2.1, (r2.2.2.2.2.2.1, (r2.2.2.2.2.2.2.1, r2.2.2.1))), (r2.2.2.2.2.2.2.2.1, (r2.2.2.2.2.2.2.2.2.1, r2.2.2.2.1)))) a3).bind fun r4 => some (r4.1, ())) (some (false, ())))
noncomputable def iCanB.mng (n : Nat) : Mng := ⟨[.val tNetwork, .val tState, .val IS, .val I], [.val .bool], fun x => iCanB.f n x.1 x.2.1 x.2.2.1 x.2.2.2.1⟩
noncomputable def iCanB.cfg (n : Nat) : Cfg := ⟨tys13, [(66, iBounded.mng n), (64, isProcess.mng n), (68, may.mng n)], [(67, boundedRun.mng n)], []⟩
theorem iCanB.eq : ∀ (n : Nat) (a0 : Network) (a1 : State) (a2 : List Int) (a3 : Int), runF (iCanB.cfg n) n Try.f24 (annOf Try.f24 iCanB.las) [.val tNetwork, .val tState, .val IS, .val I] [.val .bool] (a0, (a1, (a2, (a3, ())))) = iCanB.f n a0 a1 a2 a3 := by
  intros
  kernel_rfl
theorem iCanB.gof : GoF Try.prog 24 := ⟨_, Try.func24, by kernel_rfl, by kernel_rfl⟩
theorem iCanB.sound (n : Nat) : Sound Try.prog 24 (iCanB.mng n) := runF_sound (fn := Try.f24) (m := iCanB.mng n) (c := iCanB.cfg n) (regOK mixed (opOK (.of (c := iCanB.cfg n) ⟨⟨iBounded.sound n, iBounded.gof⟩, ⟨⟨isProcess.sound n, isProcess.gof⟩, ⟨⟨may.sound n, may.gof⟩, trivial⟩⟩⟩) (.of (c := iCanB.cfg n) ⟨⟨boundedRun.sound n, boundedRun.gof⟩, trivial⟩)) (tysOK tys13_ok)) (tysOK tys13_ok) Try.func24 (fun x => (iCanB.eq n x.1 x.2.1 x.2.2.1 x.2.2.2.1).symm)

def iIsActor.las : List (Nat × LA) := []
noncomputable def iIsActor.f (n : Nat) (a0 : Program) (a1 : Actor) : Option (Bool × Unit) := (iIsProgram.f n a0).bind fun r1 => br r1.1 ((isActor.f n a0 a1).bind fun r2 => some (r2.1, ())) (some (false, ()))
noncomputable def iIsActor.mng (n : Nat) : Mng := ⟨[.val tProgram, .val tActor], [.val .bool], fun x => iIsActor.f n x.1 x.2.1⟩
noncomputable def iIsActor.cfg (n : Nat) : Cfg := ⟨tys13, [(95, iIsProgram.mng n), (111, isActor.mng n)], [], []⟩
theorem iIsActor.eq : ∀ (n : Nat) (a0 : Program) (a1 : Actor), runF (iIsActor.cfg n) n Try.f69 (annOf Try.f69 iIsActor.las) [.val tProgram, .val tActor] [.val .bool] (a0, (a1, ())) = iIsActor.f n a0 a1 := by
  intros
  kernel_rfl
theorem iIsActor.gof : GoF Try.prog 69 := ⟨_, Try.func69, by kernel_rfl, by kernel_rfl⟩
theorem iIsActor.sound (n : Nat) : Sound Try.prog 69 (iIsActor.mng n) := runF_sound (fn := Try.f69) (m := iIsActor.mng n) (c := iIsActor.cfg n) (regOK mixed (opOK (.of (c := iIsActor.cfg n) ⟨⟨iIsProgram.sound n, iIsProgram.gof⟩, ⟨⟨isActor.sound n, isActor.gof⟩, trivial⟩⟩) (.of (c := iIsActor.cfg n) trivial)) (tysOK tys13_ok)) (tysOK tys13_ok) Try.func69 (fun x => (iIsActor.eq n x.1 x.2.1).symm)

def iWantOf.las : List (Nat × LA) := []
noncomputable def iWantOf.f (n : Nat) (a0 : Program) (a1 : Actor) : Option (Int × (Int × Unit)) := (iIsActor.f n a0 a1).bind fun r1 => br (!r1.1) (some (0, (0, ()))) ((want.f n a0 a1).bind fun r2 => some (r2.1, (r2.2.1, ())))
noncomputable def iWantOf.mng (n : Nat) : Mng := ⟨[.val tProgram, .val tActor], [.val I, .val I], fun x => iWantOf.f n x.1 x.2.1⟩
noncomputable def iWantOf.cfg (n : Nat) : Cfg := ⟨tys13, [(69, iIsActor.mng n), (70, want.mng n)], [], []⟩
theorem iWantOf.eq : ∀ (n : Nat) (a0 : Program) (a1 : Actor), runF (iWantOf.cfg n) n Try.f26 (annOf Try.f26 iWantOf.las) [.val tProgram, .val tActor] [.val I, .val I] (a0, (a1, ())) = iWantOf.f n a0 a1 := by
  intros
  kernel_rfl
theorem iWantOf.gof : GoF Try.prog 26 := ⟨_, Try.func26, by kernel_rfl, by kernel_rfl⟩
theorem iWantOf.sound (n : Nat) : Sound Try.prog 26 (iWantOf.mng n) := runF_sound (fn := Try.f26) (m := iWantOf.mng n) (c := iWantOf.cfg n) (regOK mixed (opOK (.of (c := iWantOf.cfg n) ⟨⟨iIsActor.sound n, iIsActor.gof⟩, ⟨⟨want.sound n, want.gof⟩, trivial⟩⟩) (.of (c := iWantOf.cfg n) trivial)) (tysOK tys13_ok)) (tysOK tys13_ok) Try.func26 (fun x => (iWantOf.eq n x.1 x.2.1).symm)

def linkFromC.las : List (Nat × LA) := []
noncomputable def linkFromC.f (n : Nat) (a0 : Link) (a1 : Int) (a2 : Int) : Option (Bool × Unit) := br (decide (0 ≤ a1)) (br (decide (a0.1 = a1)) (some ((decide (a0.2.1 = a2)), ())) (some (false, ()))) (some (false, ()))
noncomputable def linkFromC.mng (n : Nat) : Mng := ⟨[.val tLink, .psh I, .psh I], [.val .bool], fun x => linkFromC.f n x.1 x.2.1 x.2.2.1⟩
noncomputable def linkFromC.cfg (n : Nat) : Cfg := ⟨tys13, [], [], []⟩
theorem linkFromC.eq : ∀ (n : Nat) (a0 : Link) (a1 : Int) (a2 : Int), runF (linkFromC.cfg n) n Try.f72 (annOf Try.f72 linkFromC.las) [.val tLink, .psh I, .psh I] [.val .bool] (a0, (a1, (a2, ()))) = linkFromC.f n a0 a1 a2 := by
  intros
  kernel_rfl
theorem linkFromC.gof : GoF Try.prog 72 := ⟨_, Try.func72, by kernel_rfl, by kernel_rfl⟩
theorem linkFromC.sound (n : Nat) : Sound Try.prog 72 (linkFromC.mng n) := runF_sound (fn := Try.f72) (m := linkFromC.mng n) (c := linkFromC.cfg n) (regOK mixed (opOK (.of (c := linkFromC.cfg n) trivial) (.of (c := linkFromC.cfg n) trivial)) (tysOK tys13_ok)) (tysOK tys13_ok) Try.func72 (fun x => (linkFromC.eq n x.1 x.2.1 x.2.2.1).symm)

def indexFuncL.las : List (Nat × LA) := [(3, ⟨[(8, .int .i64)], [], [0, 1, 7], []⟩)]
noncomputable def indexFuncL.f (n : Nat) (a0 : List Link) (a1 : (Int × (Int × Unit))) : Option (Int × Unit) := iter (α := (Int × Unit)) n (fun ih8 x7 => br (decide (x7.1 < (a0.length : Int))) (chk (0 ≤ x7.1 ∧ x7.1 < (a0.length : Int)) (let v9 := (a0.getD x7.1.toNat zLink); (linkFromC.f n v9 a1.1 a1.2.1).bind fun r10 => br r10.1 (some (x7.1, ())) (ih8 ((w64 (x7.1 + 1)), ())))) (some ((-1), ()))) (0, ())
noncomputable def indexFuncL.mng (n : Nat) : Mng := ⟨[.val (.sl tLink), .fnc 72 [.psh I, .psh I]], [.val I], fun x => indexFuncL.f n x.1 x.2.1⟩
noncomputable def indexFuncL.cfg (n : Nat) : Cfg := ⟨tys13, [(72, linkFromC.mng n)], [], []⟩
theorem indexFuncL.eq : ∀ (n : Nat) (a0 : List Link) (a1 : (Int × (Int × Unit))), runF (indexFuncL.cfg n) n Try.f115 (annOf Try.f115 indexFuncL.las) [.val (.sl tLink), .fnc 72 [.psh I, .psh I]] [.val I] (a0, (a1, ())) = indexFuncL.f n a0 a1 := by
  intros
  kernel_rfl
theorem indexFuncL.gof : GoF Try.prog 115 := ⟨_, Try.func115, by kernel_rfl, by kernel_rfl⟩
theorem indexFuncL.sound (n : Nat) : Sound Try.prog 115 (indexFuncL.mng n) := runF_sound (fn := Try.f115) (m := indexFuncL.mng n) (c := indexFuncL.cfg n) (regOK mixed (opOK (.of (c := indexFuncL.cfg n) ⟨⟨linkFromC.sound n, linkFromC.gof⟩, trivial⟩) (.of (c := indexFuncL.cfg n) trivial)) (tysOK tys13_ok)) (tysOK tys13_ok) Try.func115 (fun x => (indexFuncL.eq n x.1 x.2.1).symm)

def onlyLinkF.las : List (Nat × LA) := []
noncomputable def onlyLinkF.f (n : Nat) (a0 : Network) (a1 : (Int × (Int × Unit))) : Option (Int × (Bool × Unit)) := (iIsNetwork.f n a0).bind fun r1 => br (!r1.1) (some (0, (false, ()))) ((indexFuncL.f n a0.2 (a1.1, (a1.2.1, ()))).bind fun r2 => br (decide (r2.1 < 0)) (some (0, (false, ()))) (some (r2.1, (true, ()))))
noncomputable def onlyLinkF.mng (n : Nat) : Mng := ⟨[.val tNetwork, .fnc 72 [.psh I, .psh I]], [.val I, .val .bool], fun x => onlyLinkF.f n x.1 x.2.1⟩
noncomputable def onlyLinkF.cfg (n : Nat) : Cfg := ⟨tys13, [(44, iIsNetwork.mng n), (115, indexFuncL.mng n)], [], []⟩
theorem onlyLinkF.eq : ∀ (n : Nat) (a0 : Network) (a1 : (Int × (Int × Unit))), runF (onlyLinkF.cfg n) n Try.f71 (annOf Try.f71 onlyLinkF.las) [.val tNetwork, .fnc 72 [.psh I, .psh I]] [.val I, .val .bool] (a0, (a1, ())) = onlyLinkF.f n a0 a1 := by
  intros
  kernel_rfl
theorem onlyLinkF.gof : GoF Try.prog 71 := ⟨_, Try.func71, by kernel_rfl, by kernel_rfl⟩
theorem onlyLinkF.sound (n : Nat) : Sound Try.prog 71 (onlyLinkF.mng n) := runF_sound (fn := Try.f71) (m := onlyLinkF.mng n) (c := onlyLinkF.cfg n) (regOK mixed (opOK (.of (c := onlyLinkF.cfg n) ⟨⟨iIsNetwork.sound n, iIsNetwork.gof⟩, ⟨⟨indexFuncL.sound n, indexFuncL.gof⟩, trivial⟩⟩) (.of (c := onlyLinkF.cfg n) trivial)) (tysOK tys13_ok)) (tysOK tys13_ok) Try.func71 (fun x => (onlyLinkF.eq n x.1 x.2.1).symm)

def iLinkFrom.las : List (Nat × LA) := []
noncomputable def iLinkFrom.f (n : Nat) (a0 : Network) (a1 : Int) (a2 : Int) : Option (Int × (Bool × Unit)) := (onlyLinkF.f n a0 (a1, (a2, ()))).bind fun r1 => some (r1.1, (r1.2.1, ()))
noncomputable def iLinkFrom.mng (n : Nat) : Mng := ⟨[.val tNetwork, .val I, .val I], [.val I, .val .bool], fun x => iLinkFrom.f n x.1 x.2.1 x.2.2.1⟩
noncomputable def iLinkFrom.cfg (n : Nat) : Cfg := ⟨tys13, [(71, onlyLinkF.mng n)], [], []⟩
theorem iLinkFrom.eq : ∀ (n : Nat) (a0 : Network) (a1 : Int) (a2 : Int), runF (iLinkFrom.cfg n) n Try.f27 (annOf Try.f27 iLinkFrom.las) [.val tNetwork, .val I, .val I] [.val I, .val .bool] (a0, (a1, (a2, ()))) = iLinkFrom.f n a0 a1 a2 := by
  intros
  kernel_rfl
theorem iLinkFrom.gof : GoF Try.prog 27 := ⟨_, Try.func27, by kernel_rfl, by kernel_rfl⟩
theorem iLinkFrom.sound (n : Nat) : Sound Try.prog 27 (iLinkFrom.mng n) := runF_sound (fn := Try.f27) (m := iLinkFrom.mng n) (c := iLinkFrom.cfg n) (regOK mixed (opOK (.of (c := iLinkFrom.cfg n) ⟨⟨onlyLinkF.sound n, onlyLinkF.gof⟩, trivial⟩) (.of (c := iLinkFrom.cfg n) trivial)) (tysOK tys13_ok)) (tysOK tys13_ok) Try.func27 (fun x => (iLinkFrom.eq n x.1 x.2.1 x.2.2.1).symm)

def law.las : List (Nat × LA) := [(9, ⟨[(31, .int .i64)], [], [3, 4, 5, 29, 30], []⟩), (16, ⟨[(57, .bool)], [], [3, 4, 5, 6, 7, 8, 9, 29, 30, 31], []⟩), (26, ⟨[(92, .bool)], [], [3, 4, 5, 8, 9, 12, 29, 30, 31], []⟩), (29, ⟨[(14, .bool)], [], [3, 4, 5, 8, 9, 29, 30, 31], []⟩)]
noncomputable def law.f (n : Nat) (a0 : List Int) : Option (Bool × Unit) := br (decide (1048576 < (a0.length : Int))) (some (true, ())) ((makeNetwork.f n a0 6).bind fun r1 => (fresh.f n a0 3).bind fun r2 => (makeState.f n r2.1 r1.1 200).bind fun r3 => (fresh.f n a0 5).bind fun r4 => (makeCaps.f n r4.1 r1.1).bind fun r5 => iter (α := (Int × Unit)) n (fun ih29 x28 => br (decide (x28.1 < (r1.1.1.length : Int))) (chk (0 ≤ x28.1 ∧ x28.1 < (r1.1.1.length : Int)) (let v30 := (r1.1.1.getD x28.1.toNat zProgram); (iCanStep.f n r1.1 r3.1 x28.1).bind fun r31 => (iCanB.f n r1.1 r3.1 r5.1 x28.1).bind fun r32 => cut (α := (Bool × Unit)) ((sCanStep.f n r1.1 r3.1 x28.1).bind fun r35 => br (!decide (r31.1 = r35.1)) (some (.inr (true, ()))) (br r32.1 (some (.inr ((!r31.1), ()))) (some (.inr (false, ()))))) fun y34 => br y34.1 (some (false, ())) (chk (0 ≤ x28.1 ∧ x28.1 < (r3.1.1.length : Int)) ((iWantOf.f n v30 (r3.1.1.getD x28.1.toNat zActor)).bind fun r36 => br (!decide (r36.1 = 3)) (br (!decide (r31.1 = r32.1)) (some (false, ())) (ih29 ((w64 (x28.1 + 1)), ()))) ((iLinkFrom.f n r1.1 x28.1 r36.2.1).bind fun r37 => cut (α := (Bool × Unit)) (br (!r37.2.1) (some (.inr (true, ()))) (br (decide (r37.1 < 0)) (some (.inr (true, ()))) (some (.inr ((decide ((r1.1.2.length : Int) ≤ r37.1)), ()))))) fun y38 => br y38.1 (some (false, ())) (cut (α := (Bool × Unit)) (chk (0 ≤ r37.1 ∧ r37.1 < (r1.1.2.length : Int)) (let v42 := (r1.1.2.getD r37.1.toNat zLink); br (decide (0 ≤ v42.2.2.1)) (chk (0 ≤ r37.1 ∧ r37.1 < (r3.1.2.1.length : Int)) (chk (0 ≤ r37.1 ∧ r37.1 < (r5.1.length : Int)) (let v43 := (r5.1.getD r37.1.toNat 0); some (.inr ((decide (v43 ≤ ((r3.1.2.1.getD r37.1.toNat []).length : Int))), ()))))) (some (.inr (false, ()))))) fun y41 => br r31.1 (br (decide (r32.1 = y41.1)) (some (false, ())) (ih29 ((w64 (x28.1 + 1)), ()))) (ih29 ((w64 (x28.1 + 1)), ())))))))) (some (true, ()))) (0, ()))
noncomputable def law.mng (n : Nat) : Mng := ⟨[.val (.sl U8)], [.val .bool], fun x => law.f n x.1⟩
noncomputable def law.cfg (n : Nat) : Cfg := ⟨tys13, [(19, makeNetwork.mng n), (21, fresh.mng n), (20, makeState.mng n), (22, makeCaps.mng n), (23, iCanStep.mng n), (24, iCanB.mng n), (25, sCanStep.mng n), (26, iWantOf.mng n), (27, iLinkFrom.mng n)], [], []⟩
theorem law.eq : ∀ (n : Nat) (a0 : List Int), runF (law.cfg n) n Try.f5 (annOf Try.f5 law.las) [.val (.sl U8)] [.val .bool] (a0, ()) = law.f n a0 := by
  intros
  kernel_rfl
theorem law.gof : GoF Try.prog 5 := ⟨_, Try.func5, by kernel_rfl, by kernel_rfl⟩
theorem law.sound (n : Nat) : Sound Try.prog 5 (law.mng n) := runF_sound (fn := Try.f5) (m := law.mng n) (c := law.cfg n) (regOK mixed (opOK (.of (c := law.cfg n) ⟨⟨makeNetwork.sound n, makeNetwork.gof⟩, ⟨⟨fresh.sound n, fresh.gof⟩, ⟨⟨makeState.sound n, makeState.gof⟩, ⟨⟨makeCaps.sound n, makeCaps.gof⟩, ⟨⟨iCanStep.sound n, iCanStep.gof⟩, ⟨⟨iCanB.sound n, iCanB.gof⟩, ⟨⟨sCanStep.sound n, sCanStep.gof⟩, ⟨⟨iWantOf.sound n, iWantOf.gof⟩, ⟨⟨iLinkFrom.sound n, iLinkFrom.gof⟩, trivial⟩⟩⟩⟩⟩⟩⟩⟩⟩) (.of (c := law.cfg n) trivial)) (tysOK tys13_ok)) (tysOK tys13_ok) Try.func5 (fun x => (law.eq n x.1).symm)
end Go.AmT
