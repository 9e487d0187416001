/- Functions that the law FnAcyclic reaches, each as a plain Lean function, and that each does what that says. No condition. -/
import Derived.Test.YtfcehikkpoeebaaGreatPSt
import Derived.Test.YtfcehikkpoeebaaGreatPMark0
namespace Go.AmT
open Go Go.Am Go.Proofs
set_option linter.unusedVariables false
set_option maxRecDepth 100000
abbrev tRun : Ty := (.pair tNetwork (.pair tState (.pair (.sl IS) (.pair (.sl IS) (.osl I)))))
abbrev Run : Type := Network × (State × (List (List Int) × (List (List Int) × Option (List Int))))
def tys4 : List (Nat × TInfo) := [(3, ⟨false, 1, 8, [.int .i64 0], .int .i64, 0, some I, [], false⟩),
  (23, ⟨false, 1, 24, [.nil], .slice, 35, some (.sl tProgram), [], false⟩),
  (24, ⟨false, 1, 24, [.nil], .slice, 59, some (.sl tLink), [], false⟩),
  (26, ⟨true, 2, 48, [.nil, .nil], .struct, 0, some tNetwork, [(0, 23), (1, 24)], false⟩),
  (29, ⟨false, 1, 24, [.nil], .slice, 40, some (.sl IS), [], false⟩),
  (33, ⟨false, 1, 24, [.nil], .slice, 98, some (.sl tInstr), [], false⟩),
  (35, ⟨true, 3, 40, [.int .i64 0, .int .i64 0, .nil], .struct, 0, some tProgram, [(0, 3), (1, 3), (2, 33)], false⟩),
  (40, ⟨false, 1, 24, [.nil], .slice, 3, some IS, [], false⟩),
  (43, ⟨false, 1, 24, [.nil], .slice, 76, some (.sl tActor), [], false⟩),
  (45, ⟨true, 4, 80, [.nil, .nil, .nil, .int .i64 0], .struct, 0, some tState, [(0, 43), (1, 29), (2, 29), (3, 3)], false⟩),
  (59, ⟨true, 5, 56, [.int .i64 0, .int .i64 0, .int .i64 0, .int .i64 0, .nil], .struct, 0, some tLink, [(0, 3), (1, 3), (2, 3), (3, 3), (4, 40)], false⟩),
  (73, ⟨true, 9, 200, [.nil, .nil, .nil, .nil, .nil, .int .i64 0, .nil, .nil, .nil], .struct, 0, some tRun, [(0, 26), (2, 45), (6, 29), (7, 29), (8, 40)], false⟩),
  (76, ⟨true, 2, 32, [.int .i64 0, .nil], .struct, 0, some tActor, [(0, 3), (1, 40)], false⟩),
  (98, ⟨true, 4, 32, [.int .i64 0, .int .i64 0, .int .i64 0, .int .i64 0], .struct, 0, some tInstr, [(0, 3), (1, 3), (2, 3), (3, 3)], false⟩)]
theorem tys4_ok : (tys4.all fun p => tokB Tryz.prog p.1 p.2) = true := by kernel_rfl

noncomputable def cloneI.f (n : Nat) (a0 : List Int) : Option ((List Int) × Unit) := chk ((([] : List Int).length + a0.length) * 8 ≤ maxB) (some ((([] : List Int) ++ a0), ()))
noncomputable def cloneI.mng (n : Nat) : Mng := ⟨[.val (.sl I)], [.val (.sl I)], fun x => cloneI.f n x.1⟩
noncomputable def cloneI.cfg (n : Nat) : Cfg := ⟨tys4, [], [], []⟩
theorem cloneI.gof : GoF Tryz.prog 22 := ⟨_, Tryz.func22, by kernel_rfl, by kernel_rfl⟩
theorem cloneI.eq0 : ∀ (n : Nat), runNil (cloneI.cfg n) n Tryz.f22 (annOf Tryz.f22 []) [.val (.sl I)] [.val (.sl I)] .nil [] [] = some (([] : List Int), ()) := by
  intros
  kernel_rfl
theorem cloneI.eq1 : ∀ (n : Nat) (a0 : List Int), runNil (cloneI.cfg n) n Tryz.f22 (annOf Tryz.f22 []) [.val (.sl I)] [.val (.sl I)] (.osh I (some a0)) [] [] = cloneI.f n a0 := by
  intros
  kernel_rfl
theorem cloneI.sound (n : Nat) : Sound Tryz.prog 22 (cloneI.mng n) :=
  runNil_sound (t := I) (ps := []) (rs := [.val (.sl I)]) (F := fun x => cloneI.f n x.1) (regOK mixed (opOK (.of (c := cloneI.cfg n) trivial) (.of (c := cloneI.cfg n) trivial)) (tysOK tys4_ok)) (tysOK tys4_ok) Tryz.func22
    (fun x y hy hx => by
      have hy : cloneI.f n x.1 = some y := hy
      rw [hx] at hy
      unfold cloneI.f chk at hy
      split at hy
      · exact (cloneI.eq0 n).trans hy
      · simp at hy)
    (fun x y hy => (cloneI.eq1 n x.1).trans hy)

def copyStreams.las : List (Nat × LA) := [(4, ⟨[(3, .own 1000 IS), (9, .int .i64)], [(1000, .row true IS)], [7, 8], []⟩)]
noncomputable def copyStreams.f (n : Nat) (a0 : List (List Int)) : Option ((List (List Int)) × Unit) := iter (α := (Int × (List (List Int)) × Unit)) n (fun ih7 x6 => br (decide (x6.1 < (a0.length : Int))) (chk (0 ≤ x6.1 ∧ x6.1 < (a0.length : Int)) ((cloneI.f n (a0.getD x6.1.toNat [])).bind fun r8 => chk ((x6.2.1.length + ([r8.1] : List (List Int)).length) * 24 ≤ maxB) (ih7 ((w64 (x6.1 + 1)), ((x6.2.1 ++ [r8.1]), ()))))) (some (x6.2.1, ()))) (0, ([], ()))
noncomputable def copyStreams.mng (n : Nat) : Mng := ⟨[.val (.sl IS)], [.val (.sl IS)], fun x => copyStreams.f n x.1⟩
noncomputable def copyStreams.cfg (n : Nat) : Cfg := ⟨tys4, [(22, cloneI.mng n)], [], []⟩
theorem copyStreams.eq : ∀ (n : Nat) (a0 : List (List Int)), runF (copyStreams.cfg n) n Tryz.f110 (annOf Tryz.f110 copyStreams.las) [.val (.sl IS)] [.val (.sl IS)] (a0, ()) = copyStreams.f n a0 := by
  intros
  kernel_rfl
theorem copyStreams.gof : GoF Tryz.prog 110 := ⟨_, Tryz.func110, by kernel_rfl, by kernel_rfl⟩
theorem copyStreams.sound (n : Nat) : Sound Tryz.prog 110 (copyStreams.mng n) := runF_sound (fn := Tryz.f110) (m := copyStreams.mng n) (c := copyStreams.cfg n) (regOK mixed (opOK (.of (c := copyStreams.cfg n) ⟨⟨cloneI.sound n, cloneI.gof⟩, trivial⟩) (.of (c := copyStreams.cfg n) trivial)) (tysOK tys4_ok)) (tysOK tys4_ok) Tryz.func110 (fun x => (copyStreams.eq n x.1).symm)

def copyState.las : List (Nat × LA) := [(4, ⟨[(3, .vptr 1000 0), (18, .int .i64)], [(1000, .cells [] [.own 1001 tActor, .own 1002 IS, .own 1003 IS, .int .i64]), (1001, .row true tActor), (1002, .row true IS), (1003, .row true IS)], [2, 16, 17], []⟩)]
noncomputable def copyState.f (n : Nat) (a0 : State) : Option (State × Unit) := (copyStreams.f n a0.2.1).bind fun r1 => (copyStreams.f n a0.2.2.1).bind fun r2 => iter (α := (Int × (Int × (List Actor) × (List (List Int)) × (List (List Int)) × Unit))) n (fun ih23 x22 => br (decide (x22.1 < (a0.1.length : Int))) (chk (0 ≤ x22.1 ∧ x22.1 < (a0.1.length : Int)) (let v24 := (a0.1.getD x22.1.toNat zActor); (cloneI.f n v24.2).bind fun r25 => chk ((x22.2.2.1.length + ([(v24.1, r25.1)] : List Actor).length) * 32 ≤ maxB) (ih23 ((w64 (x22.1 + 1)), (x22.2.1, ((x22.2.2.1 ++ [(v24.1, r25.1)]), (x22.2.2.2.1, (x22.2.2.2.2.1, ())))))))) (some ((x22.2.2.1, (x22.2.2.2.1, (x22.2.2.2.2.1, x22.2.1))), ()))) (0, (a0.2.2.2, ([], (r1.1, (r2.1, ())))))
noncomputable def copyState.mng (n : Nat) : Mng := ⟨[.val tState], [.val tState], fun x => copyState.f n x.1⟩
noncomputable def copyState.cfg (n : Nat) : Cfg := ⟨tys4, [(110, copyStreams.mng n), (22, cloneI.mng n)], [], []⟩
theorem copyState.eq : ∀ (n : Nat) (a0 : State), runF (copyState.cfg n) n Tryz.f89 (annOf Tryz.f89 copyState.las) [.val tState] [.val tState] (a0, ()) = copyState.f n a0 := by
  intros
  kernel_rfl
theorem copyState.gof : GoF Tryz.prog 89 := ⟨_, Tryz.func89, by kernel_rfl, by kernel_rfl⟩
theorem copyState.sound (n : Nat) : Sound Tryz.prog 89 (copyState.mng n) := runF_sound (fn := Tryz.f89) (m := copyState.mng n) (c := copyState.cfg n) (regOK mixed (opOK (.of (c := copyState.cfg n) ⟨⟨copyStreams.sound n, copyStreams.gof⟩, ⟨⟨cloneI.sound n, cloneI.gof⟩, trivial⟩⟩) (.of (c := copyState.cfg n) trivial)) (tysOK tys4_ok)) (tysOK tys4_ok) Tryz.func89 (fun x => (copyState.eq n x.1).symm)

def newRun.las : List (Nat × LA) := [(4, ⟨[(7, .vptr 1000 0), (21, .int .i64)], [(1000, .cells [] [.sh tProgram, .sh tLink, .own 1001 tActor, .own 1002 IS, .own 1003 IS, .int .i64, .own 1004 IS, .own 1005 IS, .osh I]), (1001, .row true tActor), (1002, .row true IS), (1003, .row true IS), (1004, .row true IS), (1005, .row true IS)], [3, 19, 20], []⟩), (13, ⟨[(7, .vptr 1000 0), (53, .int .i64)], [(1000, .cells [] [.sh tProgram, .sh tLink, .own 1001 tActor, .own 1002 IS, .own 1003 IS, .int .i64, .own 1004 IS, .own 1005 IS, .osh I]), (1001, .row true tActor), (1002, .row true IS), (1003, .row true IS), (1004, .row true IS), (1005, .row true IS)], [51, 52], []⟩), (19, ⟨[(7, .vptr 1000 0)], [(1000, .cells [] [.sh tProgram, .sh tLink, .own 1001 tActor, .own 1002 IS, .own 1003 IS, .int .i64, .own 1004 IS, .own 1005 IS, .osh I]), (1001, .row true tActor), (1002, .row true IS), (1003, .row true IS), (1004, .row true IS), (1005, .row true IS)], [10, 11, 51, 52, 53], []⟩)]
def newRun.la : LA := ⟨[(0, .agg [.sh tProgram, .sh tLink]), (1, .agg [.sh tActor, .sh IS, .sh IS, .int .i64]), (2, .osh I)], [], [], []⟩
def newRun.lb : LA := ⟨[(0, .vptr 1000 0)], [(1000, .cells [] [.sh tProgram, .sh tLink, .own 1001 tActor, .own 1002 IS, .own 1003 IS, .int .i64, .own 1004 IS, .own 1005 IS, .osh I]), (1001, .row true tActor), (1002, .row true IS), (1003, .row true IS), (1004, .row true IS), (1005, .row true IS)], [], []⟩
noncomputable def newRun.f (n : Nat) (a0 : List Program) (a1 : List Link) (a2 : List Actor) (a3 : List (List Int)) (a4 : List (List Int)) (a5 : Int) (a6 : Option (List Int)) : Option ((List Program) × (List Link) × (Int × (Option (List Int)) × (List Actor) × (List (List Int)) × (List (List Int)) × (List (List Int)) × (List (List Int)) × Unit)) := (copyState.f n (a2, (a3, (a4, a5)))).bind fun r1 => iter (α := (Int × (List Program) × (List Link) × (Int × (Option (List Int)) × (List Actor) × (List (List Int)) × (List (List Int)) × (List (List Int)) × (List (List Int)) × Unit))) n (fun ih34 x33 => br (decide (x33.1 < (a0.length : Int))) (chk (0 ≤ x33.1 ∧ x33.1 < (a0.length : Int)) (let v35 := (a0.getD x33.1.toNat zProgram); chk (v35.1 = v35.1 ∧ 0 ≤ v35.1 ∧ v35.1 * (8 : Int) ≤ (maxB : Int)) (chk ((x33.2.2.2.2.2.2.2.2.1.length + ([(List.replicate v35.1.toNat (0 : Int))] : List (List Int)).length) * 24 ≤ maxB) (chk (v35.2.1 = v35.2.1 ∧ 0 ≤ v35.2.1 ∧ v35.2.1 * (8 : Int) ≤ (maxB : Int)) (chk ((x33.2.2.2.2.2.2.2.2.2.1.length + ([(List.replicate v35.2.1.toNat (0 : Int))] : List (List Int)).length) * 24 ≤ maxB) (ih34 ((w64 (x33.1 + 1)), (x33.2.1, (x33.2.2.1, (x33.2.2.2.1, (x33.2.2.2.2.1, (x33.2.2.2.2.2.1, (x33.2.2.2.2.2.2.1, (x33.2.2.2.2.2.2.2.1, ((x33.2.2.2.2.2.2.2.2.1 ++ [(List.replicate v35.1.toNat (0 : Int))]), ((x33.2.2.2.2.2.2.2.2.2.1 ++ [(List.replicate v35.2.1.toNat (0 : Int))]), ())))))))))))))))) (iter (α := (Int × (List Program) × (List Link) × (Int × (Option (List Int)) × (List Actor) × (List (List Int)) × (List (List Int)) × (List (List Int)) × (List (List Int)) × Unit))) n (fun ih54 x53 => br (decide (x53.1 < (a1.length : Int))) (chk (0 ≤ x53.1 ∧ x53.1 < (a1.length : Int)) (let v55 := (a1.getD x53.1.toNat zLink); cut (α := ((List Program) × (List Link) × (Int × (Option (List Int)) × (List Actor) × (List (List Int)) × (List (List Int)) × (List (List Int)) × (List (List Int)) × Unit))) (br (decide (0 ≤ v55.2.2.1)) (chk (0 ≤ v55.2.2.1 ∧ v55.2.2.1 < (x53.2.2.2.2.2.2.2.2.1.length : Int)) (chk (0 ≤ v55.2.2.2.1 ∧ v55.2.2.2.1 < ((x53.2.2.2.2.2.2.2.2.1.getD v55.2.2.1.toNat []).length : Int)) (let v58 := (x53.2.2.2.2.2.2.2.2.1.set v55.2.2.1.toNat ((x53.2.2.2.2.2.2.2.2.1.getD v55.2.2.1.toNat []).set v55.2.2.2.1.toNat x53.1)); some (.inr (x53.2.1, (x53.2.2.1, (x53.2.2.2.1, (x53.2.2.2.2.1, (x53.2.2.2.2.2.1, (x53.2.2.2.2.2.2.1, (x53.2.2.2.2.2.2.2.1, (v58, (x53.2.2.2.2.2.2.2.2.2.1, ()))))))))))))) (some (.inr (x53.2.1, (x53.2.2.1, (x53.2.2.2.1, (x53.2.2.2.2.1, (x53.2.2.2.2.2.1, (x53.2.2.2.2.2.2.1, (x53.2.2.2.2.2.2.2.1, (x53.2.2.2.2.2.2.2.2.1, (x53.2.2.2.2.2.2.2.2.2.1, ())))))))))))) fun y57 => br (decide (0 ≤ v55.1)) (chk (0 ≤ v55.1 ∧ v55.1 < (y57.2.2.2.2.2.2.2.2.1.length : Int)) (chk (0 ≤ v55.2.1 ∧ v55.2.1 < ((y57.2.2.2.2.2.2.2.2.1.getD v55.1.toNat []).length : Int)) (let v59 := (y57.2.2.2.2.2.2.2.2.1.set v55.1.toNat ((y57.2.2.2.2.2.2.2.2.1.getD v55.1.toNat []).set v55.2.1.toNat x53.1)); ih54 ((w64 (x53.1 + 1)), (y57.1, (y57.2.1, (y57.2.2.1, (y57.2.2.2.1, (y57.2.2.2.2.1, (y57.2.2.2.2.2.1, (y57.2.2.2.2.2.2.1, (y57.2.2.2.2.2.2.2.1, (v59, ()))))))))))))) (ih54 ((w64 (x53.1 + 1)), (y57.1, (y57.2.1, (y57.2.2.1, (y57.2.2.2.1, (y57.2.2.2.2.1, (y57.2.2.2.2.2.1, (y57.2.2.2.2.2.2.1, (y57.2.2.2.2.2.2.2.1, (y57.2.2.2.2.2.2.2.2.1, ()))))))))))))) (some (x53.2.1, (x53.2.2.1, (x53.2.2.2.1, (x53.2.2.2.2.1, (x53.2.2.2.2.2.1, (x53.2.2.2.2.2.2.1, (x53.2.2.2.2.2.2.2.1, (x53.2.2.2.2.2.2.2.2.1, (x53.2.2.2.2.2.2.2.2.2.1, ()))))))))))) (0, (x33.2.1, (x33.2.2.1, (x33.2.2.2.1, (x33.2.2.2.2.1, (x33.2.2.2.2.2.1, (x33.2.2.2.2.2.2.1, (x33.2.2.2.2.2.2.2.1, (x33.2.2.2.2.2.2.2.2.1, (x33.2.2.2.2.2.2.2.2.2.1, ())))))))))))) (0, (a0, (a1, (r1.1.2.2.2, (a6, (r1.1.1, (r1.1.2.1, (r1.1.2.2.1, ([], ([], ()))))))))))
noncomputable def newRun.mng (n : Nat) : LMng := ⟨newRun.la, newRun.lb, fun x => newRun.f n x.1 x.2.1 x.2.2.1 x.2.2.2.1 x.2.2.2.2.1 x.2.2.2.2.2.1 x.2.2.2.2.2.2.1⟩
noncomputable def newRun.cfg (n : Nat) : Cfg := ⟨tys4, [(89, copyState.mng n)], [], []⟩
theorem newRun.eq : ∀ (n : Nat) (a0 : List Program) (a1 : List Link) (a2 : List Actor) (a3 : List (List Int)) (a4 : List (List Int)) (a5 : Int) (a6 : Option (List Int)) (mp : Mp), LMng.run (newRun.cfg n) n Tryz.f64 (annOf Tryz.f64 newRun.las) newRun.la newRun.lb (a0, (a1, (a2, (a3, (a4, (a5, (a6, mp))))))) = newRun.f n a0 a1 a2 a3 a4 a5 a6 := by
  intros
  kernel_rfl
theorem newRun.gof : GoF Tryz.prog 64 := ⟨_, Tryz.func64, by kernel_rfl, by kernel_rfl⟩
theorem newRun.sound (n : Nat) : LSound Tryz.prog 64 (newRun.mng n) := runL_sound (fn := Tryz.f64) (M := newRun.mng n) (c := newRun.cfg n) (regOK mixed (opOK (.of (c := newRun.cfg n) ⟨⟨copyState.sound n, copyState.gof⟩, trivial⟩) (.of (c := newRun.cfg n) trivial)) (tysOK tys4_ok)) (tysOK tys4_ok) Tryz.func64 (fun x => (newRun.eq n x.1 x.2.1 x.2.2.1 x.2.2.2.1 x.2.2.2.2.1 x.2.2.2.2.2.1 x.2.2.2.2.2.2.1 x.2.2.2.2.2.2.2).symm)

def want.las : List (Nat × LA) := []
noncomputable def want.f (n : Nat) (a0 : Program) (a1 : Actor) : Option (Int × (Int × Unit)) := br (decide (a1.1 = (a0.2.2.length : Int))) (some (0, (0, ()))) (chk (0 ≤ a1.1 ∧ a1.1 < (a0.2.2.length : Int)) (let v1 := (a0.2.2.getD a1.1.toNat zInstr); br (decide (v1.1 = 11)) (some (0, (0, ()))) (br (decide (v1.1 = 1)) (some (2, (v1.2.2.1, ()))) (br (decide (v1.1 = 2)) (some (3, (v1.2.2.1, ()))) (some (1, (0, ())))))))
noncomputable def want.mng (n : Nat) : Mng := ⟨[.val tProgram, .val tActor], [.val I, .val I], fun x => want.f n x.1 x.2.1⟩
noncomputable def want.cfg (n : Nat) : Cfg := ⟨tys4, [], [], []⟩
theorem want.eq : ∀ (n : Nat) (a0 : Program) (a1 : Actor), runF (want.cfg n) n Tryz.f79 (annOf Tryz.f79 want.las) [.val tProgram, .val tActor] [.val I, .val I] (a0, (a1, ())) = want.f n a0 a1 := by
  intros
  kernel_rfl
theorem want.gof : GoF Tryz.prog 79 := ⟨_, Tryz.func79, by kernel_rfl, by kernel_rfl⟩
theorem want.sound (n : Nat) : Sound Tryz.prog 79 (want.mng n) := runF_sound (fn := Tryz.f79) (m := want.mng n) (c := want.cfg n) (regOK mixed (opOK (.of (c := want.cfg n) trivial) (.of (c := want.cfg n) trivial)) (tysOK tys4_ok)) (tysOK tys4_ok) Tryz.func79 (fun x => (want.eq n x.1 x.2.1).symm)

def wants.las : List (Nat × LA) := []
noncomputable def wants.f (n : Nat) (a0 : Run) (a1 : Int) : Option (Int × (Int × Unit)) := chk (0 ≤ a1 ∧ a1 < (a0.1.1.length : Int)) (let v1 := (a0.1.1.getD a1.toNat zProgram); chk (0 ≤ a1 ∧ a1 < (a0.2.1.1.length : Int)) (let v2 := (a0.2.1.1.getD a1.toNat zActor); (want.f n v1 v2).bind fun r3 => br (decide (r3.1 = 2)) (chk (0 ≤ a1 ∧ a1 < (a0.2.2.1.length : Int)) (let v4 := (a0.2.2.1.getD a1.toNat []); chk (0 ≤ r3.2.1 ∧ r3.2.1 < (v4.length : Int)) (some (r3.1, ((v4.getD r3.2.1.toNat 0), ()))))) (br (decide (r3.1 = 3)) (chk (0 ≤ a1 ∧ a1 < (a0.2.2.2.1.length : Int)) (let v5 := (a0.2.2.2.1.getD a1.toNat []); chk (0 ≤ r3.2.1 ∧ r3.2.1 < (v5.length : Int)) (some (r3.1, ((v5.getD r3.2.1.toNat 0), ()))))) (some (r3.1, ((-1), ()))))))
noncomputable def wants.mng (n : Nat) : Mng := ⟨[.psh tRun, .val I], [.val I, .val I], fun x => wants.f n x.1 x.2.1⟩
noncomputable def wants.cfg (n : Nat) : Cfg := ⟨tys4, [(79, want.mng n)], [], []⟩
theorem wants.eq : ∀ (n : Nat) (a0 : Run) (a1 : Int), runF (wants.cfg n) n Tryz.f91 (annOf Tryz.f91 wants.las) [.psh tRun, .val I] [.val I, .val I] (a0, (a1, ())) = wants.f n a0 a1 := by
  intros
  kernel_rfl
theorem wants.gof : GoF Tryz.prog 91 := ⟨_, Tryz.func91, by kernel_rfl, by kernel_rfl⟩
theorem wants.sound (n : Nat) : Sound Tryz.prog 91 (wants.mng n) := runF_sound (fn := Tryz.f91) (m := wants.mng n) (c := wants.cfg n) (regOK mixed (opOK (.of (c := wants.cfg n) ⟨⟨want.sound n, want.gof⟩, trivial⟩) (.of (c := wants.cfg n) trivial)) (tysOK tys4_ok)) (tysOK tys4_ok) Tryz.func91 (fun x => (wants.eq n x.1 x.2.1).symm)

def can.las : List (Nat × LA) := [(3, ⟨[(13, .bool)], [], [0, 5, 6], []⟩)]
noncomputable def can.f (n : Nat) (a0 : Run) (a1 : Int) : Option (Bool × Unit) := (wants.f n a0 a1).bind fun r1 => cut (α := (Bool × Unit)) (br (decide (r1.1 = 0)) (some (.inr (true, ()))) (some (.inr ((decide (20000 ≤ a0.2.1.2.2.2)), ())))) fun y2 => br y2.1 (some (false, ())) (br (decide (r1.1 = 2)) (chk (0 ≤ r1.2.1 ∧ r1.2.1 < (a0.2.1.2.1.length : Int)) (let v3 := (a0.2.1.2.1.getD r1.2.1.toNat []); some ((decide (0 < (v3.length : Int))), ()))) (br (decide (r1.1 = 3)) (chk (0 ≤ r1.2.1 ∧ r1.2.1 < (a0.2.1.2.2.1.length : Int)) (let v4 := (a0.2.1.2.2.1.getD r1.2.1.toNat []); some ((decide ((v4.length : Int) < 400)), ()))) (some (true, ()))))
noncomputable def can.mng (n : Nat) : Mng := ⟨[.psh tRun, .val I], [.val .bool], fun x => can.f n x.1 x.2.1⟩
noncomputable def can.cfg (n : Nat) : Cfg := ⟨tys4, [(91, wants.mng n)], [], []⟩
theorem can.eq : ∀ (n : Nat) (a0 : Run) (a1 : Int), runF (can.cfg n) n Tryz.f90 (annOf Tryz.f90 can.las) [.psh tRun, .val I] [.val .bool] (a0, (a1, ())) = can.f n a0 a1 := by
  intros
  kernel_rfl
theorem can.gof : GoF Tryz.prog 90 := ⟨_, Tryz.func90, by kernel_rfl, by kernel_rfl⟩
theorem can.sound (n : Nat) : Sound Tryz.prog 90 (can.mng n) := runF_sound (fn := Tryz.f90) (m := can.mng n) (c := can.cfg n) (regOK mixed (opOK (.of (c := can.cfg n) ⟨⟨wants.sound n, wants.gof⟩, trivial⟩) (.of (c := can.cfg n) trivial)) (tysOK tys4_ok)) (tysOK tys4_ok) Tryz.func90 (fun x => (can.eq n x.1 x.2.1).symm)

def may.las : List (Nat × LA) := [(1, ⟨[(17, .bool)], [], [0, 1], []⟩)]
noncomputable def may.f (n : Nat) (a0 : Run) (a1 : Int) : Option (Bool × Unit) := cut (α := (Bool × Unit)) ((can.f n a0 a1).bind fun r3 => br (!r3.1) (some (.inr (true, ()))) (some (.inr (a0.2.2.2.2.isNone, ())))) fun y2 => br y2.1 ((can.f n a0 a1).bind fun r5 => some (r5.1, ())) ((wants.f n a0 a1).bind fun r6 => br (!decide (r6.1 = 3)) (some (true, ())) (chk (0 ≤ r6.2.1 ∧ r6.2.1 < (a0.1.2.length : Int)) (let v7 := (a0.1.2.getD r6.2.1.toNat zLink); br (decide (v7.2.2.1 < 0)) (some (true, ())) (chk (0 ≤ r6.2.1 ∧ r6.2.1 < (a0.2.1.2.1.length : Int)) (let v8 := (a0.2.1.2.1.getD r6.2.1.toNat []); chk (0 ≤ r6.2.1 ∧ r6.2.1 < ((a0.2.2.2.2.getD []).length : Int)) (let v9 := ((a0.2.2.2.2.getD []).getD r6.2.1.toNat 0); some ((decide ((v8.length : Int) < v9)), ())))))))
noncomputable def may.mng (n : Nat) : Mng := ⟨[.psh tRun, .val I], [.val .bool], fun x => may.f n x.1 x.2.1⟩
noncomputable def may.cfg (n : Nat) : Cfg := ⟨tys4, [(90, can.mng n), (91, wants.mng n)], [], []⟩
theorem may.eq : ∀ (n : Nat) (a0 : Run) (a1 : Int), runF (may.cfg n) n Tryz.f65 (annOf Tryz.f65 may.las) [.psh tRun, .val I] [.val .bool] (a0, (a1, ())) = may.f n a0 a1 := by
  intros
  kernel_rfl
theorem may.gof : GoF Tryz.prog 65 := ⟨_, Tryz.func65, by kernel_rfl, by kernel_rfl⟩
theorem may.sound (n : Nat) : Sound Tryz.prog 65 (may.mng n) := runF_sound (fn := Tryz.f65) (m := may.mng n) (c := may.cfg n) (regOK mixed (opOK (.of (c := may.cfg n) ⟨⟨can.sound n, can.gof⟩, ⟨⟨wants.sound n, wants.gof⟩, trivial⟩⟩) (.of (c := may.cfg n) trivial)) (tysOK tys4_ok)) (tysOK tys4_ok) Tryz.func65 (fun x => (may.eq n x.1 x.2.1).symm)

def quiet.las : List (Nat × LA) := [(3, ⟨[(10, .int .i64)], [], [0, 9], []⟩)]
noncomputable def quiet.f (n : Nat) (a0 : Run) : Option (Bool × Unit) := iter (α := (Int × Unit)) n (fun ih6 x5 => br (decide (x5.1 < (a0.1.1.length : Int))) ((can.f n a0 x5.1).bind fun r7 => br r7.1 (some (false, ())) (ih6 ((w64 (x5.1 + 1)), ()))) (some (true, ()))) (0, ())
noncomputable def quiet.mng (n : Nat) : Mng := ⟨[.psh tRun], [.val .bool], fun x => quiet.f n x.1⟩
noncomputable def quiet.cfg (n : Nat) : Cfg := ⟨tys4, [(90, can.mng n)], [], []⟩
theorem quiet.eq : ∀ (n : Nat) (a0 : Run), runF (quiet.cfg n) n Tryz.f67 (annOf Tryz.f67 quiet.las) [.psh tRun] [.val .bool] (a0, ()) = quiet.f n a0 := by
  intros
  kernel_rfl
theorem quiet.gof : GoF Tryz.prog 67 := ⟨_, Tryz.func67, by kernel_rfl, by kernel_rfl⟩
theorem quiet.sound (n : Nat) : Sound Tryz.prog 67 (quiet.mng n) := runF_sound (fn := Tryz.f67) (m := quiet.mng n) (c := quiet.cfg n) (regOK mixed (opOK (.of (c := quiet.cfg n) ⟨⟨can.sound n, can.gof⟩, trivial⟩) (.of (c := quiet.cfg n) trivial)) (tysOK tys4_ok)) (tysOK tys4_ok) Tryz.func67 (fun x => (quiet.eq n x.1).symm)

def sL2Want.las : List (Nat × LA) := []
noncomputable def sL2Want.f (n : Nat) (a0 : Program) (a1 : Actor) : Option (Int × (Int × Unit)) := br (decide (a1.1 = (a0.2.2.length : Int))) (some (0, (0, ()))) (chk (0 ≤ a1.1 ∧ a1.1 < (a0.2.2.length : Int)) (let v1 := (a0.2.2.getD a1.1.toNat zInstr); br (decide (v1.1 = 11)) (some (0, (0, ()))) (br (decide (v1.1 = 1)) (some (2, (v1.2.2.1, ()))) (br (decide (v1.1 = 2)) (some (3, (v1.2.2.1, ()))) (some (1, (0, ())))))))
noncomputable def sL2Want.mng (n : Nat) : Mng := ⟨[.val tProgram, .val tActor], [.val I, .val I], fun x => sL2Want.f n x.1 x.2.1⟩
noncomputable def sL2Want.cfg (n : Nat) : Cfg := ⟨tys4, [], [], []⟩
theorem sL2Want.eq : ∀ (n : Nat) (a0 : Program) (a1 : Actor), runF (sL2Want.cfg n) n Tryz.f84 (annOf Tryz.f84 sL2Want.las) [.val tProgram, .val tActor] [.val I, .val I] (a0, (a1, ())) = sL2Want.f n a0 a1 := by
  intros
  kernel_rfl
theorem sL2Want.gof : GoF Tryz.prog 84 := ⟨_, Tryz.func84, by kernel_rfl, by kernel_rfl⟩
theorem sL2Want.sound (n : Nat) : Sound Tryz.prog 84 (sL2Want.mng n) := runF_sound (fn := Tryz.f84) (m := sL2Want.mng n) (c := sL2Want.cfg n) (regOK mixed (opOK (.of (c := sL2Want.cfg n) trivial) (.of (c := sL2Want.cfg n) trivial)) (tysOK tys4_ok)) (tysOK tys4_ok) Tryz.func84 (fun x => (sL2Want.eq n x.1 x.2.1).symm)
end Go.AmT
