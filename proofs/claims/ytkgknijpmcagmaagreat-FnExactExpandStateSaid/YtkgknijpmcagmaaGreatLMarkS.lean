/- Functions that the law FnExactExpandState reaches, each as a plain Lean function, and that each does what that says. No condition. -/
import Derived.Test.YtkgknijpmcagmaaGreatPMark
import Derived.Test.YtkgknijpmcagmaaGreatPSt
namespace Go.AmT
open Go Go.Am Go.Proofs
set_option linter.unusedVariables false
set_option maxRecDepth 100000
def tys8 : List (Nat × TInfo) := [(3, ⟨false, 1, 8, [.int .i64 0], .int .i64, 0, some I, [], false⟩),
  (27, ⟨false, 1, 24, [.nil], .slice, 75, some (.sl IS), [], false⟩),
  (32, ⟨false, 1, 24, [.nil], .slice, 77, some (.sl tActor), [], false⟩),
  (34, ⟨true, 4, 80, [.nil, .nil, .nil, .int .i64 0], .struct, 0, some tState, [(0, 32), (1, 27), (2, 27), (3, 3)], false⟩),
  (75, ⟨false, 1, 24, [.nil], .slice, 3, some IS, [], false⟩),
  (77, ⟨true, 2, 32, [.int .i64 0, .nil], .struct, 0, some tActor, [(0, 3), (1, 75)], false⟩)]
theorem tys8_ok : (tys8.all fun p => tokB Tryz.prog p.1 p.2) = true := by kernel_rfl

def markIntA.las : List (Nat × LA) := [(3, ⟨[(0, .ownp 0 tActor 1 I), (1, .int .i64), (5, .int .i64)], [(0, .row true tActor)], [], []⟩)]
def markIntA.la : LA := ⟨[(0, .ownp 0 tActor 1 I), (1, .int .i64)], [(0, .row true tActor)], [], []⟩
def markIntA.lb : LA := ⟨[(0, .int .i64)], [(0, .row true tActor)], [], []⟩
noncomputable def markIntA.f (n : Nat) (a0 : Nat) (a1 : Int) (a2 : List Actor) : Option (Int × (List Actor) × Unit) := iter (α := (Nat × (Int × (Int × (List Actor) × Unit)))) n (fun ih7 x6 => br (decide (x6.2.2.1 < ((x6.2.2.2.1.getD x6.1 zActor).2.length : Int))) (chk (0 ≤ x6.2.2.1 ∧ x6.2.2.1 < ((x6.2.2.2.1.getD x6.1 zActor).2.length : Int)) (let v8 := (x6.2.2.2.1.set x6.1 ((x6.2.2.2.1.getD x6.1 zActor).1, ((x6.2.2.2.1.getD x6.1 zActor).2.set x6.2.2.1.toNat x6.2.1))); ih7 (x6.1, ((w64 (x6.2.1 + 1)), ((w64 (x6.2.2.1 + 1)), (v8, ())))))) (some (x6.2.1, (x6.2.2.2.1, ())))) (a0, (a1, (0, (a2, ()))))
noncomputable def markIntA.mng (n : Nat) : LMng := ⟨markIntA.la, markIntA.lb, fun x => markIntA.f n x.1 x.2.1 x.2.2.1⟩
noncomputable def markIntA.cfg (n : Nat) : Cfg := ⟨tys8, [], [], []⟩
theorem markIntA.eq : ∀ (n : Nat) (a0 : Nat) (a1 : Int) (a2 : List Actor) (mp : Mp), LMng.run (markIntA.cfg n) n Tryz.f122 (annOf Tryz.f122 markIntA.las) markIntA.la markIntA.lb (a0, (a1, (a2, mp))) = markIntA.f n a0 a1 a2 := by
  intros
  kernel_rfl
theorem markIntA.gof : GoF Tryz.prog 122 := ⟨_, Tryz.func122, by kernel_rfl, by kernel_rfl⟩
theorem markIntA.sound (n : Nat) : LSound Tryz.prog 122 (markIntA.mng n) := runL_sound (fn := Tryz.f122) (M := markIntA.mng n) (c := markIntA.cfg n) (regOK mixed (opOK (.of (c := markIntA.cfg n) trivial) (.of (c := markIntA.cfg n) trivial)) (tysOK tys8_ok)) (tysOK tys8_ok) Tryz.func122 (fun x => (markIntA.eq n x.1 x.2.1 x.2.2.1 x.2.2.2).symm)

def markActorS.las : List (Nat × LA) := [(3, ⟨[(0, .own 0 tActor), (1, .int .i64), (5, .int .i64)], [(0, .row true tActor)], [], []⟩)]
noncomputable def markActorS.f (n : Nat) (a0 : List Actor) (a1 : Int) : Option (Int × (List Actor) × Unit) := iter (α := (Int × (Int × (List Actor) × Unit))) n (fun ih7 x6 => br (decide (x6.2.1 < (x6.2.2.1.length : Int))) (chk (0 ≤ x6.2.1 ∧ x6.2.1 < (x6.2.2.1.length : Int)) (let v8 := (x6.2.2.1.set x6.2.1.toNat (x6.1, (x6.2.2.1.getD x6.2.1.toNat zActor).2)); chk (0 ≤ x6.2.1 ∧ x6.2.1 < (v8.length : Int)) ((markIntA.f n x6.2.1.toNat (w64 (x6.1 + 1)) v8).bind fun r9 => ih7 (r9.1, ((w64 (x6.2.1 + 1)), (r9.2.1, ())))))) (some (x6.1, (x6.2.2.1, ())))) (a1, (0, (a0, ())))
noncomputable def markActorS.mng (n : Nat) : Mng := ⟨[.io (.sl tActor), .val I], [.val I], fun x => markActorS.f n x.1 x.2.1⟩
noncomputable def markActorS.cfg (n : Nat) : Cfg := ⟨tys8, [], [(122, markIntA.mng n)], []⟩
theorem markActorS.eq : ∀ (n : Nat) (a0 : List Actor) (a1 : Int), runF (markActorS.cfg n) n Tryz.f56 (annOf Tryz.f56 markActorS.las) [.io (.sl tActor), .val I] [.val I] (a0, (a1, ())) = markActorS.f n a0 a1 := by
  intros
  kernel_rfl
theorem markActorS.gof : GoF Tryz.prog 56 := ⟨_, Tryz.func56, by kernel_rfl, by kernel_rfl⟩
theorem markActorS.sound (n : Nat) : Sound Tryz.prog 56 (markActorS.mng n) := runF_sound (fn := Tryz.f56) (m := markActorS.mng n) (c := markActorS.cfg n) (regOK mixed (opOK (.of (c := markActorS.cfg n) trivial) (.of (c := markActorS.cfg n) ⟨⟨markIntA.sound n, markIntA.gof⟩, trivial⟩)) (tysOK tys8_ok)) (tysOK tys8_ok) Tryz.func56 (fun x => (markActorS.eq n x.1 x.2.1).symm)

def markIntQ.las : List (Nat × LA) := [(3, ⟨[(0, .ownp 0 IS 0 I), (1, .int .i64), (5, .int .i64)], [(0, .row true IS)], [], []⟩)]
def markIntQ.la : LA := ⟨[(0, .ownp 0 IS 0 I), (1, .int .i64)], [(0, .row true IS)], [], []⟩
def markIntQ.lb : LA := ⟨[(0, .int .i64)], [(0, .row true IS)], [], []⟩
noncomputable def markIntQ.f (n : Nat) (a0 : Nat) (a1 : Int) (a2 : List (List Int)) : Option (Int × (List (List Int)) × Unit) := iter (α := (Nat × (Int × (Int × (List (List Int)) × Unit)))) n (fun ih7 x6 => br (decide (x6.2.2.1 < ((x6.2.2.2.1.getD x6.1 []).length : Int))) (chk (0 ≤ x6.2.2.1 ∧ x6.2.2.1 < ((x6.2.2.2.1.getD x6.1 []).length : Int)) (let v8 := (x6.2.2.2.1.set x6.1 ((x6.2.2.2.1.getD x6.1 []).set x6.2.2.1.toNat x6.2.1)); ih7 (x6.1, ((w64 (x6.2.1 + 1)), ((w64 (x6.2.2.1 + 1)), (v8, ())))))) (some (x6.2.1, (x6.2.2.2.1, ())))) (a0, (a1, (0, (a2, ()))))
noncomputable def markIntQ.mng (n : Nat) : LMng := ⟨markIntQ.la, markIntQ.lb, fun x => markIntQ.f n x.1 x.2.1 x.2.2.1⟩
noncomputable def markIntQ.cfg (n : Nat) : Cfg := ⟨tys8, [], [], []⟩
theorem markIntQ.eq : ∀ (n : Nat) (a0 : Nat) (a1 : Int) (a2 : List (List Int)) (mp : Mp), LMng.run (markIntQ.cfg n) n Tryz.f122 (annOf Tryz.f122 markIntQ.las) markIntQ.la markIntQ.lb (a0, (a1, (a2, mp))) = markIntQ.f n a0 a1 a2 := by
  intros
  kernel_rfl
theorem markIntQ.gof : GoF Tryz.prog 122 := ⟨_, Tryz.func122, by kernel_rfl, by kernel_rfl⟩
theorem markIntQ.sound (n : Nat) : LSound Tryz.prog 122 (markIntQ.mng n) := runL_sound (fn := Tryz.f122) (M := markIntQ.mng n) (c := markIntQ.cfg n) (regOK mixed (opOK (.of (c := markIntQ.cfg n) trivial) (.of (c := markIntQ.cfg n) trivial)) (tysOK tys8_ok)) (tysOK tys8_ok) Tryz.func122 (fun x => (markIntQ.eq n x.1 x.2.1 x.2.2.1 x.2.2.2).symm)

def markIntSS.las : List (Nat × LA) := [(3, ⟨[(0, .own 0 IS), (1, .int .i64), (5, .int .i64)], [(0, .row true IS)], [], []⟩)]
noncomputable def markIntSS.f (n : Nat) (a0 : List (List Int)) (a1 : Int) : Option (Int × (List (List Int)) × Unit) := iter (α := (Int × (Int × (List (List Int)) × Unit))) n (fun ih6 x5 => br (decide (x5.2.1 < (x5.2.2.1.length : Int))) (chk (0 ≤ x5.2.1 ∧ x5.2.1 < (x5.2.2.1.length : Int)) ((markIntQ.f n x5.2.1.toNat x5.1 x5.2.2.1).bind fun r7 => ih6 (r7.1, ((w64 (x5.2.1 + 1)), (r7.2.1, ()))))) (some (x5.1, (x5.2.2.1, ())))) (a1, (0, (a0, ())))
noncomputable def markIntSS.mng (n : Nat) : Mng := ⟨[.io (.sl IS), .val I], [.val I], fun x => markIntSS.f n x.1 x.2.1⟩
noncomputable def markIntSS.cfg (n : Nat) : Cfg := ⟨tys8, [], [(122, markIntQ.mng n)], []⟩
theorem markIntSS.eq : ∀ (n : Nat) (a0 : List (List Int)) (a1 : Int), runF (markIntSS.cfg n) n Tryz.f57 (annOf Tryz.f57 markIntSS.las) [.io (.sl IS), .val I] [.val I] (a0, (a1, ())) = markIntSS.f n a0 a1 := by
  intros
  kernel_rfl
theorem markIntSS.gof : GoF Tryz.prog 57 := ⟨_, Tryz.func57, by kernel_rfl, by kernel_rfl⟩
theorem markIntSS.sound (n : Nat) : Sound Tryz.prog 57 (markIntSS.mng n) := runF_sound (fn := Tryz.f57) (m := markIntSS.mng n) (c := markIntSS.cfg n) (regOK mixed (opOK (.of (c := markIntSS.cfg n) trivial) (.of (c := markIntSS.cfg n) ⟨⟨markIntQ.sound n, markIntQ.gof⟩, trivial⟩)) (tysOK tys8_ok)) (tysOK tys8_ok) Tryz.func57 (fun x => (markIntSS.eq n x.1 x.2.1).symm)

def markState.las : List (Nat × LA) := []
noncomputable def markState.f (n : Nat) (a0 : State) (a1 : Int) : Option (Int × (List Actor) × (List (List Int)) × (List (List Int)) × Unit) := (markActorS.f n a0.1 a1).bind fun r1 => (markIntSS.f n a0.2.1 r1.1).bind fun r2 => (markIntSS.f n a0.2.2.1 r2.1).bind fun r3 => some (r3.1, (r1.2.1, (r2.2.1, (r3.2.1, ()))))
noncomputable def markState.mng (n : Nat) : Mng := ⟨[.io tState, .val I], [.val I], fun x => markState.f n x.1 x.2.1⟩
noncomputable def markState.cfg (n : Nat) : Cfg := ⟨tys8, [(56, markActorS.mng n), (57, markIntSS.mng n)], [], []⟩
theorem markState.eq : ∀ (n : Nat) (a0 : State) (a1 : Int), runF (markState.cfg n) n Tryz.f14 (annOf Tryz.f14 markState.las) [.io tState, .val I] [.val I] (a0, (a1, ())) = markState.f n a0 a1 := by
  intros
  kernel_rfl
theorem markState.gof : GoF Tryz.prog 14 := ⟨_, Tryz.func14, by kernel_rfl, by kernel_rfl⟩
theorem markState.sound (n : Nat) : Sound Tryz.prog 14 (markState.mng n) := runF_sound (fn := Tryz.f14) (m := markState.mng n) (c := markState.cfg n) (regOK mixed (opOK (.of (c := markState.cfg n) ⟨⟨markActorS.sound n, markActorS.gof⟩, ⟨⟨markIntSS.sound n, markIntSS.gof⟩, trivial⟩⟩) (.of (c := markState.cfg n) trivial)) (tysOK tys8_ok)) (tysOK tys8_ok) Tryz.func14 (fun x => (markState.eq n x.1 x.2.1).symm)

def heldActorS.las : List (Nat × LA) := [(3, ⟨[(1, .int .i64), (5, .int .i64)], [], [0], []⟩)]
noncomputable def heldActorS.f (n : Nat) (a0 : List Actor) (a1 : Int) : Option (Int × Unit) := iter (α := (Int × (Int × Unit))) n (fun ih8 x7 => br (decide (x7.2.1 < (a0.length : Int))) (chk (0 ≤ x7.2.1 ∧ x7.2.1 < (a0.length : Int)) (let v9 := (a0.getD x7.2.1.toNat zActor); br (!decide (v9.1 = x7.1)) (some ((-1), ())) (chk (0 ≤ x7.2.1 ∧ x7.2.1 < (a0.length : Int)) (let v10 := (a0.getD x7.2.1.toNat zActor); (heldIntS.f n v10.2 (w64 (x7.1 + 1))).bind fun r11 => br (decide (r11.1 < 0)) (some ((-1), ())) (ih8 (r11.1, ((w64 (x7.2.1 + 1)), ()))))))) (some (x7.1, ()))) (a1, (0, ()))
noncomputable def heldActorS.mng (n : Nat) : Mng := ⟨[.val (.sl tActor), .val I], [.val I], fun x => heldActorS.f n x.1 x.2.1⟩
noncomputable def heldActorS.cfg (n : Nat) : Cfg := ⟨tys8, [(123, heldIntS.mng n)], [], []⟩
theorem heldActorS.eq : ∀ (n : Nat) (a0 : List Actor) (a1 : Int), runF (heldActorS.cfg n) n Tryz.f58 (annOf Tryz.f58 heldActorS.las) [.val (.sl tActor), .val I] [.val I] (a0, (a1, ())) = heldActorS.f n a0 a1 := by
  intros
  kernel_rfl
theorem heldActorS.gof : GoF Tryz.prog 58 := ⟨_, Tryz.func58, by kernel_rfl, by kernel_rfl⟩
theorem heldActorS.sound (n : Nat) : Sound Tryz.prog 58 (heldActorS.mng n) := runF_sound (fn := Tryz.f58) (m := heldActorS.mng n) (c := heldActorS.cfg n) (regOK mixed (opOK (.of (c := heldActorS.cfg n) ⟨⟨heldIntS.sound n, heldIntS.gof⟩, trivial⟩) (.of (c := heldActorS.cfg n) trivial)) (tysOK tys8_ok)) (tysOK tys8_ok) Tryz.func58 (fun x => (heldActorS.eq n x.1 x.2.1).symm)

def heldIntSS.las : List (Nat × LA) := [(3, ⟨[(1, .int .i64), (5, .int .i64)], [], [0], []⟩)]
noncomputable def heldIntSS.f (n : Nat) (a0 : List (List Int)) (a1 : Int) : Option (Int × Unit) := iter (α := (Int × (Int × Unit))) n (fun ih6 x5 => br (decide (x5.2.1 < (a0.length : Int))) (chk (0 ≤ x5.2.1 ∧ x5.2.1 < (a0.length : Int)) (let v7 := (a0.getD x5.2.1.toNat []); (heldIntS.f n v7 x5.1).bind fun r8 => br (decide (r8.1 < 0)) (some ((-1), ())) (ih6 (r8.1, ((w64 (x5.2.1 + 1)), ()))))) (some (x5.1, ()))) (a1, (0, ()))
noncomputable def heldIntSS.mng (n : Nat) : Mng := ⟨[.val (.sl IS), .val I], [.val I], fun x => heldIntSS.f n x.1 x.2.1⟩
noncomputable def heldIntSS.cfg (n : Nat) : Cfg := ⟨tys8, [(123, heldIntS.mng n)], [], []⟩
theorem heldIntSS.eq : ∀ (n : Nat) (a0 : List (List Int)) (a1 : Int), runF (heldIntSS.cfg n) n Tryz.f59 (annOf Tryz.f59 heldIntSS.las) [.val (.sl IS), .val I] [.val I] (a0, (a1, ())) = heldIntSS.f n a0 a1 := by
  intros
  kernel_rfl
theorem heldIntSS.gof : GoF Tryz.prog 59 := ⟨_, Tryz.func59, by kernel_rfl, by kernel_rfl⟩
theorem heldIntSS.sound (n : Nat) : Sound Tryz.prog 59 (heldIntSS.mng n) := runF_sound (fn := Tryz.f59) (m := heldIntSS.mng n) (c := heldIntSS.cfg n) (regOK mixed (opOK (.of (c := heldIntSS.cfg n) ⟨⟨heldIntS.sound n, heldIntS.gof⟩, trivial⟩) (.of (c := heldIntSS.cfg n) trivial)) (tysOK tys8_ok)) (tysOK tys8_ok) Tryz.func59 (fun x => (heldIntSS.eq n x.1 x.2.1).symm)

def heldState.las : List (Nat × LA) := []
noncomputable def heldState.f (n : Nat) (a0 : State) (a1 : Int) : Option (Int × Unit) := (heldActorS.f n a0.1 a1).bind fun r1 => br (decide (r1.1 < 0)) (some ((-1), ())) ((heldIntSS.f n a0.2.1 r1.1).bind fun r2 => br (decide (r2.1 < 0)) (some ((-1), ())) ((heldIntSS.f n a0.2.2.1 r2.1).bind fun r3 => br (decide (r3.1 < 0)) (some ((-1), ())) (some (r3.1, ()))))
noncomputable def heldState.mng (n : Nat) : Mng := ⟨[.val tState, .val I], [.val I], fun x => heldState.f n x.1 x.2.1⟩
noncomputable def heldState.cfg (n : Nat) : Cfg := ⟨tys8, [(58, heldActorS.mng n), (59, heldIntSS.mng n)], [], []⟩
theorem heldState.eq : ∀ (n : Nat) (a0 : State) (a1 : Int), runF (heldState.cfg n) n Tryz.f15 (annOf Tryz.f15 heldState.las) [.val tState, .val I] [.val I] (a0, (a1, ())) = heldState.f n a0 a1 := by
  intros
  kernel_rfl
theorem heldState.gof : GoF Tryz.prog 15 := ⟨_, Tryz.func15, by kernel_rfl, by kernel_rfl⟩
theorem heldState.sound (n : Nat) : Sound Tryz.prog 15 (heldState.mng n) := runF_sound (fn := Tryz.f15) (m := heldState.mng n) (c := heldState.cfg n) (regOK mixed (opOK (.of (c := heldState.cfg n) ⟨⟨heldActorS.sound n, heldActorS.gof⟩, ⟨⟨heldIntSS.sound n, heldIntSS.gof⟩, trivial⟩⟩) (.of (c := heldState.cfg n) trivial)) (tysOK tys8_ok)) (tysOK tys8_ok) Tryz.func15 (fun x => (heldState.eq n x.1 x.2.1).symm)
end Go.AmT
