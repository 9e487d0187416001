/- Functions that the law FnExactParseState reaches, each as a plain Lean function, and that each does what that says. No condition. -/
import Derived.Test.YtgddbcdkhfdojaaGreatDoorPMark
import Derived.Test.YtgddbcdkhfdojaaGreatDoorPSt
namespace Go.AmT
open Go Go.Am Go.Proofs
set_option linter.unusedVariables false
set_option maxRecDepth 100000
def tys4 : List (Nat × TInfo) := [(3, ⟨false, 1, 8, [.int .i64 0], .int .i64, 0, some I, [], false⟩),
  (36, ⟨false, 1, 24, [.nil], .slice, 103, some (.sl tActor), [], false⟩),
  (37, ⟨false, 1, 24, [.nil], .slice, 49, some (.sl IS), [], false⟩),
  (39, ⟨true, 4, 80, [.nil, .nil, .nil, .int .i64 0], .struct, 0, some tState, [(0, 36), (1, 37), (2, 37), (3, 3)], false⟩),
  (49, ⟨false, 1, 24, [.nil], .slice, 3, some IS, [], false⟩),
  (103, ⟨true, 2, 32, [.int .i64 0, .nil], .struct, 0, some tActor, [(0, 3), (1, 49)], false⟩)]
theorem tys4_ok : (tys4.all fun p => tokB Tryz.prog p.1 p.2) = true := by kernel_rfl

def markIntA.las : List (Nat × LA) := [(3, ⟨[(0, .ownp 0 tActor 1 I), (1, .int .i64), (5, .int .i64)], [(0, .row true tActor)], [], []⟩)]
def markIntA.la : LA := ⟨[(0, .ownp 0 tActor 1 I), (1, .int .i64)], [(0, .row true tActor)], [], []⟩
def markIntA.lb : LA := ⟨[(0, .int .i64)], [(0, .row true tActor)], [], []⟩
noncomputable def markIntA.f (n : Nat) (a0 : Nat) (a1 : Int) (a2 : List Actor) : Option (Int × (List Actor) × Unit) := iter (α := (Nat × (Int × (Int × (List Actor) × Unit)))) n (fun ih7 x6 => br (decide (x6.2.2.1 < ((x6.2.2.2.1.getD x6.1 zActor).2.length : Int))) (chk (0 ≤ x6.2.2.1 ∧ x6.2.2.1 < ((x6.2.2.2.1.getD x6.1 zActor).2.length : Int)) (let v8 := (x6.2.2.2.1.set x6.1 ((x6.2.2.2.1.getD x6.1 zActor).1, ((x6.2.2.2.1.getD x6.1 zActor).2.set x6.2.2.1.toNat x6.2.1))); ih7 (x6.1, ((w64 (x6.2.1 + 1)), ((w64 (x6.2.2.1 + 1)), (v8, ())))))) (some (x6.2.1, (x6.2.2.2.1, ())))) (a0, (a1, (0, (a2, ()))))
noncomputable def markIntA.mng (n : Nat) : LMng := ⟨markIntA.la, markIntA.lb, fun x => markIntA.f n x.1 x.2.1 x.2.2.1⟩
noncomputable def markIntA.cfg (n : Nat) : Cfg := ⟨tys4, [], [], []⟩
theorem markIntA.eq : ∀ (n : Nat) (a0 : Nat) (a1 : Int) (a2 : List Actor) (mp : Mp), LMng.run (markIntA.cfg n) n Tryz.f113 (annOf Tryz.f113 markIntA.las) markIntA.la markIntA.lb (a0, (a1, (a2, mp))) = markIntA.f n a0 a1 a2 := by
  intros
  kernel_rfl
theorem markIntA.gof : GoF Tryz.prog 113 := ⟨_, Tryz.func113, by kernel_rfl, by kernel_rfl⟩
theorem markIntA.sound (n : Nat) : LSound Tryz.prog 113 (markIntA.mng n) := runL_sound (fn := Tryz.f113) (M := markIntA.mng n) (c := markIntA.cfg n) (regOK mixed (opOK (.of (c := markIntA.cfg n) trivial) (.of (c := markIntA.cfg n) trivial)) (tysOK tys4_ok)) (tysOK tys4_ok) Tryz.func113 (fun x => (markIntA.eq n x.1 x.2.1 x.2.2.1 x.2.2.2).symm)

def markActorS.las : List (Nat × LA) := [(3, ⟨[(0, .own 0 tActor), (1, .int .i64), (5, .int .i64)], [(0, .row true tActor)], [], []⟩)]
noncomputable def markActorS.f (n : Nat) (a0 : List Actor) (a1 : Int) : Option (Int × (List Actor) × Unit) := iter (α := (Int × (Int × (List Actor) × Unit))) n (fun ih7 x6 => br (decide (x6.2.1 < (x6.2.2.1.length : Int))) (chk (0 ≤ x6.2.1 ∧ x6.2.1 < (x6.2.2.1.length : Int)) (let v8 := (x6.2.2.1.set x6.2.1.toNat (x6.1, (x6.2.2.1.getD x6.2.1.toNat zActor).2)); chk (0 ≤ x6.2.1 ∧ x6.2.1 < (v8.length : Int)) ((markIntA.f n x6.2.1.toNat (w64 (x6.1 + 1)) v8).bind fun r9 => ih7 (r9.1, ((w64 (x6.2.1 + 1)), (r9.2.1, ())))))) (some (x6.1, (x6.2.2.1, ())))) (a1, (0, (a0, ())))
noncomputable def markActorS.mng (n : Nat) : Mng := ⟨[.io (.sl tActor), .val I], [.val I], fun x => markActorS.f n x.1 x.2.1⟩
noncomputable def markActorS.cfg (n : Nat) : Cfg := ⟨tys4, [], [(113, markIntA.mng n)], []⟩
theorem markActorS.eq : ∀ (n : Nat) (a0 : List Actor) (a1 : Int), runF (markActorS.cfg n) n Tryz.f66 (annOf Tryz.f66 markActorS.las) [.io (.sl tActor), .val I] [.val I] (a0, (a1, ())) = markActorS.f n a0 a1 := by
  intros
  kernel_rfl
theorem markActorS.gof : GoF Tryz.prog 66 := ⟨_, Tryz.func66, by kernel_rfl, by kernel_rfl⟩
theorem markActorS.sound (n : Nat) : Sound Tryz.prog 66 (markActorS.mng n) := runF_sound (fn := Tryz.f66) (m := markActorS.mng n) (c := markActorS.cfg n) (regOK mixed (opOK (.of (c := markActorS.cfg n) trivial) (.of (c := markActorS.cfg n) ⟨⟨markIntA.sound n, markIntA.gof⟩, trivial⟩)) (tysOK tys4_ok)) (tysOK tys4_ok) Tryz.func66 (fun x => (markActorS.eq n x.1 x.2.1).symm)

def markIntQ.las : List (Nat × LA) := [(3, ⟨[(0, .ownp 0 IS 0 I), (1, .int .i64), (5, .int .i64)], [(0, .row true IS)], [], []⟩)]
def markIntQ.la : LA := ⟨[(0, .ownp 0 IS 0 I), (1, .int .i64)], [(0, .row true IS)], [], []⟩
def markIntQ.lb : LA := ⟨[(0, .int .i64)], [(0, .row true IS)], [], []⟩
noncomputable def markIntQ.f (n : Nat) (a0 : Nat) (a1 : Int) (a2 : List (List Int)) : Option (Int × (List (List Int)) × Unit) := iter (α := (Nat × (Int × (Int × (List (List Int)) × Unit)))) n (fun ih7 x6 => br (decide (x6.2.2.1 < ((x6.2.2.2.1.getD x6.1 []).length : Int))) (chk (0 ≤ x6.2.2.1 ∧ x6.2.2.1 < ((x6.2.2.2.1.getD x6.1 []).length : Int)) (let v8 := (x6.2.2.2.1.set x6.1 ((x6.2.2.2.1.getD x6.1 []).set x6.2.2.1.toNat x6.2.1)); ih7 (x6.1, ((w64 (x6.2.1 + 1)), ((w64 (x6.2.2.1 + 1)), (v8, ())))))) (some (x6.2.1, (x6.2.2.2.1, ())))) (a0, (a1, (0, (a2, ()))))
noncomputable def markIntQ.mng (n : Nat) : LMng := ⟨markIntQ.la, markIntQ.lb, fun x => markIntQ.f n x.1 x.2.1 x.2.2.1⟩
noncomputable def markIntQ.cfg (n : Nat) : Cfg := ⟨tys4, [], [], []⟩
theorem markIntQ.eq : ∀ (n : Nat) (a0 : Nat) (a1 : Int) (a2 : List (List Int)) (mp : Mp), LMng.run (markIntQ.cfg n) n Tryz.f113 (annOf Tryz.f113 markIntQ.las) markIntQ.la markIntQ.lb (a0, (a1, (a2, mp))) = markIntQ.f n a0 a1 a2 := by
  intros
  kernel_rfl
theorem markIntQ.gof : GoF Tryz.prog 113 := ⟨_, Tryz.func113, by kernel_rfl, by kernel_rfl⟩
theorem markIntQ.sound (n : Nat) : LSound Tryz.prog 113 (markIntQ.mng n) := runL_sound (fn := Tryz.f113) (M := markIntQ.mng n) (c := markIntQ.cfg n) (regOK mixed (opOK (.of (c := markIntQ.cfg n) trivial) (.of (c := markIntQ.cfg n) trivial)) (tysOK tys4_ok)) (tysOK tys4_ok) Tryz.func113 (fun x => (markIntQ.eq n x.1 x.2.1 x.2.2.1 x.2.2.2).symm)

def markIntSS.las : List (Nat × LA) := [(3, ⟨[(0, .own 0 IS), (1, .int .i64), (5, .int .i64)], [(0, .row true IS)], [], []⟩)]
noncomputable def markIntSS.f (n : Nat) (a0 : List (List Int)) (a1 : Int) : Option (Int × (List (List Int)) × Unit) := iter (α := (Int × (Int × (List (List Int)) × Unit))) n (fun ih6 x5 => br (decide (x5.2.1 < (x5.2.2.1.length : Int))) (chk (0 ≤ x5.2.1 ∧ x5.2.1 < (x5.2.2.1.length : Int)) ((markIntQ.f n x5.2.1.toNat x5.1 x5.2.2.1).bind fun r7 => ih6 (r7.1, ((w64 (x5.2.1 + 1)), (r7.2.1, ()))))) (some (x5.1, (x5.2.2.1, ())))) (a1, (0, (a0, ())))
noncomputable def markIntSS.mng (n : Nat) : Mng := ⟨[.io (.sl IS), .val I], [.val I], fun x => markIntSS.f n x.1 x.2.1⟩
noncomputable def markIntSS.cfg (n : Nat) : Cfg := ⟨tys4, [], [(113, markIntQ.mng n)], []⟩
theorem markIntSS.eq : ∀ (n : Nat) (a0 : List (List Int)) (a1 : Int), runF (markIntSS.cfg n) n Tryz.f67 (annOf Tryz.f67 markIntSS.las) [.io (.sl IS), .val I] [.val I] (a0, (a1, ())) = markIntSS.f n a0 a1 := by
  intros
  kernel_rfl
theorem markIntSS.gof : GoF Tryz.prog 67 := ⟨_, Tryz.func67, by kernel_rfl, by kernel_rfl⟩
theorem markIntSS.sound (n : Nat) : Sound Tryz.prog 67 (markIntSS.mng n) := runF_sound (fn := Tryz.f67) (m := markIntSS.mng n) (c := markIntSS.cfg n) (regOK mixed (opOK (.of (c := markIntSS.cfg n) trivial) (.of (c := markIntSS.cfg n) ⟨⟨markIntQ.sound n, markIntQ.gof⟩, trivial⟩)) (tysOK tys4_ok)) (tysOK tys4_ok) Tryz.func67 (fun x => (markIntSS.eq n x.1 x.2.1).symm)

def markState.las : List (Nat × LA) := []
noncomputable def markState.f (n : Nat) (a0 : State) (a1 : Int) : Option (Int × (List Actor) × (List (List Int)) × (List (List Int)) × Unit) := (markActorS.f n a0.1 a1).bind fun r1 => (markIntSS.f n a0.2.1 r1.1).bind fun r2 => (markIntSS.f n a0.2.2.1 r2.1).bind fun r3 => some (r3.1, (r1.2.1, (r2.2.1, (r3.2.1, ()))))
noncomputable def markState.mng (n : Nat) : Mng := ⟨[.io tState, .val I], [.val I], fun x => markState.f n x.1 x.2.1⟩
noncomputable def markState.cfg (n : Nat) : Cfg := ⟨tys4, [(66, markActorS.mng n), (67, markIntSS.mng n)], [], []⟩
theorem markState.eq : ∀ (n : Nat) (a0 : State) (a1 : Int), runF (markState.cfg n) n Tryz.f17 (annOf Tryz.f17 markState.las) [.io tState, .val I] [.val I] (a0, (a1, ())) = markState.f n a0 a1 := by
  intros
  kernel_rfl
theorem markState.gof : GoF Tryz.prog 17 := ⟨_, Tryz.func17, by kernel_rfl, by kernel_rfl⟩
theorem markState.sound (n : Nat) : Sound Tryz.prog 17 (markState.mng n) := runF_sound (fn := Tryz.f17) (m := markState.mng n) (c := markState.cfg n) (regOK mixed (opOK (.of (c := markState.cfg n) ⟨⟨markActorS.sound n, markActorS.gof⟩, ⟨⟨markIntSS.sound n, markIntSS.gof⟩, trivial⟩⟩) (.of (c := markState.cfg n) trivial)) (tysOK tys4_ok)) (tysOK tys4_ok) Tryz.func17 (fun x => (markState.eq n x.1 x.2.1).symm)

def heldActorS.las : List (Nat × LA) := [(3, ⟨[(1, .int .i64), (5, .int .i64)], [], [0], []⟩)]
noncomputable def heldActorS.f (n : Nat) (a0 : List Actor) (a1 : Int) : Option (Int × Unit) := iter (α := (Int × (Int × Unit))) n (fun ih8 x7 => br (decide (x7.2.1 < (a0.length : Int))) (chk (0 ≤ x7.2.1 ∧ x7.2.1 < (a0.length : Int)) (let v9 := (a0.getD x7.2.1.toNat zActor); br (!decide (v9.1 = x7.1)) (some ((-1), ())) (chk (0 ≤ x7.2.1 ∧ x7.2.1 < (a0.length : Int)) (let v10 := (a0.getD x7.2.1.toNat zActor); (heldIntS.f n v10.2 (w64 (x7.1 + 1))).bind fun r11 => br (decide (r11.1 < 0)) (some ((-1), ())) (ih8 (r11.1, ((w64 (x7.2.1 + 1)), ()))))))) (some (x7.1, ()))) (a1, (0, ()))
noncomputable def heldActorS.mng (n : Nat) : Mng := ⟨[.val (.sl tActor), .val I], [.val I], fun x => heldActorS.f n x.1 x.2.1⟩
noncomputable def heldActorS.cfg (n : Nat) : Cfg := ⟨tys4, [(115, heldIntS.mng n)], [], []⟩
theorem heldActorS.eq : ∀ (n : Nat) (a0 : List Actor) (a1 : Int), runF (heldActorS.cfg n) n Tryz.f68 (annOf Tryz.f68 heldActorS.las) [.val (.sl tActor), .val I] [.val I] (a0, (a1, ())) = heldActorS.f n a0 a1 := by
  intros
  kernel_rfl
theorem heldActorS.gof : GoF Tryz.prog 68 := ⟨_, Tryz.func68, by kernel_rfl, by kernel_rfl⟩
theorem heldActorS.sound (n : Nat) : Sound Tryz.prog 68 (heldActorS.mng n) := runF_sound (fn := Tryz.f68) (m := heldActorS.mng n) (c := heldActorS.cfg n) (regOK mixed (opOK (.of (c := heldActorS.cfg n) ⟨⟨heldIntS.sound n, heldIntS.gof⟩, trivial⟩) (.of (c := heldActorS.cfg n) trivial)) (tysOK tys4_ok)) (tysOK tys4_ok) Tryz.func68 (fun x => (heldActorS.eq n x.1 x.2.1).symm)

def heldIntSS.las : List (Nat × LA) := [(3, ⟨[(1, .int .i64), (5, .int .i64)], [], [0], []⟩)]
noncomputable def heldIntSS.f (n : Nat) (a0 : List (List Int)) (a1 : Int) : Option (Int × Unit) := iter (α := (Int × (Int × Unit))) n (fun ih6 x5 => br (decide (x5.2.1 < (a0.length : Int))) (chk (0 ≤ x5.2.1 ∧ x5.2.1 < (a0.length : Int)) (let v7 := (a0.getD x5.2.1.toNat []); (heldIntS.f n v7 x5.1).bind fun r8 => br (decide (r8.1 < 0)) (some ((-1), ())) (ih6 (r8.1, ((w64 (x5.2.1 + 1)), ()))))) (some (x5.1, ()))) (a1, (0, ()))
noncomputable def heldIntSS.mng (n : Nat) : Mng := ⟨[.val (.sl IS), .val I], [.val I], fun x => heldIntSS.f n x.1 x.2.1⟩
noncomputable def heldIntSS.cfg (n : Nat) : Cfg := ⟨tys4, [(115, heldIntS.mng n)], [], []⟩
theorem heldIntSS.eq : ∀ (n : Nat) (a0 : List (List Int)) (a1 : Int), runF (heldIntSS.cfg n) n Tryz.f69 (annOf Tryz.f69 heldIntSS.las) [.val (.sl IS), .val I] [.val I] (a0, (a1, ())) = heldIntSS.f n a0 a1 := by
  intros
  kernel_rfl
theorem heldIntSS.gof : GoF Tryz.prog 69 := ⟨_, Tryz.func69, by kernel_rfl, by kernel_rfl⟩
theorem heldIntSS.sound (n : Nat) : Sound Tryz.prog 69 (heldIntSS.mng n) := runF_sound (fn := Tryz.f69) (m := heldIntSS.mng n) (c := heldIntSS.cfg n) (regOK mixed (opOK (.of (c := heldIntSS.cfg n) ⟨⟨heldIntS.sound n, heldIntS.gof⟩, trivial⟩) (.of (c := heldIntSS.cfg n) trivial)) (tysOK tys4_ok)) (tysOK tys4_ok) Tryz.func69 (fun x => (heldIntSS.eq n x.1 x.2.1).symm)

def heldState.las : List (Nat × LA) := []
noncomputable def heldState.f (n : Nat) (a0 : State) (a1 : Int) : Option (Int × Unit) := (heldActorS.f n a0.1 a1).bind fun r1 => br (decide (r1.1 < 0)) (some ((-1), ())) ((heldIntSS.f n a0.2.1 r1.1).bind fun r2 => br (decide (r2.1 < 0)) (some ((-1), ())) ((heldIntSS.f n a0.2.2.1 r2.1).bind fun r3 => br (decide (r3.1 < 0)) (some ((-1), ())) (some (r3.1, ()))))
noncomputable def heldState.mng (n : Nat) : Mng := ⟨[.val tState, .val I], [.val I], fun x => heldState.f n x.1 x.2.1⟩
noncomputable def heldState.cfg (n : Nat) : Cfg := ⟨tys4, [(68, heldActorS.mng n), (69, heldIntSS.mng n)], [], []⟩
theorem heldState.eq : ∀ (n : Nat) (a0 : State) (a1 : Int), runF (heldState.cfg n) n Tryz.f18 (annOf Tryz.f18 heldState.las) [.val tState, .val I] [.val I] (a0, (a1, ())) = heldState.f n a0 a1 := by
  intros
  kernel_rfl
theorem heldState.gof : GoF Tryz.prog 18 := ⟨_, Tryz.func18, by kernel_rfl, by kernel_rfl⟩
theorem heldState.sound (n : Nat) : Sound Tryz.prog 18 (heldState.mng n) := runF_sound (fn := Tryz.f18) (m := heldState.mng n) (c := heldState.cfg n) (regOK mixed (opOK (.of (c := heldState.cfg n) ⟨⟨heldActorS.sound n, heldActorS.gof⟩, ⟨⟨heldIntSS.sound n, heldIntSS.gof⟩, trivial⟩⟩) (.of (c := heldState.cfg n) trivial)) (tysOK tys4_ok)) (tysOK tys4_ok) Tryz.func18 (fun x => (heldState.eq n x.1 x.2.1).symm)
end Go.AmT
