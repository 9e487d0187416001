/- Functions that the law FnExactParseProgram reaches, each as a plain Lean function, and that each does what that says. No condition. -/
import Derived.Test.YtgddbcdkhfdojaaDoorPNet2
import Derived.Test.YtgddbcdkhfdojaaDoorPMark0
namespace Go.AmT
open Go Go.Am Go.Proofs
set_option linter.unusedVariables false
set_option maxRecDepth 100000
def tys7 : List (Nat × TInfo) := [(3, ⟨false, 1, 8, [.int .i64 0], .int .i64, 0, some I, [], false⟩),
  (25, ⟨true, 4, 32, [.int .i64 0, .int .i64 0, .int .i64 0, .int .i64 0], .struct, 0, some tInstr, [(0, 3), (1, 3), (2, 3), (3, 3)], false⟩),
  (33, ⟨false, 1, 24, [.nil], .slice, 25, some (.sl tInstr), [], false⟩),
  (35, ⟨true, 3, 40, [.int .i64 0, .int .i64 0, .nil], .struct, 0, some tProgram, [(0, 3), (1, 3), (2, 33)], false⟩)]
theorem tys7_ok : (tys7.all fun p => tokB Tryd.prog p.1 p.2) = true := by kernel_rfl

def markInstrS.las : List (Nat × LA) := [(3, ⟨[(0, .own 0 tInstr), (1, .int .i64), (5, .int .i64)], [(0, .row true tInstr)], [], []⟩)]
noncomputable def markInstrS.f (n : Nat) (a0 : List Instr) (a1 : Int) : Option (Int × (List Instr) × Unit) := iter (α := (Int × (Int × (List Instr) × Unit))) n (fun ih9 x8 => br (decide (x8.2.1 < (x8.2.2.1.length : Int))) (chk (0 ≤ x8.2.1 ∧ x8.2.1 < (x8.2.2.1.length : Int)) (let v10 := (x8.2.2.1.set x8.2.1.toNat (x8.1, (x8.2.2.1.getD x8.2.1.toNat zInstr).2)); chk (0 ≤ x8.2.1 ∧ x8.2.1 < (v10.length : Int)) (let v11 := (v10.set x8.2.1.toNat ((v10.getD x8.2.1.toNat zInstr).1, ((w64 (x8.1 + 1)), (v10.getD x8.2.1.toNat zInstr).2.2))); chk (0 ≤ x8.2.1 ∧ x8.2.1 < (v11.length : Int)) (let v12 := (v11.set x8.2.1.toNat ((v11.getD x8.2.1.toNat zInstr).1, ((v11.getD x8.2.1.toNat zInstr).2.1, ((w64 ((w64 (x8.1 + 1)) + 1)), (v11.getD x8.2.1.toNat zInstr).2.2.2)))); chk (0 ≤ x8.2.1 ∧ x8.2.1 < (v12.length : Int)) (let v13 := (v12.set x8.2.1.toNat ((v12.getD x8.2.1.toNat zInstr).1, ((v12.getD x8.2.1.toNat zInstr).2.1, ((v12.getD x8.2.1.toNat zInstr).2.2.1, (w64 ((w64 ((w64 (x8.1 + 1)) + 1)) + 1)))))); ih9 ((w64 ((w64 ((w64 ((w64 (x8.1 + 1)) + 1)) + 1)) + 1)), ((w64 (x8.2.1 + 1)), (v13, ())))))))) (some (x8.1, (x8.2.2.1, ())))) (a1, (0, (a0, ())))
noncomputable def markInstrS.mng (n : Nat) : Mng := ⟨[.io (.sl tInstr), .val I], [.val I], fun x => markInstrS.f n x.1 x.2.1⟩
noncomputable def markInstrS.cfg (n : Nat) : Cfg := ⟨tys7, [], [], []⟩
theorem markInstrS.eq : ∀ (n : Nat) (a0 : List Instr) (a1 : Int), runF (markInstrS.cfg n) n Tryd.f73 (annOf Tryd.f73 markInstrS.las) [.io (.sl tInstr), .val I] [.val I] (a0, (a1, ())) = markInstrS.f n a0 a1 := by
  intros
  kernel_rfl
theorem markInstrS.gof : GoF Tryd.prog 73 := ⟨_, Tryd.func73, by kernel_rfl, by kernel_rfl⟩
theorem markInstrS.sound (n : Nat) : Sound Tryd.prog 73 (markInstrS.mng n) := runF_sound (fn := Tryd.f73) (m := markInstrS.mng n) (c := markInstrS.cfg n) (regOK mixed (opOK (.of (c := markInstrS.cfg n) trivial) (.of (c := markInstrS.cfg n) trivial)) (tysOK tys7_ok)) (tysOK tys7_ok) Tryd.func73 (fun x => (markInstrS.eq n x.1 x.2.1).symm)

def markProgram.las : List (Nat × LA) := []
noncomputable def markProgram.f (n : Nat) (a0 : Program) (a1 : Int) : Option (Int × (List Instr) × Unit) := (markInstrS.f n a0.2.2 a1).bind fun r1 => some (r1.1, (r1.2.1, ()))
noncomputable def markProgram.mng (n : Nat) : Mng := ⟨[.io tProgram, .val I], [.val I], fun x => markProgram.f n x.1 x.2.1⟩
noncomputable def markProgram.cfg (n : Nat) : Cfg := ⟨tys7, [(73, markInstrS.mng n)], [], []⟩
theorem markProgram.eq : ∀ (n : Nat) (a0 : Program) (a1 : Int), runF (markProgram.cfg n) n Tryd.f32 (annOf Tryd.f32 markProgram.las) [.io tProgram, .val I] [.val I] (a0, (a1, ())) = markProgram.f n a0 a1 := by
  intros
  kernel_rfl
theorem markProgram.gof : GoF Tryd.prog 32 := ⟨_, Tryd.func32, by kernel_rfl, by kernel_rfl⟩
theorem markProgram.sound (n : Nat) : Sound Tryd.prog 32 (markProgram.mng n) := runF_sound (fn := Tryd.f32) (m := markProgram.mng n) (c := markProgram.cfg n) (regOK mixed (opOK (.of (c := markProgram.cfg n) ⟨⟨markInstrS.sound n, markInstrS.gof⟩, trivial⟩) (.of (c := markProgram.cfg n) trivial)) (tysOK tys7_ok)) (tysOK tys7_ok) Tryd.func32 (fun x => (markProgram.eq n x.1 x.2.1).symm)

def heldInstrS.las : List (Nat × LA) := [(3, ⟨[(1, .int .i64), (5, .int .i64)], [], [0], []⟩)]
noncomputable def heldInstrS.f (n : Nat) (a0 : List Instr) (a1 : Int) : Option (Int × Unit) := iter (α := (Int × (Int × Unit))) n (fun ih9 x8 => br (decide (x8.2.1 < (a0.length : Int))) (chk (0 ≤ x8.2.1 ∧ x8.2.1 < (a0.length : Int)) (let v10 := (a0.getD x8.2.1.toNat zInstr); br (!decide (v10.1 = x8.1)) (some ((-1), ())) (chk (0 ≤ x8.2.1 ∧ x8.2.1 < (a0.length : Int)) (let v11 := (a0.getD x8.2.1.toNat zInstr); br (!decide (v11.2.1 = (w64 (x8.1 + 1)))) (some ((-1), ())) (chk (0 ≤ x8.2.1 ∧ x8.2.1 < (a0.length : Int)) (let v12 := (a0.getD x8.2.1.toNat zInstr); br (!decide (v12.2.2.1 = (w64 ((w64 (x8.1 + 1)) + 1)))) (some ((-1), ())) (chk (0 ≤ x8.2.1 ∧ x8.2.1 < (a0.length : Int)) (let v13 := (a0.getD x8.2.1.toNat zInstr); br (!decide (v13.2.2.2 = (w64 ((w64 ((w64 (x8.1 + 1)) + 1)) + 1)))) (some ((-1), ())) (ih9 ((w64 ((w64 ((w64 ((w64 (x8.1 + 1)) + 1)) + 1)) + 1)), ((w64 (x8.2.1 + 1)), ()))))))))))) (some (x8.1, ()))) (a1, (0, ()))
noncomputable def heldInstrS.mng (n : Nat) : Mng := ⟨[.val (.sl tInstr), .val I], [.val I], fun x => heldInstrS.f n x.1 x.2.1⟩
noncomputable def heldInstrS.cfg (n : Nat) : Cfg := ⟨tys7, [], [], []⟩
theorem heldInstrS.eq : ∀ (n : Nat) (a0 : List Instr) (a1 : Int), runF (heldInstrS.cfg n) n Tryd.f74 (annOf Tryd.f74 heldInstrS.las) [.val (.sl tInstr), .val I] [.val I] (a0, (a1, ())) = heldInstrS.f n a0 a1 := by
  intros
  kernel_rfl
theorem heldInstrS.gof : GoF Tryd.prog 74 := ⟨_, Tryd.func74, by kernel_rfl, by kernel_rfl⟩
theorem heldInstrS.sound (n : Nat) : Sound Tryd.prog 74 (heldInstrS.mng n) := runF_sound (fn := Tryd.f74) (m := heldInstrS.mng n) (c := heldInstrS.cfg n) (regOK mixed (opOK (.of (c := heldInstrS.cfg n) trivial) (.of (c := heldInstrS.cfg n) trivial)) (tysOK tys7_ok)) (tysOK tys7_ok) Tryd.func74 (fun x => (heldInstrS.eq n x.1 x.2.1).symm)

def heldProgram.las : List (Nat × LA) := []
noncomputable def heldProgram.f (n : Nat) (a0 : Program) (a1 : Int) : Option (Int × Unit) := (heldInstrS.f n a0.2.2 a1).bind fun r1 => br (decide (r1.1 < 0)) (some ((-1), ())) (some (r1.1, ()))
noncomputable def heldProgram.mng (n : Nat) : Mng := ⟨[.val tProgram, .val I], [.val I], fun x => heldProgram.f n x.1 x.2.1⟩
noncomputable def heldProgram.cfg (n : Nat) : Cfg := ⟨tys7, [(74, heldInstrS.mng n)], [], []⟩
theorem heldProgram.eq : ∀ (n : Nat) (a0 : Program) (a1 : Int), runF (heldProgram.cfg n) n Tryd.f33 (annOf Tryd.f33 heldProgram.las) [.val tProgram, .val I] [.val I] (a0, (a1, ())) = heldProgram.f n a0 a1 := by
  intros
  kernel_rfl
theorem heldProgram.gof : GoF Tryd.prog 33 := ⟨_, Tryd.func33, by kernel_rfl, by kernel_rfl⟩
theorem heldProgram.sound (n : Nat) : Sound Tryd.prog 33 (heldProgram.mng n) := runF_sound (fn := Tryd.f33) (m := heldProgram.mng n) (c := heldProgram.cfg n) (regOK mixed (opOK (.of (c := heldProgram.cfg n) ⟨⟨heldInstrS.sound n, heldInstrS.gof⟩, trivial⟩) (.of (c := heldProgram.cfg n) trivial)) (tysOK tys7_ok)) (tysOK tys7_ok) Tryd.func33 (fun x => (heldProgram.eq n x.1 x.2.1).symm)
end Go.AmT
