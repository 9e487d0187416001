/- Functions that the law FnExactParseNetwork reaches, each as a plain Lean function, and that each does what that says. No condition. -/
import Derived.Test.YtgddbcdkhfdojaaGreatDoorPNet2
namespace Go.AmT
open Go Go.Am Go.Proofs
set_option linter.unusedVariables false
set_option maxRecDepth 100000
def tys7 : List (Nat × TInfo) := [(3, ⟨false, 1, 8, [.int .i64 0], .int .i64, 0, some I, [], false⟩),
  (22, ⟨false, 1, 24, [.nil], .slice, 62, some (.sl tProgram), [], false⟩),
  (23, ⟨false, 1, 24, [.nil], .slice, 80, some (.sl tLink), [], false⟩),
  (25, ⟨true, 2, 48, [.nil, .nil], .struct, 0, some tNetwork, [(0, 22), (1, 23)], false⟩),
  (49, ⟨false, 1, 24, [.nil], .slice, 3, some IS, [], false⟩),
  (60, ⟨false, 1, 24, [.nil], .slice, 72, some (.sl tInstr), [], false⟩),
  (62, ⟨true, 3, 40, [.int .i64 0, .int .i64 0, .nil], .struct, 0, some tProgram, [(0, 3), (1, 3), (2, 60)], false⟩),
  (72, ⟨true, 4, 32, [.int .i64 0, .int .i64 0, .int .i64 0, .int .i64 0], .struct, 0, some tInstr, [(0, 3), (1, 3), (2, 3), (3, 3)], false⟩),
  (80, ⟨true, 5, 56, [.int .i64 0, .int .i64 0, .int .i64 0, .int .i64 0, .nil], .struct, 0, some tLink, [(0, 3), (1, 3), (2, 3), (3, 3), (4, 49)], false⟩)]
theorem tys7_ok : (tys7.all fun p => tokB Tryz.prog p.1 p.2) = true := by kernel_rfl

def markInstrN.las : List (Nat × LA) := [(3, ⟨[(0, .ownp 0 tProgram 2 tInstr), (1, .int .i64), (5, .int .i64)], [(0, .row true tProgram)], [], []⟩)]
def markInstrN.la : LA := ⟨[(0, .ownp 0 tProgram 2 tInstr), (1, .int .i64)], [(0, .row true tProgram)], [], []⟩
def markInstrN.lb : LA := ⟨[(0, .int .i64)], [(0, .row true tProgram)], [], []⟩
noncomputable def markInstrN.f (n : Nat) (a0 : Nat) (a1 : Int) (a2 : List Program) : Option (Int × (List Program) × Unit) := iter (α := (Nat × (Int × (Int × (List Program) × Unit)))) n (fun ih10 x9 => br (decide (x9.2.2.1 < ((x9.2.2.2.1.getD x9.1 zProgram).2.2.length : Int))) (chk (0 ≤ x9.2.2.1 ∧ x9.2.2.1 < ((x9.2.2.2.1.getD x9.1 zProgram).2.2.length : Int)) (let v11 := (x9.2.2.2.1.set x9.1 ((x9.2.2.2.1.getD x9.1 zProgram).1, ((x9.2.2.2.1.getD x9.1 zProgram).2.1, ((x9.2.2.2.1.getD x9.1 zProgram).2.2.set x9.2.2.1.toNat (x9.2.1, ((x9.2.2.2.1.getD x9.1 zProgram).2.2.getD x9.2.2.1.toNat zInstr).2))))); chk (0 ≤ x9.2.2.1 ∧ x9.2.2.1 < ((v11.getD x9.1 zProgram).2.2.length : Int)) (let v12 := (v11.set x9.1 ((v11.getD x9.1 zProgram).1, ((v11.getD x9.1 zProgram).2.1, ((v11.getD x9.1 zProgram).2.2.set x9.2.2.1.toNat (((v11.getD x9.1 zProgram).2.2.getD x9.2.2.1.toNat zInstr).1, ((w64 (x9.2.1 + 1)), ((v11.getD x9.1 zProgram).2.2.getD x9.2.2.1.toNat zInstr).2.2)))))); chk (0 ≤ x9.2.2.1 ∧ x9.2.2.1 < ((v12.getD x9.1 zProgram).2.2.length : Int)) (let v13 := (v12.set x9.1 ((v12.getD x9.1 zProgram).1, ((v12.getD x9.1 zProgram).2.1, ((v12.getD x9.1 zProgram).2.2.set x9.2.2.1.toNat (((v12.getD x9.1 zProgram).2.2.getD x9.2.2.1.toNat zInstr).1, (((v12.getD x9.1 zProgram).2.2.getD x9.2.2.1.toNat zInstr).2.1, ((w64 ((w64 (x9.2.1 + 1)) + 1)), ((v12.getD x9.1 zProgram).2.2.getD x9.2.2.1.toNat zInstr).2.2.2))))))); chk (0 ≤ x9.2.2.1 ∧ x9.2.2.1 < ((v13.getD x9.1 zProgram).2.2.length : Int)) (let v14 := (v13.set x9.1 ((v13.getD x9.1 zProgram).1, ((v13.getD x9.1 zProgram).2.1, ((v13.getD x9.1 zProgram).2.2.set x9.2.2.1.toNat (((v13.getD x9.1 zProgram).2.2.getD x9.2.2.1.toNat zInstr).1, (((v13.getD x9.1 zProgram).2.2.getD x9.2.2.1.toNat zInstr).2.1, (((v13.getD x9.1 zProgram).2.2.getD x9.2.2.1.toNat zInstr).2.2.1, (w64 ((w64 ((w64 (x9.2.1 + 1)) + 1)) + 1))))))))); ih10 (x9.1, ((w64 ((w64 ((w64 ((w64 (x9.2.1 + 1)) + 1)) + 1)) + 1)), ((w64 (x9.2.2.1 + 1)), (v14, ()))))))))) (some (x9.2.1, (x9.2.2.2.1, ())))) (a0, (a1, (0, (a2, ()))))
noncomputable def markInstrN.mng (n : Nat) : LMng := ⟨markInstrN.la, markInstrN.lb, fun x => markInstrN.f n x.1 x.2.1 x.2.2.1⟩
noncomputable def markInstrN.cfg (n : Nat) : Cfg := ⟨tys7, [], [], []⟩
theorem markInstrN.eq : ∀ (n : Nat) (a0 : Nat) (a1 : Int) (a2 : List Program) (mp : Mp), LMng.run (markInstrN.cfg n) n Tryz.f112 (annOf Tryz.f112 markInstrN.las) markInstrN.la markInstrN.lb (a0, (a1, (a2, mp))) = markInstrN.f n a0 a1 a2 := by
  intros
  kernel_rfl
theorem markInstrN.gof : GoF Tryz.prog 112 := ⟨_, Tryz.func112, by kernel_rfl, by kernel_rfl⟩
theorem markInstrN.sound (n : Nat) : LSound Tryz.prog 112 (markInstrN.mng n) := runL_sound (fn := Tryz.f112) (M := markInstrN.mng n) (c := markInstrN.cfg n) (regOK mixed (opOK (.of (c := markInstrN.cfg n) trivial) (.of (c := markInstrN.cfg n) trivial)) (tysOK tys7_ok)) (tysOK tys7_ok) Tryz.func112 (fun x => (markInstrN.eq n x.1 x.2.1 x.2.2.1 x.2.2.2).symm)

def markProgramS.las : List (Nat × LA) := [(3, ⟨[(0, .own 0 tProgram), (1, .int .i64), (5, .int .i64)], [(0, .row true tProgram)], [], []⟩)]
noncomputable def markProgramS.f (n : Nat) (a0 : List Program) (a1 : Int) : Option (Int × (List Program) × Unit) := iter (α := (Int × (Int × (List Program) × Unit))) n (fun ih8 x7 => br (decide (x7.2.1 < (x7.2.2.1.length : Int))) (chk (0 ≤ x7.2.1 ∧ x7.2.1 < (x7.2.2.1.length : Int)) (let v9 := (x7.2.2.1.set x7.2.1.toNat (x7.1, (x7.2.2.1.getD x7.2.1.toNat zProgram).2)); chk (0 ≤ x7.2.1 ∧ x7.2.1 < (v9.length : Int)) (let v10 := (v9.set x7.2.1.toNat ((v9.getD x7.2.1.toNat zProgram).1, ((w64 (x7.1 + 1)), (v9.getD x7.2.1.toNat zProgram).2.2))); chk (0 ≤ x7.2.1 ∧ x7.2.1 < (v10.length : Int)) ((markInstrN.f n x7.2.1.toNat (w64 ((w64 (x7.1 + 1)) + 1)) v10).bind fun r11 => ih8 (r11.1, ((w64 (x7.2.1 + 1)), (r11.2.1, ()))))))) (some (x7.1, (x7.2.2.1, ())))) (a1, (0, (a0, ())))
noncomputable def markProgramS.mng (n : Nat) : Mng := ⟨[.io (.sl tProgram), .val I], [.val I], fun x => markProgramS.f n x.1 x.2.1⟩
noncomputable def markProgramS.cfg (n : Nat) : Cfg := ⟨tys7, [], [(112, markInstrN.mng n)], []⟩
theorem markProgramS.eq : ∀ (n : Nat) (a0 : List Program) (a1 : Int), runF (markProgramS.cfg n) n Tryz.f50 (annOf Tryz.f50 markProgramS.las) [.io (.sl tProgram), .val I] [.val I] (a0, (a1, ())) = markProgramS.f n a0 a1 := by
  intros
  kernel_rfl
theorem markProgramS.gof : GoF Tryz.prog 50 := ⟨_, Tryz.func50, by kernel_rfl, by kernel_rfl⟩
theorem markProgramS.sound (n : Nat) : Sound Tryz.prog 50 (markProgramS.mng n) := runF_sound (fn := Tryz.f50) (m := markProgramS.mng n) (c := markProgramS.cfg n) (regOK mixed (opOK (.of (c := markProgramS.cfg n) trivial) (.of (c := markProgramS.cfg n) ⟨⟨markInstrN.sound n, markInstrN.gof⟩, trivial⟩)) (tysOK tys7_ok)) (tysOK tys7_ok) Tryz.func50 (fun x => (markProgramS.eq n x.1 x.2.1).symm)

def markIntN.las : List (Nat × LA) := [(3, ⟨[(0, .ownp 0 tLink 4 I), (1, .int .i64), (5, .int .i64)], [(0, .row true tLink)], [], []⟩)]
def markIntN.la : LA := ⟨[(0, .ownp 0 tLink 4 I), (1, .int .i64)], [(0, .row true tLink)], [], []⟩
def markIntN.lb : LA := ⟨[(0, .int .i64)], [(0, .row true tLink)], [], []⟩
noncomputable def markIntN.f (n : Nat) (a0 : Nat) (a1 : Int) (a2 : List Link) : Option (Int × (List Link) × Unit) := iter (α := (Nat × (Int × (Int × (List Link) × Unit)))) n (fun ih7 x6 => br (decide (x6.2.2.1 < ((x6.2.2.2.1.getD x6.1 zLink).2.2.2.2.length : Int))) (chk (0 ≤ x6.2.2.1 ∧ x6.2.2.1 < ((x6.2.2.2.1.getD x6.1 zLink).2.2.2.2.length : Int)) (let v8 := (x6.2.2.2.1.set x6.1 ((x6.2.2.2.1.getD x6.1 zLink).1, ((x6.2.2.2.1.getD x6.1 zLink).2.1, ((x6.2.2.2.1.getD x6.1 zLink).2.2.1, ((x6.2.2.2.1.getD x6.1 zLink).2.2.2.1, ((x6.2.2.2.1.getD x6.1 zLink).2.2.2.2.set x6.2.2.1.toNat x6.2.1)))))); ih7 (x6.1, ((w64 (x6.2.1 + 1)), ((w64 (x6.2.2.1 + 1)), (v8, ())))))) (some (x6.2.1, (x6.2.2.2.1, ())))) (a0, (a1, (0, (a2, ()))))
noncomputable def markIntN.mng (n : Nat) : LMng := ⟨markIntN.la, markIntN.lb, fun x => markIntN.f n x.1 x.2.1 x.2.2.1⟩
noncomputable def markIntN.cfg (n : Nat) : Cfg := ⟨tys7, [], [], []⟩
theorem markIntN.eq : ∀ (n : Nat) (a0 : Nat) (a1 : Int) (a2 : List Link) (mp : Mp), LMng.run (markIntN.cfg n) n Tryz.f113 (annOf Tryz.f113 markIntN.las) markIntN.la markIntN.lb (a0, (a1, (a2, mp))) = markIntN.f n a0 a1 a2 := by
  intros
  kernel_rfl
theorem markIntN.gof : GoF Tryz.prog 113 := ⟨_, Tryz.func113, by kernel_rfl, by kernel_rfl⟩
theorem markIntN.sound (n : Nat) : LSound Tryz.prog 113 (markIntN.mng n) := runL_sound (fn := Tryz.f113) (M := markIntN.mng n) (c := markIntN.cfg n) (regOK mixed (opOK (.of (c := markIntN.cfg n) trivial) (.of (c := markIntN.cfg n) trivial)) (tysOK tys7_ok)) (tysOK tys7_ok) Tryz.func113 (fun x => (markIntN.eq n x.1 x.2.1 x.2.2.1 x.2.2.2).symm)

def markLinkS.las : List (Nat × LA) := [(3, ⟨[(0, .own 0 tLink), (1, .int .i64), (5, .int .i64)], [(0, .row true tLink)], [], []⟩)]
noncomputable def markLinkS.f (n : Nat) (a0 : List Link) (a1 : Int) : Option (Int × (List Link) × Unit) := iter (α := (Int × (Int × (List Link) × Unit))) n (fun ih10 x9 => br (decide (x9.2.1 < (x9.2.2.1.length : Int))) (chk (0 ≤ x9.2.1 ∧ x9.2.1 < (x9.2.2.1.length : Int)) (let v11 := (x9.2.2.1.set x9.2.1.toNat (x9.1, (x9.2.2.1.getD x9.2.1.toNat zLink).2)); chk (0 ≤ x9.2.1 ∧ x9.2.1 < (v11.length : Int)) (let v12 := (v11.set x9.2.1.toNat ((v11.getD x9.2.1.toNat zLink).1, ((w64 (x9.1 + 1)), (v11.getD x9.2.1.toNat zLink).2.2))); chk (0 ≤ x9.2.1 ∧ x9.2.1 < (v12.length : Int)) (let v13 := (v12.set x9.2.1.toNat ((v12.getD x9.2.1.toNat zLink).1, ((v12.getD x9.2.1.toNat zLink).2.1, ((w64 ((w64 (x9.1 + 1)) + 1)), (v12.getD x9.2.1.toNat zLink).2.2.2)))); chk (0 ≤ x9.2.1 ∧ x9.2.1 < (v13.length : Int)) (let v14 := (v13.set x9.2.1.toNat ((v13.getD x9.2.1.toNat zLink).1, ((v13.getD x9.2.1.toNat zLink).2.1, ((v13.getD x9.2.1.toNat zLink).2.2.1, ((w64 ((w64 ((w64 (x9.1 + 1)) + 1)) + 1)), (v13.getD x9.2.1.toNat zLink).2.2.2.2))))); chk (0 ≤ x9.2.1 ∧ x9.2.1 < (v14.length : Int)) ((markIntN.f n x9.2.1.toNat (w64 ((w64 ((w64 ((w64 (x9.1 + 1)) + 1)) + 1)) + 1)) v14).bind fun r15 => ih10 (r15.1, ((w64 (x9.2.1 + 1)), (r15.2.1, ()))))))))) (some (x9.1, (x9.2.2.1, ())))) (a1, (0, (a0, ())))
noncomputable def markLinkS.mng (n : Nat) : Mng := ⟨[.io (.sl tLink), .val I], [.val I], fun x => markLinkS.f n x.1 x.2.1⟩
noncomputable def markLinkS.cfg (n : Nat) : Cfg := ⟨tys7, [], [(113, markIntN.mng n)], []⟩
theorem markLinkS.eq : ∀ (n : Nat) (a0 : List Link) (a1 : Int), runF (markLinkS.cfg n) n Tryz.f51 (annOf Tryz.f51 markLinkS.las) [.io (.sl tLink), .val I] [.val I] (a0, (a1, ())) = markLinkS.f n a0 a1 := by
  intros
  kernel_rfl
theorem markLinkS.gof : GoF Tryz.prog 51 := ⟨_, Tryz.func51, by kernel_rfl, by kernel_rfl⟩
theorem markLinkS.sound (n : Nat) : Sound Tryz.prog 51 (markLinkS.mng n) := runF_sound (fn := Tryz.f51) (m := markLinkS.mng n) (c := markLinkS.cfg n) (regOK mixed (opOK (.of (c := markLinkS.cfg n) trivial) (.of (c := markLinkS.cfg n) ⟨⟨markIntN.sound n, markIntN.gof⟩, trivial⟩)) (tysOK tys7_ok)) (tysOK tys7_ok) Tryz.func51 (fun x => (markLinkS.eq n x.1 x.2.1).symm)

def markNetwork.las : List (Nat × LA) := []
noncomputable def markNetwork.f (n : Nat) (a0 : Network) (a1 : Int) : Option (Int × (List Program) × (List Link) × Unit) := (markProgramS.f n a0.1 a1).bind fun r1 => (markLinkS.f n a0.2 r1.1).bind fun r2 => some (r2.1, (r1.2.1, (r2.2.1, ())))
noncomputable def markNetwork.mng (n : Nat) : Mng := ⟨[.io tNetwork, .val I], [.val I], fun x => markNetwork.f n x.1 x.2.1⟩
noncomputable def markNetwork.cfg (n : Nat) : Cfg := ⟨tys7, [(50, markProgramS.mng n), (51, markLinkS.mng n)], [], []⟩
theorem markNetwork.eq : ∀ (n : Nat) (a0 : Network) (a1 : Int), runF (markNetwork.cfg n) n Tryz.f10 (annOf Tryz.f10 markNetwork.las) [.io tNetwork, .val I] [.val I] (a0, (a1, ())) = markNetwork.f n a0 a1 := by
  intros
  kernel_rfl
theorem markNetwork.gof : GoF Tryz.prog 10 := ⟨_, Tryz.func10, by kernel_rfl, by kernel_rfl⟩
theorem markNetwork.sound (n : Nat) : Sound Tryz.prog 10 (markNetwork.mng n) := runF_sound (fn := Tryz.f10) (m := markNetwork.mng n) (c := markNetwork.cfg n) (regOK mixed (opOK (.of (c := markNetwork.cfg n) ⟨⟨markProgramS.sound n, markProgramS.gof⟩, ⟨⟨markLinkS.sound n, markLinkS.gof⟩, trivial⟩⟩) (.of (c := markNetwork.cfg n) trivial)) (tysOK tys7_ok)) (tysOK tys7_ok) Tryz.func10 (fun x => (markNetwork.eq n x.1 x.2.1).symm)

def heldIntS.las : List (Nat × LA) := [(3, ⟨[(1, .int .i64), (5, .int .i64)], [], [0], []⟩)]
noncomputable def heldIntS.f (n : Nat) (a0 : List Int) (a1 : Int) : Option (Int × Unit) := iter (α := (Int × (Int × Unit))) n (fun ih5 x4 => br (decide (x4.2.1 < (a0.length : Int))) (chk (0 ≤ x4.2.1 ∧ x4.2.1 < (a0.length : Int)) (br (!decide ((a0.getD x4.2.1.toNat 0) = x4.1)) (some ((-1), ())) (ih5 ((w64 (x4.1 + 1)), ((w64 (x4.2.1 + 1)), ()))))) (some (x4.1, ()))) (a1, (0, ()))
noncomputable def heldIntS.mng (n : Nat) : Mng := ⟨[.val IS, .val I], [.val I], fun x => heldIntS.f n x.1 x.2.1⟩
noncomputable def heldIntS.cfg (n : Nat) : Cfg := ⟨tys7, [], [], []⟩
theorem heldIntS.eq : ∀ (n : Nat) (a0 : List Int) (a1 : Int), runF (heldIntS.cfg n) n Tryz.f115 (annOf Tryz.f115 heldIntS.las) [.val IS, .val I] [.val I] (a0, (a1, ())) = heldIntS.f n a0 a1 := by
  intros
  kernel_rfl
theorem heldIntS.gof : GoF Tryz.prog 115 := ⟨_, Tryz.func115, by kernel_rfl, by kernel_rfl⟩
theorem heldIntS.sound (n : Nat) : Sound Tryz.prog 115 (heldIntS.mng n) := runF_sound (fn := Tryz.f115) (m := heldIntS.mng n) (c := heldIntS.cfg n) (regOK mixed (opOK (.of (c := heldIntS.cfg n) trivial) (.of (c := heldIntS.cfg n) trivial)) (tysOK tys7_ok)) (tysOK tys7_ok) Tryz.func115 (fun x => (heldIntS.eq n x.1 x.2.1).symm)

def heldInstrS.las : List (Nat × LA) := [(3, ⟨[(1, .int .i64), (5, .int .i64)], [], [0], []⟩)]
noncomputable def heldInstrS.f (n : Nat) (a0 : List Instr) (a1 : Int) : Option (Int × Unit) := iter (α := (Int × (Int × Unit))) n (fun ih9 x8 => br (decide (x8.2.1 < (a0.length : Int))) (chk (0 ≤ x8.2.1 ∧ x8.2.1 < (a0.length : Int)) (let v10 := (a0.getD x8.2.1.toNat zInstr); br (!decide (v10.1 = x8.1)) (some ((-1), ())) (chk (0 ≤ x8.2.1 ∧ x8.2.1 < (a0.length : Int)) (let v11 := (a0.getD x8.2.1.toNat zInstr); br (!decide (v11.2.1 = (w64 (x8.1 + 1)))) (some ((-1), ())) (chk (0 ≤ x8.2.1 ∧ x8.2.1 < (a0.length : Int)) (let v12 := (a0.getD x8.2.1.toNat zInstr); br (!decide (v12.2.2.1 = (w64 ((w64 (x8.1 + 1)) + 1)))) (some ((-1), ())) (chk (0 ≤ x8.2.1 ∧ x8.2.1 < (a0.length : Int)) (let v13 := (a0.getD x8.2.1.toNat zInstr); br (!decide (v13.2.2.2 = (w64 ((w64 ((w64 (x8.1 + 1)) + 1)) + 1)))) (some ((-1), ())) (ih9 ((w64 ((w64 ((w64 ((w64 (x8.1 + 1)) + 1)) + 1)) + 1)), ((w64 (x8.2.1 + 1)), ()))))))))))) (some (x8.1, ()))) (a1, (0, ()))
noncomputable def heldInstrS.mng (n : Nat) : Mng := ⟨[.val (.sl tInstr), .val I], [.val I], fun x => heldInstrS.f n x.1 x.2.1⟩
noncomputable def heldInstrS.cfg (n : Nat) : Cfg := ⟨tys7, [], [], []⟩
theorem heldInstrS.eq : ∀ (n : Nat) (a0 : List Instr) (a1 : Int), runF (heldInstrS.cfg n) n Tryz.f114 (annOf Tryz.f114 heldInstrS.las) [.val (.sl tInstr), .val I] [.val I] (a0, (a1, ())) = heldInstrS.f n a0 a1 := by
  intros
  kernel_rfl
theorem heldInstrS.gof : GoF Tryz.prog 114 := ⟨_, Tryz.func114, by kernel_rfl, by kernel_rfl⟩
theorem heldInstrS.sound (n : Nat) : Sound Tryz.prog 114 (heldInstrS.mng n) := runF_sound (fn := Tryz.f114) (m := heldInstrS.mng n) (c := heldInstrS.cfg n) (regOK mixed (opOK (.of (c := heldInstrS.cfg n) trivial) (.of (c := heldInstrS.cfg n) trivial)) (tysOK tys7_ok)) (tysOK tys7_ok) Tryz.func114 (fun x => (heldInstrS.eq n x.1 x.2.1).symm)

def heldProgramS.las : List (Nat × LA) := [(3, ⟨[(1, .int .i64), (5, .int .i64)], [], [0], []⟩)]
noncomputable def heldProgramS.f (n : Nat) (a0 : List Program) (a1 : Int) : Option (Int × Unit) := iter (α := (Int × (Int × Unit))) n (fun ih9 x8 => br (decide (x8.2.1 < (a0.length : Int))) (chk (0 ≤ x8.2.1 ∧ x8.2.1 < (a0.length : Int)) (let v10 := (a0.getD x8.2.1.toNat zProgram); br (!decide (v10.1 = x8.1)) (some ((-1), ())) (chk (0 ≤ x8.2.1 ∧ x8.2.1 < (a0.length : Int)) (let v11 := (a0.getD x8.2.1.toNat zProgram); br (!decide (v11.2.1 = (w64 (x8.1 + 1)))) (some ((-1), ())) (chk (0 ≤ x8.2.1 ∧ x8.2.1 < (a0.length : Int)) (let v12 := (a0.getD x8.2.1.toNat zProgram); (heldInstrS.f n v12.2.2 (w64 ((w64 (x8.1 + 1)) + 1))).bind fun r13 => br (decide (r13.1 < 0)) (some ((-1), ())) (ih9 (r13.1, ((w64 (x8.2.1 + 1)), ()))))))))) (some (x8.1, ()))) (a1, (0, ()))
noncomputable def heldProgramS.mng (n : Nat) : Mng := ⟨[.val (.sl tProgram), .val I], [.val I], fun x => heldProgramS.f n x.1 x.2.1⟩
noncomputable def heldProgramS.cfg (n : Nat) : Cfg := ⟨tys7, [(114, heldInstrS.mng n)], [], []⟩
theorem heldProgramS.eq : ∀ (n : Nat) (a0 : List Program) (a1 : Int), runF (heldProgramS.cfg n) n Tryz.f52 (annOf Tryz.f52 heldProgramS.las) [.val (.sl tProgram), .val I] [.val I] (a0, (a1, ())) = heldProgramS.f n a0 a1 := by
  intros
  kernel_rfl
theorem heldProgramS.gof : GoF Tryz.prog 52 := ⟨_, Tryz.func52, by kernel_rfl, by kernel_rfl⟩
theorem heldProgramS.sound (n : Nat) : Sound Tryz.prog 52 (heldProgramS.mng n) := runF_sound (fn := Tryz.f52) (m := heldProgramS.mng n) (c := heldProgramS.cfg n) (regOK mixed (opOK (.of (c := heldProgramS.cfg n) ⟨⟨heldInstrS.sound n, heldInstrS.gof⟩, trivial⟩) (.of (c := heldProgramS.cfg n) trivial)) (tysOK tys7_ok)) (tysOK tys7_ok) Tryz.func52 (fun x => (heldProgramS.eq n x.1 x.2.1).symm)

def heldLinkS.las : List (Nat × LA) := [(3, ⟨[(1, .int .i64), (5, .int .i64)], [], [0], []⟩)]
noncomputable def heldLinkS.f (n : Nat) (a0 : List Link) (a1 : Int) : Option (Int × Unit) := iter (α := (Int × (Int × Unit))) n (fun ih6 x5 => br (decide (x5.2.1 < (a0.length : Int))) (chk (0 ≤ x5.2.1 ∧ x5.2.1 < (a0.length : Int)) (let v7 := (a0.getD x5.2.1.toNat zLink); br (!decide (v7.1 = x5.1)) (some ((-1), ())) (chk (0 ≤ x5.2.1 ∧ x5.2.1 < (a0.length : Int)) (let v8 := (a0.getD x5.2.1.toNat zLink); br (!decide (v8.2.1 = (w64 (x5.1 + 1)))) (some ((-1), ())) (chk (0 ≤ x5.2.1 ∧ x5.2.1 < (a0.length : Int)) (let v9 := (a0.getD x5.2.1.toNat zLink); br (!decide (v9.2.2.1 = (w64 ((w64 (x5.1 + 1)) + 1)))) (some ((-1), ())) (chk (0 ≤ x5.2.1 ∧ x5.2.1 < (a0.length : Int)) (let v10 := (a0.getD x5.2.1.toNat zLink); br (!decide (v10.2.2.2.1 = (w64 ((w64 ((w64 (x5.1 + 1)) + 1)) + 1)))) (some ((-1), ())) (chk (0 ≤ x5.2.1 ∧ x5.2.1 < (a0.length : Int)) (let v11 := (a0.getD x5.2.1.toNat zLink); (heldIntS.f n v11.2.2.2.2 (w64 ((w64 ((w64 ((w64 (x5.1 + 1)) + 1)) + 1)) + 1))).bind fun r12 => br (decide (r12.1 < 0)) (some ((-1), ())) (ih6 (r12.1, ((w64 (x5.2.1 + 1)), ()))))))))))))) (some (x5.1, ()))) (a1, (0, ()))
noncomputable def heldLinkS.mng (n : Nat) : Mng := ⟨[.val (.sl tLink), .val I], [.val I], fun x => heldLinkS.f n x.1 x.2.1⟩
noncomputable def heldLinkS.cfg (n : Nat) : Cfg := ⟨tys7, [(115, heldIntS.mng n)], [], []⟩
theorem heldLinkS.eq : ∀ (n : Nat) (a0 : List Link) (a1 : Int), runF (heldLinkS.cfg n) n Tryz.f53 (annOf Tryz.f53 heldLinkS.las) [.val (.sl tLink), .val I] [.val I] (a0, (a1, ())) = heldLinkS.f n a0 a1 := by
  intros
  kernel_rfl
theorem heldLinkS.gof : GoF Tryz.prog 53 := ⟨_, Tryz.func53, by kernel_rfl, by kernel_rfl⟩
theorem heldLinkS.sound (n : Nat) : Sound Tryz.prog 53 (heldLinkS.mng n) := runF_sound (fn := Tryz.f53) (m := heldLinkS.mng n) (c := heldLinkS.cfg n) (regOK mixed (opOK (.of (c := heldLinkS.cfg n) ⟨⟨heldIntS.sound n, heldIntS.gof⟩, trivial⟩) (.of (c := heldLinkS.cfg n) trivial)) (tysOK tys7_ok)) (tysOK tys7_ok) Tryz.func53 (fun x => (heldLinkS.eq n x.1 x.2.1).symm)

def heldNetwork.las : List (Nat × LA) := []
noncomputable def heldNetwork.f (n : Nat) (a0 : Network) (a1 : Int) : Option (Int × Unit) := (heldProgramS.f n a0.1 a1).bind fun r1 => br (decide (r1.1 < 0)) (some ((-1), ())) ((heldLinkS.f n a0.2 r1.1).bind fun r2 => br (decide (r2.1 < 0)) (some ((-1), ())) (some (r2.1, ())))
noncomputable def heldNetwork.mng (n : Nat) : Mng := ⟨[.val tNetwork, .val I], [.val I], fun x => heldNetwork.f n x.1 x.2.1⟩
noncomputable def heldNetwork.cfg (n : Nat) : Cfg := ⟨tys7, [(52, heldProgramS.mng n), (53, heldLinkS.mng n)], [], []⟩
theorem heldNetwork.eq : ∀ (n : Nat) (a0 : Network) (a1 : Int), runF (heldNetwork.cfg n) n Tryz.f11 (annOf Tryz.f11 heldNetwork.las) [.val tNetwork, .val I] [.val I] (a0, (a1, ())) = heldNetwork.f n a0 a1 := by
  intros
  kernel_rfl
theorem heldNetwork.gof : GoF Tryz.prog 11 := ⟨_, Tryz.func11, by kernel_rfl, by kernel_rfl⟩
theorem heldNetwork.sound (n : Nat) : Sound Tryz.prog 11 (heldNetwork.mng n) := runF_sound (fn := Tryz.f11) (m := heldNetwork.mng n) (c := heldNetwork.cfg n) (regOK mixed (opOK (.of (c := heldNetwork.cfg n) ⟨⟨heldProgramS.sound n, heldProgramS.gof⟩, ⟨⟨heldLinkS.sound n, heldLinkS.gof⟩, trivial⟩⟩) (.of (c := heldNetwork.cfg n) trivial)) (tysOK tys7_ok)) (tysOK tys7_ok) Tryz.func11 (fun x => (heldNetwork.eq n x.1 x.2.1).symm)
end Go.AmT
