/- Functions that the law FnExactExpandState reaches, each as a plain Lean function, and that each does what that says. No condition. -/
import Derived.Test.YtkgknijpmcagmaaGreatPNet2
namespace Go.AmT
open Go Go.Am Go.Proofs
set_option linter.unusedVariables false
set_option maxRecDepth 100000
def tys3 : List (Nat × TInfo) := [(3, ⟨false, 1, 8, [.int .i64 0], .int .i64, 0, some I, [], false⟩),
  (37, ⟨false, 1, 24, [.nil], .slice, 53, some (.sl tProgram), [], false⟩),
  (38, ⟨false, 1, 24, [.nil], .slice, 81, some (.sl tLink), [], false⟩),
  (40, ⟨true, 2, 48, [.nil, .nil], .struct, 0, some tNetwork, [(0, 37), (1, 38)], false⟩),
  (51, ⟨false, 1, 24, [.nil], .slice, 103, some (.sl tInstr), [], false⟩),
  (53, ⟨true, 3, 40, [.int .i64 0, .int .i64 0, .nil], .struct, 0, some tProgram, [(0, 3), (1, 3), (2, 51)], false⟩),
  (75, ⟨false, 1, 24, [.nil], .slice, 3, some IS, [], false⟩),
  (81, ⟨true, 5, 56, [.int .i64 0, .int .i64 0, .int .i64 0, .int .i64 0, .nil], .struct, 0, some tLink, [(0, 3), (1, 3), (2, 3), (3, 3), (4, 75)], false⟩),
  (103, ⟨true, 4, 32, [.int .i64 0, .int .i64 0, .int .i64 0, .int .i64 0], .struct, 0, some tInstr, [(0, 3), (1, 3), (2, 3), (3, 3)], false⟩)]
theorem tys3_ok : (tys3.all fun p => tokB Tryz.prog p.1 p.2) = true := by kernel_rfl

def markInstrN.las : List (Nat × LA) := [(3, ⟨[(0, .ownp 0 tProgram 2 tInstr), (1, .int .i64), (5, .int .i64)], [(0, .row true tProgram)], [], []⟩)]
def markInstrN.la : LA := ⟨[(0, .ownp 0 tProgram 2 tInstr), (1, .int .i64)], [(0, .row true tProgram)], [], []⟩
def markInstrN.lb : LA := ⟨[(0, .int .i64)], [(0, .row true tProgram)], [], []⟩
noncomputable def markInstrN.f (n : Nat) (a0 : Nat) (a1 : Int) (a2 : List Program) : Option (Int × (List Program) × Unit) := iter (α := (Nat × (Int × (Int × (List Program) × Unit)))) n (fun ih10 x9 => br (decide (x9.2.2.1 < ((x9.2.2.2.1.getD x9.1 zProgram).2.2.length : Int))) (chk (0 ≤ x9.2.2.1 ∧ x9.2.2.1 < ((x9.2.2.2.1.getD x9.1 zProgram).2.2.length : Int)) (let v11 := (x9.2.2.2.1.set x9.1 ((x9.2.2.2.1.getD x9.1 zProgram).1, ((x9.2.2.2.1.getD x9.1 zProgram).2.1, ((x9.2.2.2.1.getD x9.1 zProgram).2.2.set x9.2.2.1.toNat (x9.2.1, ((x9.2.2.2.1.getD x9.1 zProgram).2.2.getD x9.2.2.1.toNat zInstr).2))))); chk (0 ≤ x9.2.2.1 ∧ x9.2.2.1 < ((v11.getD x9.1 zProgram).2.2.length : Int)) (let v12 := (v11.set x9.1 ((v11.getD x9.1 zProgram).1, ((v11.getD x9.1 zProgram).2.1, ((v11.getD x9.1 zProgram).2.2.set x9.2.2.1.toNat (((v11.getD x9.1 zProgram).2.2.getD x9.2.2.1.toNat zInstr).1, ((w64 (x9.2.1 + 1)), ((v11.getD x9.1 zProgram).2.2.getD x9.2.2.1.toNat zInstr).2.2)))))); chk (0 ≤ x9.2.2.1 ∧ x9.2.2.1 < ((v12.getD x9.1 zProgram).2.2.length : Int)) (let v13 := (v12.set x9.1 ((v12.getD x9.1 zProgram).1, ((v12.getD x9.1 zProgram).2.1, ((v12.getD x9.1 zProgram).2.2.set x9.2.2.1.toNat (((v12.getD x9.1 zProgram).2.2.getD x9.2.2.1.toNat zInstr).1, (((v12.getD x9.1 zProgram).2.2.getD x9.2.2.1.toNat zInstr).2.1, ((w64 ((w64 (x9.2.1 + 1)) + 1)), ((v12.getD x9.1 zProgram).2.2.getD x9.2.2.1.toNat zInstr).2.2.2))))))); chk (0 ≤ x9.2.2.1 ∧ x9.2.2.1 < ((v13.getD x9.1 zProgram).2.2.length : Int)) (let v14 := (v13.set x9.1 ((v13.getD x9.1 zProgram).1, ((v13.getD x9.1 zProgram).2.1, ((v13.getD x9.1 zProgram).2.2.set x9.2.2.1.toNat (((v13.getD x9.1 zProgram).2.2.getD x9.2.2.1.toNat zInstr).1, (((v13.getD x9.1 zProgram).2.2.getD x9.2.2.1.toNat zInstr).2.1, (((v13.getD x9.1 zProgram).2.2.getD x9.2.2.1.toNat zInstr).2.2.1, (w64 ((w64 ((w64 (x9.2.1 + 1)) + 1)) + 1))))))))); ih10 (x9.1, ((w64 ((w64 ((w64 ((w64 (x9.2.1 + 1)) + 1)) + 1)) + 1)), ((w64 (x9.2.2.1 + 1)), (v14, ()))))))))) (some (x9.2.1, (x9.2.2.2.1, ())))) (a0, (a1, (0, (a2, ()))))
noncomputable def markInstrN.mng (n : Nat) : LMng := ⟨markInstrN.la, markInstrN.lb, fun x => markInstrN.f n x.1 x.2.1 x.2.2.1⟩
noncomputable def markInstrN.cfg (n : Nat) : Cfg := ⟨tys3, [], [], []⟩
theorem markInstrN.eq : ∀ (n : Nat) (a0 : Nat) (a1 : Int) (a2 : List Program) (mp : Mp), LMng.run (markInstrN.cfg n) n Tryz.f121 (annOf Tryz.f121 markInstrN.las) markInstrN.la markInstrN.lb (a0, (a1, (a2, mp))) = markInstrN.f n a0 a1 a2 := by
  intros
  kernel_rfl
theorem markInstrN.gof : GoF Tryz.prog 121 := ⟨_, Tryz.func121, by kernel_rfl, by kernel_rfl⟩
theorem markInstrN.sound (n : Nat) : LSound Tryz.prog 121 (markInstrN.mng n) := runL_sound (fn := Tryz.f121) (M := markInstrN.mng n) (c := markInstrN.cfg n) (regOK mixed (opOK (.of (c := markInstrN.cfg n) trivial) (.of (c := markInstrN.cfg n) trivial)) (tysOK tys3_ok)) (tysOK tys3_ok) Tryz.func121 (fun x => (markInstrN.eq n x.1 x.2.1 x.2.2.1 x.2.2.2).symm)

def markProgramS.las : List (Nat × LA) := [(3, ⟨[(0, .own 0 tProgram), (1, .int .i64), (5, .int .i64)], [(0, .row true tProgram)], [], []⟩)]
noncomputable def markProgramS.f (n : Nat) (a0 : List Program) (a1 : Int) : Option (Int × (List Program) × Unit) := iter (α := (Int × (Int × (List Program) × Unit))) n (fun ih8 x7 => br (decide (x7.2.1 < (x7.2.2.1.length : Int))) (chk (0 ≤ x7.2.1 ∧ x7.2.1 < (x7.2.2.1.length : Int)) (let v9 := (x7.2.2.1.set x7.2.1.toNat (x7.1, (x7.2.2.1.getD x7.2.1.toNat zProgram).2)); chk (0 ≤ x7.2.1 ∧ x7.2.1 < (v9.length : Int)) (let v10 := (v9.set x7.2.1.toNat ((v9.getD x7.2.1.toNat zProgram).1, ((w64 (x7.1 + 1)), (v9.getD x7.2.1.toNat zProgram).2.2))); chk (0 ≤ x7.2.1 ∧ x7.2.1 < (v10.length : Int)) ((markInstrN.f n x7.2.1.toNat (w64 ((w64 (x7.1 + 1)) + 1)) v10).bind fun r11 => ih8 (r11.1, ((w64 (x7.2.1 + 1)), (r11.2.1, ()))))))) (some (x7.1, (x7.2.2.1, ())))) (a1, (0, (a0, ())))
noncomputable def markProgramS.mng (n : Nat) : Mng := ⟨[.io (.sl tProgram), .val I], [.val I], fun x => markProgramS.f n x.1 x.2.1⟩
noncomputable def markProgramS.cfg (n : Nat) : Cfg := ⟨tys3, [], [(121, markInstrN.mng n)], []⟩
theorem markProgramS.eq : ∀ (n : Nat) (a0 : List Program) (a1 : Int), runF (markProgramS.cfg n) n Tryz.f54 (annOf Tryz.f54 markProgramS.las) [.io (.sl tProgram), .val I] [.val I] (a0, (a1, ())) = markProgramS.f n a0 a1 := by
  intros
  kernel_rfl
theorem markProgramS.gof : GoF Tryz.prog 54 := ⟨_, Tryz.func54, by kernel_rfl, by kernel_rfl⟩
theorem markProgramS.sound (n : Nat) : Sound Tryz.prog 54 (markProgramS.mng n) := runF_sound (fn := Tryz.f54) (m := markProgramS.mng n) (c := markProgramS.cfg n) (regOK mixed (opOK (.of (c := markProgramS.cfg n) trivial) (.of (c := markProgramS.cfg n) ⟨⟨markInstrN.sound n, markInstrN.gof⟩, trivial⟩)) (tysOK tys3_ok)) (tysOK tys3_ok) Tryz.func54 (fun x => (markProgramS.eq n x.1 x.2.1).symm)

def markIntN.las : List (Nat × LA) := [(3, ⟨[(0, .ownp 0 tLink 4 I), (1, .int .i64), (5, .int .i64)], [(0, .row true tLink)], [], []⟩)]
def markIntN.la : LA := ⟨[(0, .ownp 0 tLink 4 I), (1, .int .i64)], [(0, .row true tLink)], [], []⟩
def markIntN.lb : LA := ⟨[(0, .int .i64)], [(0, .row true tLink)], [], []⟩
noncomputable def markIntN.f (n : Nat) (a0 : Nat) (a1 : Int) (a2 : List Link) : Option (Int × (List Link) × Unit) := iter (α := (Nat × (Int × (Int × (List Link) × Unit)))) n (fun ih7 x6 => br (decide (x6.2.2.1 < ((x6.2.2.2.1.getD x6.1 zLink).2.2.2.2.length : Int))) (chk (0 ≤ x6.2.2.1 ∧ x6.2.2.1 < ((x6.2.2.2.1.getD x6.1 zLink).2.2.2.2.length : Int)) (let v8 := (x6.2.2.2.1.set x6.1 ((x6.2.2.2.1.getD x6.1 zLink).1, ((x6.2.2.2.1.getD x6.1 zLink).2.1, ((x6.2.2.2.1.getD x6.1 zLink).2.2.1, ((x6.2.2.2.1.getD x6.1 zLink).2.2.2.1, ((x6.2.2.2.1.getD x6.1 zLink).2.2.2.2.set x6.2.2.1.toNat x6.2.1)))))); ih7 (x6.1, ((w64 (x6.2.1 + 1)), ((w64 (x6.2.2.1 + 1)), (v8, ())))))) (some (x6.2.1, (x6.2.2.2.1, ())))) (a0, (a1, (0, (a2, ()))))
noncomputable def markIntN.mng (n : Nat) : LMng := ⟨markIntN.la, markIntN.lb, fun x => markIntN.f n x.1 x.2.1 x.2.2.1⟩
noncomputable def markIntN.cfg (n : Nat) : Cfg := ⟨tys3, [], [], []⟩
theorem markIntN.eq : ∀ (n : Nat) (a0 : Nat) (a1 : Int) (a2 : List Link) (mp : Mp), LMng.run (markIntN.cfg n) n Tryz.f122 (annOf Tryz.f122 markIntN.las) markIntN.la markIntN.lb (a0, (a1, (a2, mp))) = markIntN.f n a0 a1 a2 := by
  intros
  kernel_rfl
theorem markIntN.gof : GoF Tryz.prog 122 := ⟨_, Tryz.func122, by kernel_rfl, by kernel_rfl⟩
theorem markIntN.sound (n : Nat) : LSound Tryz.prog 122 (markIntN.mng n) := runL_sound (fn := Tryz.f122) (M := markIntN.mng n) (c := markIntN.cfg n) (regOK mixed (opOK (.of (c := markIntN.cfg n) trivial) (.of (c := markIntN.cfg n) trivial)) (tysOK tys3_ok)) (tysOK tys3_ok) Tryz.func122 (fun x => (markIntN.eq n x.1 x.2.1 x.2.2.1 x.2.2.2).symm)

def markLinkS.las : List (Nat × LA) := [(3, ⟨[(0, .own 0 tLink), (1, .int .i64), (5, .int .i64)], [(0, .row true tLink)], [], []⟩)]
noncomputable def markLinkS.f (n : Nat) (a0 : List Link) (a1 : Int) : Option (Int × (List Link) × Unit) := iter (α := (Int × (Int × (List Link) × Unit))) n (fun ih10 x9 => br (decide (x9.2.1 < (x9.2.2.1.length : Int))) (chk (0 ≤ x9.2.1 ∧ x9.2.1 < (x9.2.2.1.length : Int)) (let v11 := (x9.2.2.1.set x9.2.1.toNat (x9.1, (x9.2.2.1.getD x9.2.1.toNat zLink).2)); chk (0 ≤ x9.2.1 ∧ x9.2.1 < (v11.length : Int)) (let v12 := (v11.set x9.2.1.toNat ((v11.getD x9.2.1.toNat zLink).1, ((w64 (x9.1 + 1)), (v11.getD x9.2.1.toNat zLink).2.2))); chk (0 ≤ x9.2.1 ∧ x9.2.1 < (v12.length : Int)) (let v13 := (v12.set x9.2.1.toNat ((v12.getD x9.2.1.toNat zLink).1, ((v12.getD x9.2.1.toNat zLink).2.1, ((w64 ((w64 (x9.1 + 1)) + 1)), (v12.getD x9.2.1.toNat zLink).2.2.2)))); chk (0 ≤ x9.2.1 ∧ x9.2.1 < (v13.length : Int)) (let v14 := (v13.set x9.2.1.toNat ((v13.getD x9.2.1.toNat zLink).1, ((v13.getD x9.2.1.toNat zLink).2.1, ((v13.getD x9.2.1.toNat zLink).2.2.1, ((w64 ((w64 ((w64 (x9.1 + 1)) + 1)) + 1)), (v13.getD x9.2.1.toNat zLink).2.2.2.2))))); chk (0 ≤ x9.2.1 ∧ x9.2.1 < (v14.length : Int)) ((markIntN.f n x9.2.1.toNat (w64 ((w64 ((w64 ((w64 (x9.1 + 1)) + 1)) + 1)) + 1)) v14).bind fun r15 => ih10 (r15.1, ((w64 (x9.2.1 + 1)), (r15.2.1, ()))))))))) (some (x9.1, (x9.2.2.1, ())))) (a1, (0, (a0, ())))
noncomputable def markLinkS.mng (n : Nat) : Mng := ⟨[.io (.sl tLink), .val I], [.val I], fun x => markLinkS.f n x.1 x.2.1⟩
noncomputable def markLinkS.cfg (n : Nat) : Cfg := ⟨tys3, [], [(122, markIntN.mng n)], []⟩
theorem markLinkS.eq : ∀ (n : Nat) (a0 : List Link) (a1 : Int), runF (markLinkS.cfg n) n Tryz.f55 (annOf Tryz.f55 markLinkS.las) [.io (.sl tLink), .val I] [.val I] (a0, (a1, ())) = markLinkS.f n a0 a1 := by
  intros
  kernel_rfl
theorem markLinkS.gof : GoF Tryz.prog 55 := ⟨_, Tryz.func55, by kernel_rfl, by kernel_rfl⟩
theorem markLinkS.sound (n : Nat) : Sound Tryz.prog 55 (markLinkS.mng n) := runF_sound (fn := Tryz.f55) (m := markLinkS.mng n) (c := markLinkS.cfg n) (regOK mixed (opOK (.of (c := markLinkS.cfg n) trivial) (.of (c := markLinkS.cfg n) ⟨⟨markIntN.sound n, markIntN.gof⟩, trivial⟩)) (tysOK tys3_ok)) (tysOK tys3_ok) Tryz.func55 (fun x => (markLinkS.eq n x.1 x.2.1).symm)

def markNetwork.las : List (Nat × LA) := []
noncomputable def markNetwork.f (n : Nat) (a0 : Network) (a1 : Int) : Option (Int × (List Program) × (List Link) × Unit) := (markProgramS.f n a0.1 a1).bind fun r1 => (markLinkS.f n a0.2 r1.1).bind fun r2 => some (r2.1, (r1.2.1, (r2.2.1, ())))
noncomputable def markNetwork.mng (n : Nat) : Mng := ⟨[.io tNetwork, .val I], [.val I], fun x => markNetwork.f n x.1 x.2.1⟩
noncomputable def markNetwork.cfg (n : Nat) : Cfg := ⟨tys3, [(54, markProgramS.mng n), (55, markLinkS.mng n)], [], []⟩
theorem markNetwork.eq : ∀ (n : Nat) (a0 : Network) (a1 : Int), runF (markNetwork.cfg n) n Tryz.f13 (annOf Tryz.f13 markNetwork.las) [.io tNetwork, .val I] [.val I] (a0, (a1, ())) = markNetwork.f n a0 a1 := by
  intros
  kernel_rfl
theorem markNetwork.gof : GoF Tryz.prog 13 := ⟨_, Tryz.func13, by kernel_rfl, by kernel_rfl⟩
theorem markNetwork.sound (n : Nat) : Sound Tryz.prog 13 (markNetwork.mng n) := runF_sound (fn := Tryz.f13) (m := markNetwork.mng n) (c := markNetwork.cfg n) (regOK mixed (opOK (.of (c := markNetwork.cfg n) ⟨⟨markProgramS.sound n, markProgramS.gof⟩, ⟨⟨markLinkS.sound n, markLinkS.gof⟩, trivial⟩⟩) (.of (c := markNetwork.cfg n) trivial)) (tysOK tys3_ok)) (tysOK tys3_ok) Tryz.func13 (fun x => (markNetwork.eq n x.1 x.2.1).symm)

def heldIntS.las : List (Nat × LA) := [(3, ⟨[(1, .int .i64), (5, .int .i64)], [], [0], []⟩)]
noncomputable def heldIntS.f (n : Nat) (a0 : List Int) (a1 : Int) : Option (Int × Unit) := iter (α := (Int × (Int × Unit))) n (fun ih5 x4 => br (decide (x4.2.1 < (a0.length : Int))) (chk (0 ≤ x4.2.1 ∧ x4.2.1 < (a0.length : Int)) (br (!decide ((a0.getD x4.2.1.toNat 0) = x4.1)) (some ((-1), ())) (ih5 ((w64 (x4.1 + 1)), ((w64 (x4.2.1 + 1)), ()))))) (some (x4.1, ()))) (a1, (0, ()))
noncomputable def heldIntS.mng (n : Nat) : Mng := ⟨[.val IS, .val I], [.val I], fun x => heldIntS.f n x.1 x.2.1⟩
noncomputable def heldIntS.cfg (n : Nat) : Cfg := ⟨tys3, [], [], []⟩
theorem heldIntS.eq : ∀ (n : Nat) (a0 : List Int) (a1 : Int), runF (heldIntS.cfg n) n Tryz.f123 (annOf Tryz.f123 heldIntS.las) [.val IS, .val I] [.val I] (a0, (a1, ())) = heldIntS.f n a0 a1 := by
  intros
  kernel_rfl
theorem heldIntS.gof : GoF Tryz.prog 123 := ⟨_, Tryz.func123, by kernel_rfl, by kernel_rfl⟩
theorem heldIntS.sound (n : Nat) : Sound Tryz.prog 123 (heldIntS.mng n) := runF_sound (fn := Tryz.f123) (m := heldIntS.mng n) (c := heldIntS.cfg n) (regOK mixed (opOK (.of (c := heldIntS.cfg n) trivial) (.of (c := heldIntS.cfg n) trivial)) (tysOK tys3_ok)) (tysOK tys3_ok) Tryz.func123 (fun x => (heldIntS.eq n x.1 x.2.1).symm)
end Go.AmT
