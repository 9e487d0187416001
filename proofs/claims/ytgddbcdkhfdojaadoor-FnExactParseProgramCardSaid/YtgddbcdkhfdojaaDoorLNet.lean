/- Functions that the law FnExactParseProgram reaches, each as a plain Lean function, and that each does what that says. No condition. -/
import Derived.Test.YtgddbcdkhfdojaaDoorAmE
import Derived.Test.YtgddbcdkhfdojaaDoorProg
namespace Go.AmT
open Go Go.Am Go.Proofs
set_option linter.unusedVariables false
set_option maxRecDepth 100000
abbrev I : Ty := .int .i64
abbrev U8 : Ty := .int .u8
abbrev IS : Ty := .sl I
abbrev tInstr : Ty := (.pair I (.pair I (.pair I I)))
abbrev tLink : Ty := (.pair I (.pair I (.pair I (.pair I IS))))
abbrev tProgram : Ty := (.pair I (.pair I (.sl tInstr)))
abbrev tNetwork : Ty := (.pair (.sl tProgram) (.sl tLink))
abbrev Instr : Type := Int × (Int × (Int × Int))
def zInstr : Instr := (0, (0, (0, 0)))
abbrev Program : Type := Int × (Int × List Instr)
def zProgram : Program := (0, (0, []))
abbrev Link : Type := Int × (Int × (Int × (Int × List Int)))
abbrev Network : Type := List Program × List Link
def tys : List (Nat × TInfo) := [(3, ⟨false, 1, 8, [.int .i64 0], .int .i64, 0, some I, [], false⟩),
  (23, ⟨true, 4, 32, [.int .i64 0, .int .i64 0, .int .i64 0, .int .i64 0], .struct, 0, some tInstr, [(0, 3), (1, 3), (2, 3), (3, 3)], false⟩),
  (25, ⟨true, 4, 32, [.int .i64 0, .int .i64 0, .int .i64 0, .int .i64 0], .struct, 0, some tInstr, [(0, 3), (1, 3), (2, 3), (3, 3)], true⟩),
  (28, ⟨false, 1, 24, [.nil], .slice, 23, some (.sl tInstr), [], false⟩),
  (30, ⟨true, 3, 40, [.int .i64 0, .int .i64 0, .nil], .struct, 0, some tProgram, [(0, 3), (1, 3), (2, 28)], false⟩),
  (33, ⟨false, 1, 24, [.nil], .slice, 25, some (.sl tInstr), [], false⟩),
  (35, ⟨true, 3, 40, [.int .i64 0, .int .i64 0, .nil], .struct, 0, some tProgram, [(0, 3), (1, 3), (2, 33)], false⟩),
  (39, ⟨false, 1, 24, [.nil], .slice, 30, some (.sl tProgram), [], false⟩),
  (40, ⟨false, 1, 24, [.nil], .slice, 129, some (.sl tLink), [], false⟩),
  (42, ⟨true, 2, 48, [.nil, .nil], .struct, 0, some tNetwork, [(0, 39), (1, 40)], false⟩),
  (45, ⟨false, 1, 24, [.nil], .slice, 35, some (.sl tProgram), [], false⟩),
  (46, ⟨false, 1, 24, [.nil], .slice, 92, some (.sl tLink), [], false⟩),
  (48, ⟨true, 2, 48, [.nil, .nil], .struct, 0, some tNetwork, [(0, 45), (1, 46)], false⟩),
  (76, ⟨false, 1, 24, [.nil], .slice, 3, some IS, [], false⟩),
  (92, ⟨true, 5, 56, [.int .i64 0, .int .i64 0, .int .i64 0, .int .i64 0, .nil], .struct, 0, some tLink, [(0, 3), (1, 3), (2, 3), (3, 3), (4, 76)], false⟩),
  (129, ⟨true, 5, 56, [.int .i64 0, .int .i64 0, .int .i64 0, .int .i64 0, .nil], .struct, 0, some tLink, [(0, 3), (1, 3), (2, 3), (3, 3), (4, 76)], false⟩)]
theorem tys_ok : (tys.all fun p => tokB Tryd.prog p.1 p.2) = true := by kernel_rfl
theorem mixed : Tryd.prog.follows .mixedOrders = true := by kernel_rfl

def eqInstr.las : List (Nat × LA) := []
noncomputable def eqInstr.f (n : Nat) (a0 : Instr) (a1 : Instr) : Option (Bool × Unit) := br (!decide (a0.1 = a1.1)) (some (false, ())) (br (!decide (a0.2.1 = a1.2.1)) (some (false, ())) (br (!decide (a0.2.2.1 = a1.2.2.1)) (some (false, ())) (br (!decide (a0.2.2.2 = a1.2.2.2)) (some (false, ())) (some (true, ())))))
noncomputable def eqInstr.mng (n : Nat) : Mng := ⟨[.val tInstr, .val tInstr], [.val .bool], fun x => eqInstr.f n x.1 x.2.1⟩
noncomputable def eqInstr.cfg (n : Nat) : Cfg := ⟨tys, [], [], []⟩
theorem eqInstr.eq : ∀ (n : Nat) (a0 : Instr) (a1 : Instr), runF (eqInstr.cfg n) n Tryd.f24 (annOf Tryd.f24 eqInstr.las) [.val tInstr, .val tInstr] [.val .bool] (a0, (a1, ())) = eqInstr.f n a0 a1 := by
  intros
  kernel_rfl
theorem eqInstr.gof : GoF Tryd.prog 24 := ⟨_, Tryd.func24, by kernel_rfl, by kernel_rfl⟩
theorem eqInstr.sound (n : Nat) : Sound Tryd.prog 24 (eqInstr.mng n) := runF_sound (fn := Tryd.f24) (m := eqInstr.mng n) (c := eqInstr.cfg n) (regOK mixed (opOK (.of (c := eqInstr.cfg n) trivial) (.of (c := eqInstr.cfg n) trivial)) (tysOK tys_ok)) (tysOK tys_ok) Tryd.func24 (fun x => (eqInstr.eq n x.1 x.2.1).symm)

def eqInstrS.las : List (Nat × LA) := [(6, ⟨[(5, .int .i64)], [], [0, 1], []⟩)]
noncomputable def eqInstrS.f (n : Nat) (a0 : List Instr) (a1 : List Instr) : Option (Bool × Unit) := br (!decide ((a0.length : Int) = (a1.length : Int))) (some (false, ())) (iter (α := (Int × Unit)) n (fun ih8 x7 => br (decide (x7.1 < (a0.length : Int))) (chk (0 ≤ x7.1 ∧ x7.1 < (a0.length : Int)) (let v9 := (a0.getD x7.1.toNat zInstr); chk (0 ≤ x7.1 ∧ x7.1 < (a1.length : Int)) (let v10 := (a1.getD x7.1.toNat zInstr); (eqInstr.f n v9 v10).bind fun r11 => br (!r11.1) (some (false, ())) (ih8 ((w64 (x7.1 + 1)), ()))))) (some (true, ()))) (0, ()))
noncomputable def eqInstrS.mng (n : Nat) : Mng := ⟨[.val (.sl tInstr), .val (.sl tInstr)], [.val .bool], fun x => eqInstrS.f n x.1 x.2.1⟩
noncomputable def eqInstrS.cfg (n : Nat) : Cfg := ⟨tys, [(24, eqInstr.mng n)], [], []⟩
theorem eqInstrS.eq : ∀ (n : Nat) (a0 : List Instr) (a1 : List Instr), runF (eqInstrS.cfg n) n Tryd.f47 (annOf Tryd.f47 eqInstrS.las) [.val (.sl tInstr), .val (.sl tInstr)] [.val .bool] (a0, (a1, ())) = eqInstrS.f n a0 a1 := by
  intros
  kernel_rfl
theorem eqInstrS.gof : GoF Tryd.prog 47 := ⟨_, Tryd.func47, by kernel_rfl, by kernel_rfl⟩
theorem eqInstrS.sound (n : Nat) : Sound Tryd.prog 47 (eqInstrS.mng n) := runF_sound (fn := Tryd.f47) (m := eqInstrS.mng n) (c := eqInstrS.cfg n) (regOK mixed (opOK (.of (c := eqInstrS.cfg n) ⟨⟨eqInstr.sound n, eqInstr.gof⟩, trivial⟩) (.of (c := eqInstrS.cfg n) trivial)) (tysOK tys_ok)) (tysOK tys_ok) Tryd.func47 (fun x => (eqInstrS.eq n x.1 x.2.1).symm)

def eqProgram.las : List (Nat × LA) := []
noncomputable def eqProgram.f (n : Nat) (a0 : Program) (a1 : Program) : Option (Bool × Unit) := br (!decide (a0.1 = a1.1)) (some (false, ())) (br (!decide (a0.2.1 = a1.2.1)) (some (false, ())) ((eqInstrS.f n a0.2.2 a1.2.2).bind fun r1 => br (!r1.1) (some (false, ())) (some (true, ()))))
noncomputable def eqProgram.mng (n : Nat) : Mng := ⟨[.val tProgram, .val tProgram], [.val .bool], fun x => eqProgram.f n x.1 x.2.1⟩
noncomputable def eqProgram.cfg (n : Nat) : Cfg := ⟨tys, [(47, eqInstrS.mng n)], [], []⟩
theorem eqProgram.eq : ∀ (n : Nat) (a0 : Program) (a1 : Program), runF (eqProgram.cfg n) n Tryd.f16 (annOf Tryd.f16 eqProgram.las) [.val tProgram, .val tProgram] [.val .bool] (a0, (a1, ())) = eqProgram.f n a0 a1 := by
  intros
  kernel_rfl
theorem eqProgram.gof : GoF Tryd.prog 16 := ⟨_, Tryd.func16, by kernel_rfl, by kernel_rfl⟩
theorem eqProgram.sound (n : Nat) : Sound Tryd.prog 16 (eqProgram.mng n) := runF_sound (fn := Tryd.f16) (m := eqProgram.mng n) (c := eqProgram.cfg n) (regOK mixed (opOK (.of (c := eqProgram.cfg n) ⟨⟨eqInstrS.sound n, eqInstrS.gof⟩, trivial⟩) (.of (c := eqProgram.cfg n) trivial)) (tysOK tys_ok)) (tysOK tys_ok) Tryd.func16 (fun x => (eqProgram.eq n x.1 x.2.1).symm)

def sL1In.las : List (Nat × LA) := []
noncomputable def sL1In.f (n : Nat) (a0 : Int) (a1 : Int) (a2 : Int) : Option (Bool × Unit) := br (decide (a1 ≤ a0)) (some ((decide (a0 ≤ a2)), ())) (some (false, ()))
noncomputable def sL1In.mng (n : Nat) : Mng := ⟨[.val I, .val I, .val I], [.val .bool], fun x => sL1In.f n x.1 x.2.1 x.2.2.1⟩
noncomputable def sL1In.cfg (n : Nat) : Cfg := ⟨tys, [], [], []⟩
theorem sL1In.eq : ∀ (n : Nat) (a0 : Int) (a1 : Int) (a2 : Int), runF (sL1In.cfg n) n Tryd.f72 (annOf Tryd.f72 sL1In.las) [.val I, .val I, .val I] [.val .bool] (a0, (a1, (a2, ()))) = sL1In.f n a0 a1 a2 := by
  intros
  kernel_rfl
theorem sL1In.gof : GoF Tryd.prog 72 := ⟨_, Tryd.func72, by kernel_rfl, by kernel_rfl⟩
theorem sL1In.sound (n : Nat) : Sound Tryd.prog 72 (sL1In.mng n) := runF_sound (fn := Tryd.f72) (m := sL1In.mng n) (c := sL1In.cfg n) (regOK mixed (opOK (.of (c := sL1In.cfg n) trivial) (.of (c := sL1In.cfg n) trivial)) (tysOK tys_ok)) (tysOK tys_ok) Tryd.func72 (fun x => (sL1In.eq n x.1 x.2.1 x.2.2.1).symm)

def sL1Token.las : List (Nat × LA) := []
noncomputable def sL1Token.f (n : Nat) (a0 : Int) : Option (Bool × Unit) := (sL1In.f n a0 (-999999) 999999).bind fun r1 => some (r1.1, ())
noncomputable def sL1Token.mng (n : Nat) : Mng := ⟨[.val I], [.val .bool], fun x => sL1Token.f n x.1⟩
noncomputable def sL1Token.cfg (n : Nat) : Cfg := ⟨tys, [(72, sL1In.mng n)], [], []⟩
theorem sL1Token.eq : ∀ (n : Nat) (a0 : Int), runF (sL1Token.cfg n) n Tryd.f106 (annOf Tryd.f106 sL1Token.las) [.val I] [.val .bool] (a0, ()) = sL1Token.f n a0 := by
  intros
  kernel_rfl
theorem sL1Token.gof : GoF Tryd.prog 106 := ⟨_, Tryd.func106, by kernel_rfl, by kernel_rfl⟩
theorem sL1Token.sound (n : Nat) : Sound Tryd.prog 106 (sL1Token.mng n) := runF_sound (fn := Tryd.f106) (m := sL1Token.mng n) (c := sL1Token.cfg n) (regOK mixed (opOK (.of (c := sL1Token.cfg n) ⟨⟨sL1In.sound n, sL1In.gof⟩, trivial⟩) (.of (c := sL1Token.cfg n) trivial)) (tysOK tys_ok)) (tysOK tys_ok) Tryd.func106 (fun x => (sL1Token.eq n x.1).symm)

def sL2Operands.las : List (Nat × LA) := [(1, ⟨[(5, .bool)], [], [2, 3], []⟩), (2, ⟨[(6, .bool)], [], [2, 3, 5], []⟩), (15, ⟨[(84, .bool)], [], [3, 5, 6, 32], []⟩), (27, ⟨[(98, .bool)], [], [3, 6, 32], []⟩)]
noncomputable def sL2Operands.f (n : Nat) (a0 : Program) (a1 : Instr) : Option (Bool × Unit) := cut (α := (Bool × Unit)) ((sL1In.f n a1.2.1 0 3).bind fun r5 => br r5.1 ((sL1In.f n a1.2.2.1 0 3).bind fun r6 => br r6.1 ((sL1In.f n a1.2.2.2 0 3).bind fun r7 => some (.inr (r7.1, ()))) (some (.inr (false, ())))) (some (.inr (false, ())))) fun y4 => cut (α := (Bool × Unit)) ((sL1In.f n a1.2.2.1 0 (a0.2.2.length : Int)).bind fun r10 => br r10.1 (some (.inr ((decide (a1.2.2.2 = 0)), ()))) (some (.inr (false, ())))) fun y9 => br (decide (a1.1 = 1)) ((sL1In.f n a1.2.1 0 3).bind fun r11 => br r11.1 ((sL1In.f n a1.2.2.1 0 (w64 (a0.1 - 1))).bind fun r12 => br r12.1 (some ((decide (a1.2.2.2 = 0)), ())) (some (false, ()))) (some (false, ()))) (br (decide (a1.1 = 2)) ((sL1In.f n a1.2.1 0 3).bind fun r13 => br r13.1 ((sL1In.f n a1.2.2.1 0 (w64 (a0.2.1 - 1))).bind fun r14 => br r14.1 (some ((decide (a1.2.2.2 = 0)), ())) (some (false, ()))) (some (false, ()))) (br (decide (a1.1 = 3)) ((sL1In.f n a1.2.1 0 3).bind fun r15 => br r15.1 ((sL1Token.f n a1.2.2.1).bind fun r16 => br r16.1 (some ((decide (a1.2.2.2 = 0)), ())) (some (false, ()))) (some (false, ()))) (cut (α := (Bool × Unit)) (br (decide (a1.1 = 4)) (some (.inr ((decide (a1.1 = 4)), ()))) (br (decide (a1.1 = 5)) (some (.inr ((decide (a1.1 = 5)), ()))) (br (decide (a1.1 = 6)) (some (.inr ((decide (a1.1 = 6)), ()))) (some (.inr ((decide (a1.1 = 7)), ())))))) fun y17 => br y17.1 (some (y4.1, ())) (br (decide (a1.1 = 8)) (br (decide (a1.2.1 = 0)) (some (y9.1, ())) (some (false, ()))) (cut (α := (Bool × Unit)) (br (decide (a1.1 = 9)) (some (.inr ((decide (a1.1 = 9)), ()))) (some (.inr ((decide (a1.1 = 10)), ())))) fun y18 => br y18.1 ((sL1In.f n a1.2.1 0 3).bind fun r19 => br r19.1 (some (y9.1, ())) (some (false, ()))) (br (decide (a1.1 = 11)) (br (decide (a1.2.1 = 0)) (br (decide (a1.2.2.1 = 0)) (some ((decide (a1.2.2.2 = 0)), ())) (some (false, ()))) (some (false, ()))) (some (false, ()))))))))
noncomputable def sL2Operands.mng (n : Nat) : Mng := ⟨[.val tProgram, .val tInstr], [.val .bool], fun x => sL2Operands.f n x.1 x.2.1⟩
noncomputable def sL2Operands.cfg (n : Nat) : Cfg := ⟨tys, [(72, sL1In.mng n), (106, sL1Token.mng n)], [], []⟩
theorem sL2Operands.eq : ∀ (n : Nat) (a0 : Program) (a1 : Instr), runF (sL2Operands.cfg n) n Tryd.f75 (annOf Tryd.f75 sL2Operands.las) [.val tProgram, .val tInstr] [.val .bool] (a0, (a1, ())) = sL2Operands.f n a0 a1 := by
  intros
  kernel_rfl
theorem sL2Operands.gof : GoF Tryd.prog 75 := ⟨_, Tryd.func75, by kernel_rfl, by kernel_rfl⟩
theorem sL2Operands.sound (n : Nat) : Sound Tryd.prog 75 (sL2Operands.mng n) := runF_sound (fn := Tryd.f75) (m := sL2Operands.mng n) (c := sL2Operands.cfg n) (regOK mixed (opOK (.of (c := sL2Operands.cfg n) ⟨⟨sL1In.sound n, sL1In.gof⟩, ⟨⟨sL1Token.sound n, sL1Token.gof⟩, trivial⟩⟩) (.of (c := sL2Operands.cfg n) trivial)) (tysOK tys_ok)) (tysOK tys_ok) Tryd.func75 (fun x => (sL2Operands.eq n x.1 x.2.1).symm)

def sIsProgram.las : List (Nat × LA) := [(1, ⟨[(21, .bool)], [], [1], []⟩), (6, ⟨[(25, .int .i64)], [], [1, 23, 24], []⟩)]
noncomputable def sIsProgram.f (n : Nat) (a0 : Program) : Option (Bool × Unit) := cut (α := (Bool × Unit)) ((sL1In.f n a0.1 0 3).bind fun r5 => br (!r5.1) (some (.inr (true, ()))) ((sL1In.f n a0.2.1 0 3).bind fun r6 => br (!r6.1) (some (.inr (true, ()))) ((sL1In.f n (a0.2.2.length : Int) 1 24).bind fun r7 => some (.inr ((!r7.1), ()))))) fun y4 => br y4.1 (some (false, ())) (iter (α := (Int × Unit)) n (fun ih17 x16 => br (decide (x16.1 < (a0.2.2.length : Int))) (chk (0 ≤ x16.1 ∧ x16.1 < (a0.2.2.length : Int)) (let v18 := (a0.2.2.getD x16.1.toNat zInstr); (sL2Operands.f n a0 v18).bind fun r19 => br (!r19.1) (some (false, ())) (ih17 ((w64 (x16.1 + 1)), ())))) (some (true, ()))) (0, ()))
noncomputable def sIsProgram.mng (n : Nat) : Mng := ⟨[.val tProgram], [.val .bool], fun x => sIsProgram.f n x.1⟩
noncomputable def sIsProgram.cfg (n : Nat) : Cfg := ⟨tys, [(72, sL1In.mng n), (75, sL2Operands.mng n)], [], []⟩
theorem sIsProgram.eq : ∀ (n : Nat) (a0 : Program), runF (sIsProgram.cfg n) n Tryd.f43 (annOf Tryd.f43 sIsProgram.las) [.val tProgram] [.val .bool] (a0, ()) = sIsProgram.f n a0 := by
  intros
  kernel_rfl
theorem sIsProgram.gof : GoF Tryd.prog 43 := ⟨_, Tryd.func43, by kernel_rfl, by kernel_rfl⟩
theorem sIsProgram.sound (n : Nat) : Sound Tryd.prog 43 (sIsProgram.mng n) := runF_sound (fn := Tryd.f43) (m := sIsProgram.mng n) (c := sIsProgram.cfg n) (regOK mixed (opOK (.of (c := sIsProgram.cfg n) ⟨⟨sL1In.sound n, sL1In.gof⟩, ⟨⟨sL2Operands.sound n, sL2Operands.gof⟩, trivial⟩⟩) (.of (c := sIsProgram.cfg n) trivial)) (tysOK tys_ok)) (tysOK tys_ok) Tryd.func43 (fun x => (sIsProgram.eq n x.1).symm)

def isReg.las : List (Nat × LA) := []
noncomputable def isReg.f (n : Nat) (a0 : Int) : Option (Bool × Unit) := br (decide (0 ≤ a0)) (some ((decide (a0 ≤ 3)), ())) (some (false, ()))
noncomputable def isReg.mng (n : Nat) : Mng := ⟨[.val I], [.val .bool], fun x => isReg.f n x.1⟩
noncomputable def isReg.cfg (n : Nat) : Cfg := ⟨tys, [], [], []⟩
theorem isReg.eq : ∀ (n : Nat) (a0 : Int), runF (isReg.cfg n) n Tryd.f76 (annOf Tryd.f76 isReg.las) [.val I] [.val .bool] (a0, ()) = isReg.f n a0 := by
  intros
  kernel_rfl
theorem isReg.gof : GoF Tryd.prog 76 := ⟨_, Tryd.func76, by kernel_rfl, by kernel_rfl⟩
theorem isReg.sound (n : Nat) : Sound Tryd.prog 76 (isReg.mng n) := runF_sound (fn := Tryd.f76) (m := isReg.mng n) (c := isReg.cfg n) (regOK mixed (opOK (.of (c := isReg.cfg n) trivial) (.of (c := isReg.cfg n) trivial)) (tysOK tys_ok)) (tysOK tys_ok) Tryd.func76 (fun x => (isReg.eq n x.1).symm)

def isToken.las : List (Nat × LA) := []
noncomputable def isToken.f (n : Nat) (a0 : Int) : Option (Bool × Unit) := br (decide ((-999999) ≤ a0)) (some ((decide (a0 ≤ 999999)), ())) (some (false, ()))
noncomputable def isToken.mng (n : Nat) : Mng := ⟨[.val I], [.val .bool], fun x => isToken.f n x.1⟩
noncomputable def isToken.cfg (n : Nat) : Cfg := ⟨tys, [], [], []⟩
theorem isToken.eq : ∀ (n : Nat) (a0 : Int), runF (isToken.cfg n) n Tryd.f77 (annOf Tryd.f77 isToken.las) [.val I] [.val .bool] (a0, ()) = isToken.f n a0 := by
  intros
  kernel_rfl
theorem isToken.gof : GoF Tryd.prog 77 := ⟨_, Tryd.func77, by kernel_rfl, by kernel_rfl⟩
theorem isToken.sound (n : Nat) : Sound Tryd.prog 77 (isToken.mng n) := runF_sound (fn := Tryd.f77) (m := isToken.mng n) (c := isToken.cfg n) (regOK mixed (opOK (.of (c := isToken.cfg n) trivial) (.of (c := isToken.cfg n) trivial)) (tysOK tys_ok)) (tysOK tys_ok) Tryd.func77 (fun x => (isToken.eq n x.1).symm)

def isInstr.las : List (Nat × LA) := [(1, ⟨[(9, .bool)], [], [1, 2, 4], []⟩), (14, ⟨[(83, .bool)], [], [4, 9, 25], []⟩), (26, ⟨[(109, .bool)], [], [4, 9, 25], []⟩)]
noncomputable def isInstr.f (n : Nat) (a0 : Instr) (a1 : Int) (a2 : Int) (a3 : Int) : Option (Bool × Unit) := cut (α := (Bool × Unit)) (br (decide (0 ≤ a0.2.2.1)) (br (decide (a0.2.2.1 ≤ a3)) (some (.inr ((decide (a0.2.2.2 = 0)), ()))) (some (.inr (false, ())))) (some (.inr (false, ())))) fun y1 => br (decide (a0.1 = 1)) ((isReg.f n a0.2.1).bind fun r2 => br r2.1 (br (decide (0 ≤ a0.2.2.1)) (br (decide (a0.2.2.1 < a1)) (some ((decide (a0.2.2.2 = 0)), ())) (some (false, ()))) (some (false, ()))) (some (false, ()))) (br (decide (a0.1 = 2)) ((isReg.f n a0.2.1).bind fun r3 => br r3.1 (br (decide (0 ≤ a0.2.2.1)) (br (decide (a0.2.2.1 < a2)) (some ((decide (a0.2.2.2 = 0)), ())) (some (false, ()))) (some (false, ()))) (some (false, ()))) (br (decide (a0.1 = 3)) ((isReg.f n a0.2.1).bind fun r4 => br r4.1 ((isToken.f n a0.2.2.1).bind fun r5 => br r5.1 (some ((decide (a0.2.2.2 = 0)), ())) (some (false, ()))) (some (false, ()))) (cut (α := (Bool × Unit)) (br (decide (a0.1 = 4)) (some (.inr ((decide (a0.1 = 4)), ()))) (br (decide (a0.1 = 5)) (some (.inr ((decide (a0.1 = 5)), ()))) (br (decide (a0.1 = 6)) (some (.inr ((decide (a0.1 = 6)), ()))) (some (.inr ((decide (a0.1 = 7)), ())))))) fun y6 => br y6.1 ((isReg.f n a0.2.1).bind fun r7 => br r7.1 ((isReg.f n a0.2.2.1).bind fun r8 => br r8.1 ((isReg.f n a0.2.2.2).bind fun r9 => some (r9.1, ())) (some (false, ()))) (some (false, ()))) (br (decide (a0.1 = 8)) (br (decide (a0.2.1 = 0)) (some (y1.1, ())) (some (false, ()))) (cut (α := (Bool × Unit)) (br (decide (a0.1 = 9)) (some (.inr ((decide (a0.1 = 9)), ()))) (some (.inr ((decide (a0.1 = 10)), ())))) fun y10 => br y10.1 ((isReg.f n a0.2.1).bind fun r11 => br r11.1 (some (y1.1, ())) (some (false, ()))) (br (decide (a0.1 = 11)) (some ((decide (a0.1 = 11) && (decide (a0.2.1 = 0) && (decide (a0.2.2.1 = 0) && (decide (a0.2.2.2 = 0) && true)))), ())) (some (false, ()))))))))
noncomputable def isInstr.mng (n : Nat) : Mng := ⟨[.val tInstr, .val I, .val I, .val I], [.val .bool], fun x => isInstr.f n x.1 x.2.1 x.2.2.1 x.2.2.2.1⟩
noncomputable def isInstr.cfg (n : Nat) : Cfg := ⟨tys, [(76, isReg.mng n), (77, isToken.mng n)], [], []⟩
theorem isInstr.eq : ∀ (n : Nat) (a0 : Instr) (a1 : Int) (a2 : Int) (a3 : Int), runF (isInstr.cfg n) n Tryd.f38 (annOf Tryd.f38 isInstr.las) [.val tInstr, .val I, .val I, .val I] [.val .bool] (a0, (a1, (a2, (a3, ())))) = isInstr.f n a0 a1 a2 a3 := by
  intros
  kernel_rfl
theorem isInstr.gof : GoF Tryd.prog 38 := ⟨_, Tryd.func38, by kernel_rfl, by kernel_rfl⟩
theorem isInstr.sound (n : Nat) : Sound Tryd.prog 38 (isInstr.mng n) := runF_sound (fn := Tryd.f38) (m := isInstr.mng n) (c := isInstr.cfg n) (regOK mixed (opOK (.of (c := isInstr.cfg n) ⟨⟨isReg.sound n, isReg.gof⟩, ⟨⟨isToken.sound n, isToken.gof⟩, trivial⟩⟩) (.of (c := isInstr.cfg n) trivial)) (tysOK tys_ok)) (tysOK tys_ok) Tryd.func38 (fun x => (isInstr.eq n x.1 x.2.1 x.2.2.1 x.2.2.2.1).symm)

def isProgramC.las : List (Nat × LA) := []
noncomputable def isProgramC.f (n : Nat) (a0 : Instr) (a1 : Program) : Option (Bool × Unit) := (isInstr.f n a0 a1.1 a1.2.1 (a1.2.2.length : Int)).bind fun r1 => some ((!r1.1), ())
noncomputable def isProgramC.mng (n : Nat) : Mng := ⟨[.val tInstr, .psh tProgram], [.val .bool], fun x => isProgramC.f n x.1 x.2.1⟩
noncomputable def isProgramC.cfg (n : Nat) : Cfg := ⟨tys, [(38, isInstr.mng n)], [], []⟩
theorem isProgramC.eq : ∀ (n : Nat) (a0 : Instr) (a1 : Program), runF (isProgramC.cfg n) n Tryd.f80 (annOf Tryd.f80 isProgramC.las) [.val tInstr, .psh tProgram] [.val .bool] (a0, (a1, ())) = isProgramC.f n a0 a1 := by
  intros
  kernel_rfl
theorem isProgramC.gof : GoF Tryd.prog 80 := ⟨_, Tryd.func80, by kernel_rfl, by kernel_rfl⟩
theorem isProgramC.sound (n : Nat) : Sound Tryd.prog 80 (isProgramC.mng n) := runF_sound (fn := Tryd.f80) (m := isProgramC.mng n) (c := isProgramC.cfg n) (regOK mixed (opOK (.of (c := isProgramC.cfg n) ⟨⟨isInstr.sound n, isInstr.gof⟩, trivial⟩) (.of (c := isProgramC.cfg n) trivial)) (tysOK tys_ok)) (tysOK tys_ok) Tryd.func80 (fun x => (isProgramC.eq n x.1 x.2.1).symm)

def indexFuncI.las : List (Nat × LA) := [(3, ⟨[(8, .int .i64)], [], [0, 1, 7], []⟩)]
noncomputable def indexFuncI.f (n : Nat) (a0 : List Instr) (a1 : (Program × Unit)) : Option (Int × Unit) := iter (α := (Int × Unit)) n (fun ih8 x7 => br (decide (x7.1 < (a0.length : Int))) (chk (0 ≤ x7.1 ∧ x7.1 < (a0.length : Int)) (let v9 := (a0.getD x7.1.toNat zInstr); (isProgramC.f n v9 a1.1).bind fun r10 => br r10.1 (some (x7.1, ())) (ih8 ((w64 (x7.1 + 1)), ())))) (some ((-1), ()))) (0, ())
noncomputable def indexFuncI.mng (n : Nat) : Mng := ⟨[.val (.sl tInstr), .fnc 80 [.psh tProgram]], [.val I], fun x => indexFuncI.f n x.1 x.2.1⟩
noncomputable def indexFuncI.cfg (n : Nat) : Cfg := ⟨tys, [(80, isProgramC.mng n)], [], []⟩
theorem indexFuncI.eq : ∀ (n : Nat) (a0 : List Instr) (a1 : (Program × Unit)), runF (indexFuncI.cfg n) n Tryd.f108 (annOf Tryd.f108 indexFuncI.las) [.val (.sl tInstr), .fnc 80 [.psh tProgram]] [.val I] (a0, (a1, ())) = indexFuncI.f n a0 a1 := by
  intros
  kernel_rfl
theorem indexFuncI.gof : GoF Tryd.prog 108 := ⟨_, Tryd.func108, by kernel_rfl, by kernel_rfl⟩
theorem indexFuncI.sound (n : Nat) : Sound Tryd.prog 108 (indexFuncI.mng n) := runF_sound (fn := Tryd.f108) (m := indexFuncI.mng n) (c := indexFuncI.cfg n) (regOK mixed (opOK (.of (c := indexFuncI.cfg n) ⟨⟨isProgramC.sound n, isProgramC.gof⟩, trivial⟩) (.of (c := indexFuncI.cfg n) trivial)) (tysOK tys_ok)) (tysOK tys_ok) Tryd.func108 (fun x => (indexFuncI.eq n x.1 x.2.1).symm)

def containsFuncI.las : List (Nat × LA) := []
noncomputable def containsFuncI.f (n : Nat) (a0 : List Instr) (a1 : (Program × Unit)) : Option (Bool × Unit) := (indexFuncI.f n a0 (a1.1, ())).bind fun r1 => some ((decide (0 ≤ r1.1)), ())
noncomputable def containsFuncI.mng (n : Nat) : Mng := ⟨[.val (.sl tInstr), .fnc 80 [.psh tProgram]], [.val .bool], fun x => containsFuncI.f n x.1 x.2.1⟩
noncomputable def containsFuncI.cfg (n : Nat) : Cfg := ⟨tys, [(108, indexFuncI.mng n)], [], []⟩
theorem containsFuncI.eq : ∀ (n : Nat) (a0 : List Instr) (a1 : (Program × Unit)), runF (containsFuncI.cfg n) n Tryd.f79 (annOf Tryd.f79 containsFuncI.las) [.val (.sl tInstr), .fnc 80 [.psh tProgram]] [.val .bool] (a0, (a1, ())) = containsFuncI.f n a0 a1 := by
  intros
  kernel_rfl
theorem containsFuncI.gof : GoF Tryd.prog 79 := ⟨_, Tryd.func79, by kernel_rfl, by kernel_rfl⟩
theorem containsFuncI.sound (n : Nat) : Sound Tryd.prog 79 (containsFuncI.mng n) := runF_sound (fn := Tryd.f79) (m := containsFuncI.mng n) (c := containsFuncI.cfg n) (regOK mixed (opOK (.of (c := containsFuncI.cfg n) ⟨⟨indexFuncI.sound n, indexFuncI.gof⟩, trivial⟩) (.of (c := containsFuncI.cfg n) trivial)) (tysOK tys_ok)) (tysOK tys_ok) Tryd.func79 (fun x => (containsFuncI.eq n x.1 x.2.1).symm)

def iIsProgram.las : List (Nat × LA) := [(1, ⟨[(32, .bool)], [], [1], []⟩)]
noncomputable def iIsProgram.f (n : Nat) (a0 : Program) : Option (Bool × Unit) := cut (α := (Bool × Unit)) (br (decide (a0.1 < 0)) (some (.inr (true, ()))) (br (decide (3 < a0.1)) (some (.inr (true, ()))) (br (decide (a0.2.1 < 0)) (some (.inr (true, ()))) (br (decide (3 < a0.2.1)) (some (.inr (true, ()))) (br (decide ((a0.2.2.length : Int) < 1)) (some (.inr (true, ()))) (some (.inr ((decide (24 < (a0.2.2.length : Int))), ())))))))) fun y1 => br y1.1 (some (false, ())) ((containsFuncI.f n a0.2.2 (a0, ())).bind fun r2 => some ((!r2.1), ()))
noncomputable def iIsProgram.mng (n : Nat) : Mng := ⟨[.val tProgram], [.val .bool], fun x => iIsProgram.f n x.1⟩
noncomputable def iIsProgram.cfg (n : Nat) : Cfg := ⟨tys, [(79, containsFuncI.mng n)], [], []⟩
theorem iIsProgram.eq : ∀ (n : Nat) (a0 : Program), runF (iIsProgram.cfg n) n Tryd.f45 (annOf Tryd.f45 iIsProgram.las) [.val tProgram] [.val .bool] (a0, ()) = iIsProgram.f n a0 := by
  intros
  kernel_rfl
theorem iIsProgram.gof : GoF Tryd.prog 45 := ⟨_, Tryd.func45, by kernel_rfl, by kernel_rfl⟩
theorem iIsProgram.sound (n : Nat) : Sound Tryd.prog 45 (iIsProgram.mng n) := runF_sound (fn := Tryd.f45) (m := iIsProgram.mng n) (c := iIsProgram.cfg n) (regOK mixed (opOK (.of (c := iIsProgram.cfg n) ⟨⟨containsFuncI.sound n, containsFuncI.gof⟩, trivial⟩) (.of (c := iIsProgram.cfg n) trivial)) (tysOK tys_ok)) (tysOK tys_ok) Tryd.func45 (fun x => (iIsProgram.eq n x.1).symm)

end Go.AmT
