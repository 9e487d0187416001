/- Functions that the law FnExactExpandState reaches, each as a plain Lean function, and that each does what that says. No condition. -/
import Derived.Test.YtkgknijpmcagmaaGreatAmD
import Derived.Test.YtkgknijpmcagmaaGreatProg
namespace Go.AmT
open Go Go.Am Go.Proofs
set_option linter.unusedVariables false
set_option maxRecDepth 100000
abbrev I : Ty := .int .i64
abbrev IS : Ty := .sl I
abbrev tInstr : Ty := (.pair I (.pair I (.pair I I)))
abbrev tLink : Ty := (.pair I (.pair I (.pair I (.pair I IS))))
abbrev tProgram : Ty := (.pair I (.pair I (.sl tInstr)))
abbrev tNetwork : Ty := (.pair (.sl tProgram) (.sl tLink))
abbrev Instr : Type := Int × (Int × (Int × Int))
def zInstr : Instr := (0, (0, (0, 0)))
abbrev Program : Type := Int × (Int × List Instr)
def zProgram : Program := (0, (0, []))
abbrev Link : Type := Int × (Int × (Int × (Int × List Int)))
def zLink : Link := (0, (0, (0, (0, []))))
abbrev Network : Type := List Program × List Link
def tys : List (Nat × TInfo) := [(3, ⟨false, 1, 8, [.int .i64 0], .int .i64, 0, some I, [], false⟩),
  (22, ⟨false, 1, 24, [.nil], .slice, 135, some (.sl tProgram), [], false⟩),
  (23, ⟨false, 1, 24, [.nil], .slice, 137, some (.sl tLink), [], false⟩),
  (25, ⟨true, 2, 48, [.nil, .nil], .struct, 0, some tNetwork, [(0, 22), (1, 23)], false⟩),
  (37, ⟨false, 1, 24, [.nil], .slice, 53, some (.sl tProgram), [], false⟩),
  (38, ⟨false, 1, 24, [.nil], .slice, 81, some (.sl tLink), [], false⟩),
  (40, ⟨true, 2, 48, [.nil, .nil], .struct, 0, some tNetwork, [(0, 37), (1, 38)], false⟩),
  (51, ⟨false, 1, 24, [.nil], .slice, 103, some (.sl tInstr), [], false⟩),
  (53, ⟨true, 3, 40, [.int .i64 0, .int .i64 0, .nil], .struct, 0, some tProgram, [(0, 3), (1, 3), (2, 51)], false⟩),
  (75, ⟨false, 1, 24, [.nil], .slice, 3, some IS, [], false⟩),
  (81, ⟨true, 5, 56, [.int .i64 0, .int .i64 0, .int .i64 0, .int .i64 0, .nil], .struct, 0, some tLink, [(0, 3), (1, 3), (2, 3), (3, 3), (4, 75)], false⟩),
  (103, ⟨true, 4, 32, [.int .i64 0, .int .i64 0, .int .i64 0, .int .i64 0], .struct, 0, some tInstr, [(0, 3), (1, 3), (2, 3), (3, 3)], true⟩),
  (133, ⟨false, 1, 24, [.nil], .slice, 195, some (.sl tInstr), [], false⟩),
  (135, ⟨true, 3, 40, [.int .i64 0, .int .i64 0, .nil], .struct, 0, some tProgram, [(0, 3), (1, 3), (2, 133)], false⟩),
  (137, ⟨true, 5, 56, [.int .i64 0, .int .i64 0, .int .i64 0, .int .i64 0, .nil], .struct, 0, some tLink, [(0, 3), (1, 3), (2, 3), (3, 3), (4, 75)], false⟩),
  (195, ⟨true, 4, 32, [.int .i64 0, .int .i64 0, .int .i64 0, .int .i64 0], .struct, 0, some tInstr, [(0, 3), (1, 3), (2, 3), (3, 3)], false⟩)]
theorem tys_ok : (tys.all fun p => tokB Tryz.prog p.1 p.2) = true := by kernel_rfl
theorem mixed : Tryz.prog.follows .mixedOrders = true := by kernel_rfl

def szInstrS.las : List (Nat × LA) := []
noncomputable def szInstrS.f (n : Nat) (a0 : List Instr) (a1 : Int) : Option (Int × Unit) := br (decide ((w64 (a1 - (a0.length : Int))) < 0)) (some ((-1), ())) (some ((w64 (a1 - (a0.length : Int))), ()))
noncomputable def szInstrS.mng (n : Nat) : Mng := ⟨[.val (.sl tInstr), .val I], [.val I], fun x => szInstrS.f n x.1 x.2.1⟩
noncomputable def szInstrS.cfg (n : Nat) : Cfg := ⟨tys, [], [], []⟩
theorem szInstrS.eq : ∀ (n : Nat) (a0 : List Instr) (a1 : Int), runF (szInstrS.cfg n) n Tryz.f154 (annOf Tryz.f154 szInstrS.las) [.val (.sl tInstr), .val I] [.val I] (a0, (a1, ())) = szInstrS.f n a0 a1 := by
  intros
  kernel_rfl
theorem szInstrS.gof : GoF Tryz.prog 154 := ⟨_, Tryz.func154, by kernel_rfl, by kernel_rfl⟩
theorem szInstrS.sound (n : Nat) : Sound Tryz.prog 154 (szInstrS.mng n) := runF_sound (fn := Tryz.f154) (m := szInstrS.mng n) (c := szInstrS.cfg n) (regOK mixed (opOK (.of (c := szInstrS.cfg n) trivial) (.of (c := szInstrS.cfg n) trivial)) (tysOK tys_ok)) (tysOK tys_ok) Tryz.func154 (fun x => (szInstrS.eq n x.1 x.2.1).symm)

def szProgram.las : List (Nat × LA) := []
noncomputable def szProgram.f (n : Nat) (a0 : Program) (a1 : Int) : Option (Int × Unit) := (szInstrS.f n a0.2.2 a1).bind fun r1 => br (decide (r1.1 < 0)) (some ((-1), ())) (some (r1.1, ()))
noncomputable def szProgram.mng (n : Nat) : Mng := ⟨[.val tProgram, .val I], [.val I], fun x => szProgram.f n x.1 x.2.1⟩
noncomputable def szProgram.cfg (n : Nat) : Cfg := ⟨tys, [(154, szInstrS.mng n)], [], []⟩
theorem szProgram.eq : ∀ (n : Nat) (a0 : Program) (a1 : Int), runF (szProgram.cfg n) n Tryz.f99 (annOf Tryz.f99 szProgram.las) [.val tProgram, .val I] [.val I] (a0, (a1, ())) = szProgram.f n a0 a1 := by
  intros
  kernel_rfl
theorem szProgram.gof : GoF Tryz.prog 99 := ⟨_, Tryz.func99, by kernel_rfl, by kernel_rfl⟩
theorem szProgram.sound (n : Nat) : Sound Tryz.prog 99 (szProgram.mng n) := runF_sound (fn := Tryz.f99) (m := szProgram.mng n) (c := szProgram.cfg n) (regOK mixed (opOK (.of (c := szProgram.cfg n) ⟨⟨szInstrS.sound n, szInstrS.gof⟩, trivial⟩) (.of (c := szProgram.cfg n) trivial)) (tysOK tys_ok)) (tysOK tys_ok) Tryz.func99 (fun x => (szProgram.eq n x.1 x.2.1).symm)

def szProgramS.las : List (Nat × LA) := [(7, ⟨[(1, .int .i64), (5, .int .i64)], [], [0], []⟩)]
noncomputable def szProgramS.f (n : Nat) (a0 : List Program) (a1 : Int) : Option (Int × Unit) := br (decide ((w64 (a1 - (a0.length : Int))) < 0)) (some ((-1), ())) (iter (α := (Int × (Int × Unit))) n (fun ih7 x6 => br (decide (x6.2.1 < (a0.length : Int))) (chk (0 ≤ x6.2.1 ∧ x6.2.1 < (a0.length : Int)) (let v8 := (a0.getD x6.2.1.toNat zProgram); (szProgram.f n v8 x6.1).bind fun r9 => br (decide (r9.1 < 0)) (some ((-1), ())) (ih7 (r9.1, ((w64 (x6.2.1 + 1)), ()))))) (some (x6.1, ()))) ((w64 (a1 - (a0.length : Int))), (0, ())))
noncomputable def szProgramS.mng (n : Nat) : Mng := ⟨[.val (.sl tProgram), .val I], [.val I], fun x => szProgramS.f n x.1 x.2.1⟩
noncomputable def szProgramS.cfg (n : Nat) : Cfg := ⟨tys, [(99, szProgram.mng n)], [], []⟩
theorem szProgramS.eq : ∀ (n : Nat) (a0 : List Program) (a1 : Int), runF (szProgramS.cfg n) n Tryz.f31 (annOf Tryz.f31 szProgramS.las) [.val (.sl tProgram), .val I] [.val I] (a0, (a1, ())) = szProgramS.f n a0 a1 := by
  intros
  kernel_rfl
theorem szProgramS.gof : GoF Tryz.prog 31 := ⟨_, Tryz.func31, by kernel_rfl, by kernel_rfl⟩
theorem szProgramS.sound (n : Nat) : Sound Tryz.prog 31 (szProgramS.mng n) := runF_sound (fn := Tryz.f31) (m := szProgramS.mng n) (c := szProgramS.cfg n) (regOK mixed (opOK (.of (c := szProgramS.cfg n) ⟨⟨szProgram.sound n, szProgram.gof⟩, trivial⟩) (.of (c := szProgramS.cfg n) trivial)) (tysOK tys_ok)) (tysOK tys_ok) Tryz.func31 (fun x => (szProgramS.eq n x.1 x.2.1).symm)

def szIntS.las : List (Nat × LA) := []
noncomputable def szIntS.f (n : Nat) (a0 : List Int) (a1 : Int) : Option (Int × Unit) := br (decide ((w64 (a1 - (a0.length : Int))) < 0)) (some ((-1), ())) (some ((w64 (a1 - (a0.length : Int))), ()))
noncomputable def szIntS.mng (n : Nat) : Mng := ⟨[.val IS, .val I], [.val I], fun x => szIntS.f n x.1 x.2.1⟩
noncomputable def szIntS.cfg (n : Nat) : Cfg := ⟨tys, [], [], []⟩
theorem szIntS.eq : ∀ (n : Nat) (a0 : List Int) (a1 : Int), runF (szIntS.cfg n) n Tryz.f102 (annOf Tryz.f102 szIntS.las) [.val IS, .val I] [.val I] (a0, (a1, ())) = szIntS.f n a0 a1 := by
  intros
  kernel_rfl
theorem szIntS.gof : GoF Tryz.prog 102 := ⟨_, Tryz.func102, by kernel_rfl, by kernel_rfl⟩
theorem szIntS.sound (n : Nat) : Sound Tryz.prog 102 (szIntS.mng n) := runF_sound (fn := Tryz.f102) (m := szIntS.mng n) (c := szIntS.cfg n) (regOK mixed (opOK (.of (c := szIntS.cfg n) trivial) (.of (c := szIntS.cfg n) trivial)) (tysOK tys_ok)) (tysOK tys_ok) Tryz.func102 (fun x => (szIntS.eq n x.1 x.2.1).symm)

def szLink.las : List (Nat × LA) := []
noncomputable def szLink.f (n : Nat) (a0 : Link) (a1 : Int) : Option (Int × Unit) := (szIntS.f n a0.2.2.2.2 a1).bind fun r1 => br (decide (r1.1 < 0)) (some ((-1), ())) (some (r1.1, ()))
noncomputable def szLink.mng (n : Nat) : Mng := ⟨[.val tLink, .val I], [.val I], fun x => szLink.f n x.1 x.2.1⟩
noncomputable def szLink.cfg (n : Nat) : Cfg := ⟨tys, [(102, szIntS.mng n)], [], []⟩
theorem szLink.eq : ∀ (n : Nat) (a0 : Link) (a1 : Int), runF (szLink.cfg n) n Tryz.f100 (annOf Tryz.f100 szLink.las) [.val tLink, .val I] [.val I] (a0, (a1, ())) = szLink.f n a0 a1 := by
  intros
  kernel_rfl
theorem szLink.gof : GoF Tryz.prog 100 := ⟨_, Tryz.func100, by kernel_rfl, by kernel_rfl⟩
theorem szLink.sound (n : Nat) : Sound Tryz.prog 100 (szLink.mng n) := runF_sound (fn := Tryz.f100) (m := szLink.mng n) (c := szLink.cfg n) (regOK mixed (opOK (.of (c := szLink.cfg n) ⟨⟨szIntS.sound n, szIntS.gof⟩, trivial⟩) (.of (c := szLink.cfg n) trivial)) (tysOK tys_ok)) (tysOK tys_ok) Tryz.func100 (fun x => (szLink.eq n x.1 x.2.1).symm)

def szLinkS.las : List (Nat × LA) := [(7, ⟨[(1, .int .i64), (5, .int .i64)], [], [0], []⟩)]
noncomputable def szLinkS.f (n : Nat) (a0 : List Link) (a1 : Int) : Option (Int × Unit) := br (decide ((w64 (a1 - (a0.length : Int))) < 0)) (some ((-1), ())) (iter (α := (Int × (Int × Unit))) n (fun ih6 x5 => br (decide (x5.2.1 < (a0.length : Int))) (chk (0 ≤ x5.2.1 ∧ x5.2.1 < (a0.length : Int)) (let v7 := (a0.getD x5.2.1.toNat zLink); (szLink.f n v7 x5.1).bind fun r8 => br (decide (r8.1 < 0)) (some ((-1), ())) (ih6 (r8.1, ((w64 (x5.2.1 + 1)), ()))))) (some (x5.1, ()))) ((w64 (a1 - (a0.length : Int))), (0, ())))
noncomputable def szLinkS.mng (n : Nat) : Mng := ⟨[.val (.sl tLink), .val I], [.val I], fun x => szLinkS.f n x.1 x.2.1⟩
noncomputable def szLinkS.cfg (n : Nat) : Cfg := ⟨tys, [(100, szLink.mng n)], [], []⟩
theorem szLinkS.eq : ∀ (n : Nat) (a0 : List Link) (a1 : Int), runF (szLinkS.cfg n) n Tryz.f32 (annOf Tryz.f32 szLinkS.las) [.val (.sl tLink), .val I] [.val I] (a0, (a1, ())) = szLinkS.f n a0 a1 := by
  intros
  kernel_rfl
theorem szLinkS.gof : GoF Tryz.prog 32 := ⟨_, Tryz.func32, by kernel_rfl, by kernel_rfl⟩
theorem szLinkS.sound (n : Nat) : Sound Tryz.prog 32 (szLinkS.mng n) := runF_sound (fn := Tryz.f32) (m := szLinkS.mng n) (c := szLinkS.cfg n) (regOK mixed (opOK (.of (c := szLinkS.cfg n) ⟨⟨szLink.sound n, szLink.gof⟩, trivial⟩) (.of (c := szLinkS.cfg n) trivial)) (tysOK tys_ok)) (tysOK tys_ok) Tryz.func32 (fun x => (szLinkS.eq n x.1 x.2.1).symm)

def szNetwork.las : List (Nat × LA) := []
noncomputable def szNetwork.f (n : Nat) (a0 : Network) (a1 : Int) : Option (Int × Unit) := (szProgramS.f n a0.1 a1).bind fun r1 => br (decide (r1.1 < 0)) (some ((-1), ())) ((szLinkS.f n a0.2 r1.1).bind fun r2 => br (decide (r2.1 < 0)) (some ((-1), ())) (some (r2.1, ())))
noncomputable def szNetwork.mng (n : Nat) : Mng := ⟨[.val tNetwork, .val I], [.val I], fun x => szNetwork.f n x.1 x.2.1⟩
noncomputable def szNetwork.cfg (n : Nat) : Cfg := ⟨tys, [(31, szProgramS.mng n), (32, szLinkS.mng n)], [], []⟩
theorem szNetwork.eq : ∀ (n : Nat) (a0 : Network) (a1 : Int), runF (szNetwork.cfg n) n Tryz.f5 (annOf Tryz.f5 szNetwork.las) [.val tNetwork, .val I] [.val I] (a0, (a1, ())) = szNetwork.f n a0 a1 := by
  intros
  kernel_rfl
theorem szNetwork.gof : GoF Tryz.prog 5 := ⟨_, Tryz.func5, by kernel_rfl, by kernel_rfl⟩
theorem szNetwork.sound (n : Nat) : Sound Tryz.prog 5 (szNetwork.mng n) := runF_sound (fn := Tryz.f5) (m := szNetwork.mng n) (c := szNetwork.cfg n) (regOK mixed (opOK (.of (c := szNetwork.cfg n) ⟨⟨szProgramS.sound n, szProgramS.gof⟩, ⟨⟨szLinkS.sound n, szLinkS.gof⟩, trivial⟩⟩) (.of (c := szNetwork.cfg n) trivial)) (tysOK tys_ok)) (tysOK tys_ok) Tryz.func5 (fun x => (szNetwork.eq n x.1 x.2.1).symm)

def toInstr.las : List (Nat × LA) := []
noncomputable def toInstr.f (n : Nat) (a0 : Instr) : Option (Instr × Unit) := some (a0, ())
noncomputable def toInstr.mng (n : Nat) : Mng := ⟨[.val tInstr], [.val tInstr], fun x => toInstr.f n x.1⟩
noncomputable def toInstr.cfg (n : Nat) : Cfg := ⟨tys, [], [], []⟩
theorem toInstr.eq : ∀ (n : Nat) (a0 : Instr), runF (toInstr.cfg n) n Tryz.f169 (annOf Tryz.f169 toInstr.las) [.val tInstr] [.val tInstr] (a0, ()) = toInstr.f n a0 := by
  intros
  kernel_rfl
theorem toInstr.gof : GoF Tryz.prog 169 := ⟨_, Tryz.func169, by kernel_rfl, by kernel_rfl⟩
theorem toInstr.sound (n : Nat) : Sound Tryz.prog 169 (toInstr.mng n) := runF_sound (fn := Tryz.f169) (m := toInstr.mng n) (c := toInstr.cfg n) (regOK mixed (opOK (.of (c := toInstr.cfg n) trivial) (.of (c := toInstr.cfg n) trivial)) (tysOK tys_ok)) (tysOK tys_ok) Tryz.func169 (fun x => (toInstr.eq n x.1).symm)

def toInstrS.las : List (Nat × LA) := [(4, ⟨[(3, .own 1000 tInstr), (4, .int .i64)], [(1000, .row true tInstr)], [0], []⟩)]
noncomputable def toInstrS.f (n : Nat) (a0 : List Instr) : Option ((List Instr) × Unit) := chk ((a0.length : Int) = (a0.length : Int) ∧ 0 ≤ (a0.length : Int) ∧ (a0.length : Int) * (32 : Int) ≤ (maxB : Int)) (iter (α := (Int × (List Instr) × Unit)) n (fun ih7 x6 => br (decide (x6.1 < (a0.length : Int))) (chk (0 ≤ x6.1 ∧ x6.1 < (a0.length : Int)) (let v8 := (a0.getD x6.1.toNat zInstr); (toInstr.f n v8).bind fun r9 => chk (0 ≤ x6.1 ∧ x6.1 < (x6.2.1.length : Int)) (let v10 := (x6.2.1.set x6.1.toNat r9.1); ih7 ((w64 (x6.1 + 1)), (v10, ()))))) (some (x6.2.1, ()))) (0, ((List.replicate (a0.length : Int).toNat ((0, (0, (0, 0))) : Instr)), ())))
noncomputable def toInstrS.mng (n : Nat) : Mng := ⟨[.val (.sl tInstr)], [.val (.sl tInstr)], fun x => toInstrS.f n x.1⟩
noncomputable def toInstrS.cfg (n : Nat) : Cfg := ⟨tys, [(169, toInstr.mng n)], [], []⟩
theorem toInstrS.eq : ∀ (n : Nat) (a0 : List Instr), runF (toInstrS.cfg n) n Tryz.f156 (annOf Tryz.f156 toInstrS.las) [.val (.sl tInstr)] [.val (.sl tInstr)] (a0, ()) = toInstrS.f n a0 := by
  intros
  kernel_rfl
theorem toInstrS.gof : GoF Tryz.prog 156 := ⟨_, Tryz.func156, by kernel_rfl, by kernel_rfl⟩
theorem toInstrS.sound (n : Nat) : Sound Tryz.prog 156 (toInstrS.mng n) := runF_sound (fn := Tryz.f156) (m := toInstrS.mng n) (c := toInstrS.cfg n) (regOK mixed (opOK (.of (c := toInstrS.cfg n) ⟨⟨toInstr.sound n, toInstr.gof⟩, trivial⟩) (.of (c := toInstrS.cfg n) trivial)) (tysOK tys_ok)) (tysOK tys_ok) Tryz.func156 (fun x => (toInstrS.eq n x.1).symm)

def toProgram.las : List (Nat × LA) := []
noncomputable def toProgram.f (n : Nat) (a0 : Program) : Option (Program × Unit) := (toInstrS.f n a0.2.2).bind fun r1 => some ((a0.1, (a0.2.1, r1.1)), ())
noncomputable def toProgram.mng (n : Nat) : Mng := ⟨[.val tProgram], [.val tProgram], fun x => toProgram.f n x.1⟩
noncomputable def toProgram.cfg (n : Nat) : Cfg := ⟨tys, [(156, toInstrS.mng n)], [], []⟩
theorem toProgram.eq : ∀ (n : Nat) (a0 : Program), runF (toProgram.cfg n) n Tryz.f108 (annOf Tryz.f108 toProgram.las) [.val tProgram] [.val tProgram] (a0, ()) = toProgram.f n a0 := by
  intros
  kernel_rfl
theorem toProgram.gof : GoF Tryz.prog 108 := ⟨_, Tryz.func108, by kernel_rfl, by kernel_rfl⟩
theorem toProgram.sound (n : Nat) : Sound Tryz.prog 108 (toProgram.mng n) := runF_sound (fn := Tryz.f108) (m := toProgram.mng n) (c := toProgram.cfg n) (regOK mixed (opOK (.of (c := toProgram.cfg n) ⟨⟨toInstrS.sound n, toInstrS.gof⟩, trivial⟩) (.of (c := toProgram.cfg n) trivial)) (tysOK tys_ok)) (tysOK tys_ok) Tryz.func108 (fun x => (toProgram.eq n x.1).symm)

def toProgramS.las : List (Nat × LA) := [(4, ⟨[(3, .own 1000 tProgram), (4, .int .i64)], [(1000, .row true tProgram)], [0], []⟩)]
noncomputable def toProgramS.f (n : Nat) (a0 : List Program) : Option ((List Program) × Unit) := chk ((a0.length : Int) = (a0.length : Int) ∧ 0 ≤ (a0.length : Int) ∧ (a0.length : Int) * (40 : Int) ≤ (maxB : Int)) (iter (α := (Int × (List Program) × Unit)) n (fun ih7 x6 => br (decide (x6.1 < (a0.length : Int))) (chk (0 ≤ x6.1 ∧ x6.1 < (a0.length : Int)) (let v8 := (a0.getD x6.1.toNat zProgram); (toProgram.f n v8).bind fun r9 => chk (0 ≤ x6.1 ∧ x6.1 < (x6.2.1.length : Int)) (let v10 := (x6.2.1.set x6.1.toNat r9.1); ih7 ((w64 (x6.1 + 1)), (v10, ()))))) (some (x6.2.1, ()))) (0, ((List.replicate (a0.length : Int).toNat ((0, (0, [])) : Program)), ())))
noncomputable def toProgramS.mng (n : Nat) : Mng := ⟨[.val (.sl tProgram)], [.val (.sl tProgram)], fun x => toProgramS.f n x.1⟩
noncomputable def toProgramS.cfg (n : Nat) : Cfg := ⟨tys, [(108, toProgram.mng n)], [], []⟩
theorem toProgramS.eq : ∀ (n : Nat) (a0 : List Program), runF (toProgramS.cfg n) n Tryz.f40 (annOf Tryz.f40 toProgramS.las) [.val (.sl tProgram)] [.val (.sl tProgram)] (a0, ()) = toProgramS.f n a0 := by
  intros
  kernel_rfl
theorem toProgramS.gof : GoF Tryz.prog 40 := ⟨_, Tryz.func40, by kernel_rfl, by kernel_rfl⟩
theorem toProgramS.sound (n : Nat) : Sound Tryz.prog 40 (toProgramS.mng n) := runF_sound (fn := Tryz.f40) (m := toProgramS.mng n) (c := toProgramS.cfg n) (regOK mixed (opOK (.of (c := toProgramS.cfg n) ⟨⟨toProgram.sound n, toProgram.gof⟩, trivial⟩) (.of (c := toProgramS.cfg n) trivial)) (tysOK tys_ok)) (tysOK tys_ok) Tryz.func40 (fun x => (toProgramS.eq n x.1).symm)

def toIntS.las : List (Nat × LA) := [(4, ⟨[(3, .own 1000 I), (4, .int .i64)], [(1000, .row true I)], [0], []⟩)]
noncomputable def toIntS.f (n : Nat) (a0 : List Int) : Option ((List Int) × Unit) := chk ((a0.length : Int) = (a0.length : Int) ∧ 0 ≤ (a0.length : Int) ∧ (a0.length : Int) * (8 : Int) ≤ (maxB : Int)) (iter (α := (Int × (List Int) × Unit)) n (fun ih6 x5 => br (decide (x5.1 < (a0.length : Int))) (chk (0 ≤ x5.1 ∧ x5.1 < (a0.length : Int)) (chk (0 ≤ x5.1 ∧ x5.1 < (x5.2.1.length : Int)) (let v7 := (x5.2.1.set x5.1.toNat (a0.getD x5.1.toNat 0)); ih6 ((w64 (x5.1 + 1)), (v7, ()))))) (some (x5.2.1, ()))) (0, ((List.replicate (a0.length : Int).toNat (0 : Int)), ())))
noncomputable def toIntS.mng (n : Nat) : Mng := ⟨[.val IS], [.val IS], fun x => toIntS.f n x.1⟩
noncomputable def toIntS.cfg (n : Nat) : Cfg := ⟨tys, [], [], []⟩
theorem toIntS.eq : ∀ (n : Nat) (a0 : List Int), runF (toIntS.cfg n) n Tryz.f111 (annOf Tryz.f111 toIntS.las) [.val IS] [.val IS] (a0, ()) = toIntS.f n a0 := by
  intros
  kernel_rfl
theorem toIntS.gof : GoF Tryz.prog 111 := ⟨_, Tryz.func111, by kernel_rfl, by kernel_rfl⟩
theorem toIntS.sound (n : Nat) : Sound Tryz.prog 111 (toIntS.mng n) := runF_sound (fn := Tryz.f111) (m := toIntS.mng n) (c := toIntS.cfg n) (regOK mixed (opOK (.of (c := toIntS.cfg n) trivial) (.of (c := toIntS.cfg n) trivial)) (tysOK tys_ok)) (tysOK tys_ok) Tryz.func111 (fun x => (toIntS.eq n x.1).symm)

def toLink.las : List (Nat × LA) := []
noncomputable def toLink.f (n : Nat) (a0 : Link) : Option (Link × Unit) := (toIntS.f n a0.2.2.2.2).bind fun r1 => some ((a0.1, (a0.2.1, (a0.2.2.1, (a0.2.2.2.1, r1.1)))), ())
noncomputable def toLink.mng (n : Nat) : Mng := ⟨[.val tLink], [.val tLink], fun x => toLink.f n x.1⟩
noncomputable def toLink.cfg (n : Nat) : Cfg := ⟨tys, [(111, toIntS.mng n)], [], []⟩
theorem toLink.eq : ∀ (n : Nat) (a0 : Link), runF (toLink.cfg n) n Tryz.f109 (annOf Tryz.f109 toLink.las) [.val tLink] [.val tLink] (a0, ()) = toLink.f n a0 := by
  intros
  kernel_rfl
theorem toLink.gof : GoF Tryz.prog 109 := ⟨_, Tryz.func109, by kernel_rfl, by kernel_rfl⟩
theorem toLink.sound (n : Nat) : Sound Tryz.prog 109 (toLink.mng n) := runF_sound (fn := Tryz.f109) (m := toLink.mng n) (c := toLink.cfg n) (regOK mixed (opOK (.of (c := toLink.cfg n) ⟨⟨toIntS.sound n, toIntS.gof⟩, trivial⟩) (.of (c := toLink.cfg n) trivial)) (tysOK tys_ok)) (tysOK tys_ok) Tryz.func109 (fun x => (toLink.eq n x.1).symm)

def toLinkS.las : List (Nat × LA) := [(4, ⟨[(3, .own 1000 tLink), (4, .int .i64)], [(1000, .row true tLink)], [0], []⟩)]
noncomputable def toLinkS.f (n : Nat) (a0 : List Link) : Option ((List Link) × Unit) := chk ((a0.length : Int) = (a0.length : Int) ∧ 0 ≤ (a0.length : Int) ∧ (a0.length : Int) * (56 : Int) ≤ (maxB : Int)) (iter (α := (Int × (List Link) × Unit)) n (fun ih6 x5 => br (decide (x5.1 < (a0.length : Int))) (chk (0 ≤ x5.1 ∧ x5.1 < (a0.length : Int)) (let v7 := (a0.getD x5.1.toNat zLink); (toLink.f n v7).bind fun r8 => chk (0 ≤ x5.1 ∧ x5.1 < (x5.2.1.length : Int)) (let v9 := (x5.2.1.set x5.1.toNat r8.1); ih6 ((w64 (x5.1 + 1)), (v9, ()))))) (some (x5.2.1, ()))) (0, ((List.replicate (a0.length : Int).toNat ((0, (0, (0, (0, [])))) : Link)), ())))
noncomputable def toLinkS.mng (n : Nat) : Mng := ⟨[.val (.sl tLink)], [.val (.sl tLink)], fun x => toLinkS.f n x.1⟩
noncomputable def toLinkS.cfg (n : Nat) : Cfg := ⟨tys, [(109, toLink.mng n)], [], []⟩
theorem toLinkS.eq : ∀ (n : Nat) (a0 : List Link), runF (toLinkS.cfg n) n Tryz.f41 (annOf Tryz.f41 toLinkS.las) [.val (.sl tLink)] [.val (.sl tLink)] (a0, ()) = toLinkS.f n a0 := by
  intros
  kernel_rfl
theorem toLinkS.gof : GoF Tryz.prog 41 := ⟨_, Tryz.func41, by kernel_rfl, by kernel_rfl⟩
theorem toLinkS.sound (n : Nat) : Sound Tryz.prog 41 (toLinkS.mng n) := runF_sound (fn := Tryz.f41) (m := toLinkS.mng n) (c := toLinkS.cfg n) (regOK mixed (opOK (.of (c := toLinkS.cfg n) ⟨⟨toLink.sound n, toLink.gof⟩, trivial⟩) (.of (c := toLinkS.cfg n) trivial)) (tysOK tys_ok)) (tysOK tys_ok) Tryz.func41 (fun x => (toLinkS.eq n x.1).symm)

def toNetwork.las : List (Nat × LA) := []
noncomputable def toNetwork.f (n : Nat) (a0 : Network) : Option (Network × Unit) := (toProgramS.f n a0.1).bind fun r1 => (toLinkS.f n a0.2).bind fun r2 => some ((r1.1, r2.1), ())
noncomputable def toNetwork.mng (n : Nat) : Mng := ⟨[.val tNetwork], [.val tNetwork], fun x => toNetwork.f n x.1⟩
noncomputable def toNetwork.cfg (n : Nat) : Cfg := ⟨tys, [(40, toProgramS.mng n), (41, toLinkS.mng n)], [], []⟩
theorem toNetwork.eq : ∀ (n : Nat) (a0 : Network), runF (toNetwork.cfg n) n Tryz.f8 (annOf Tryz.f8 toNetwork.las) [.val tNetwork] [.val tNetwork] (a0, ()) = toNetwork.f n a0 := by
  intros
  kernel_rfl
theorem toNetwork.gof : GoF Tryz.prog 8 := ⟨_, Tryz.func8, by kernel_rfl, by kernel_rfl⟩
theorem toNetwork.sound (n : Nat) : Sound Tryz.prog 8 (toNetwork.mng n) := runF_sound (fn := Tryz.f8) (m := toNetwork.mng n) (c := toNetwork.cfg n) (regOK mixed (opOK (.of (c := toNetwork.cfg n) ⟨⟨toProgramS.sound n, toProgramS.gof⟩, ⟨⟨toLinkS.sound n, toLinkS.gof⟩, trivial⟩⟩) (.of (c := toNetwork.cfg n) trivial)) (tysOK tys_ok)) (tysOK tys_ok) Tryz.func8 (fun x => (toNetwork.eq n x.1).symm)

def eqInstr.las : List (Nat × LA) := []
noncomputable def eqInstr.f (n : Nat) (a0 : Instr) (a1 : Instr) : Option (Bool × Unit) := br (!decide (a0.1 = a1.1)) (some (false, ())) (br (!decide (a0.2.1 = a1.2.1)) (some (false, ())) (br (!decide (a0.2.2.1 = a1.2.2.1)) (some (false, ())) (br (!decide (a0.2.2.2 = a1.2.2.2)) (some (false, ())) (some (true, ())))))
noncomputable def eqInstr.mng (n : Nat) : Mng := ⟨[.val tInstr, .val tInstr], [.val .bool], fun x => eqInstr.f n x.1 x.2.1⟩
noncomputable def eqInstr.cfg (n : Nat) : Cfg := ⟨tys, [], [], []⟩
theorem eqInstr.eq : ∀ (n : Nat) (a0 : Instr) (a1 : Instr), runF (eqInstr.cfg n) n Tryz.f172 (annOf Tryz.f172 eqInstr.las) [.val tInstr, .val tInstr] [.val .bool] (a0, (a1, ())) = eqInstr.f n a0 a1 := by
  intros
  kernel_rfl
theorem eqInstr.gof : GoF Tryz.prog 172 := ⟨_, Tryz.func172, by kernel_rfl, by kernel_rfl⟩
theorem eqInstr.sound (n : Nat) : Sound Tryz.prog 172 (eqInstr.mng n) := runF_sound (fn := Tryz.f172) (m := eqInstr.mng n) (c := eqInstr.cfg n) (regOK mixed (opOK (.of (c := eqInstr.cfg n) trivial) (.of (c := eqInstr.cfg n) trivial)) (tysOK tys_ok)) (tysOK tys_ok) Tryz.func172 (fun x => (eqInstr.eq n x.1 x.2.1).symm)

def eqInstrS.las : List (Nat × LA) := [(6, ⟨[(5, .int .i64)], [], [0, 1], []⟩)]
noncomputable def eqInstrS.f (n : Nat) (a0 : List Instr) (a1 : List Instr) : Option (Bool × Unit) := br (!decide ((a0.length : Int) = (a1.length : Int))) (some (false, ())) (iter (α := (Int × Unit)) n (fun ih8 x7 => br (decide (x7.1 < (a0.length : Int))) (chk (0 ≤ x7.1 ∧ x7.1 < (a0.length : Int)) (let v9 := (a0.getD x7.1.toNat zInstr); chk (0 ≤ x7.1 ∧ x7.1 < (a1.length : Int)) (let v10 := (a1.getD x7.1.toNat zInstr); (eqInstr.f n v9 v10).bind fun r11 => br (!r11.1) (some (false, ())) (ih8 ((w64 (x7.1 + 1)), ()))))) (some (true, ()))) (0, ()))
noncomputable def eqInstrS.mng (n : Nat) : Mng := ⟨[.val (.sl tInstr), .val (.sl tInstr)], [.val .bool], fun x => eqInstrS.f n x.1 x.2.1⟩
noncomputable def eqInstrS.cfg (n : Nat) : Cfg := ⟨tys, [(172, eqInstr.mng n)], [], []⟩
theorem eqInstrS.eq : ∀ (n : Nat) (a0 : List Instr) (a1 : List Instr), runF (eqInstrS.cfg n) n Tryz.f162 (annOf Tryz.f162 eqInstrS.las) [.val (.sl tInstr), .val (.sl tInstr)] [.val .bool] (a0, (a1, ())) = eqInstrS.f n a0 a1 := by
  intros
  kernel_rfl
theorem eqInstrS.gof : GoF Tryz.prog 162 := ⟨_, Tryz.func162, by kernel_rfl, by kernel_rfl⟩
theorem eqInstrS.sound (n : Nat) : Sound Tryz.prog 162 (eqInstrS.mng n) := runF_sound (fn := Tryz.f162) (m := eqInstrS.mng n) (c := eqInstrS.cfg n) (regOK mixed (opOK (.of (c := eqInstrS.cfg n) ⟨⟨eqInstr.sound n, eqInstr.gof⟩, trivial⟩) (.of (c := eqInstrS.cfg n) trivial)) (tysOK tys_ok)) (tysOK tys_ok) Tryz.func162 (fun x => (eqInstrS.eq n x.1 x.2.1).symm)

def eqProgram.las : List (Nat × LA) := []
noncomputable def eqProgram.f (n : Nat) (a0 : Program) (a1 : Program) : Option (Bool × Unit) := br (!decide (a0.1 = a1.1)) (some (false, ())) (br (!decide (a0.2.1 = a1.2.1)) (some (false, ())) ((eqInstrS.f n a0.2.2 a1.2.2).bind fun r1 => br (!r1.1) (some (false, ())) (some (true, ()))))
noncomputable def eqProgram.mng (n : Nat) : Mng := ⟨[.val tProgram, .val tProgram], [.val .bool], fun x => eqProgram.f n x.1 x.2.1⟩
noncomputable def eqProgram.cfg (n : Nat) : Cfg := ⟨tys, [(162, eqInstrS.mng n)], [], []⟩
theorem eqProgram.eq : ∀ (n : Nat) (a0 : Program) (a1 : Program), runF (eqProgram.cfg n) n Tryz.f119 (annOf Tryz.f119 eqProgram.las) [.val tProgram, .val tProgram] [.val .bool] (a0, (a1, ())) = eqProgram.f n a0 a1 := by
  intros
  kernel_rfl
theorem eqProgram.gof : GoF Tryz.prog 119 := ⟨_, Tryz.func119, by kernel_rfl, by kernel_rfl⟩
theorem eqProgram.sound (n : Nat) : Sound Tryz.prog 119 (eqProgram.mng n) := runF_sound (fn := Tryz.f119) (m := eqProgram.mng n) (c := eqProgram.cfg n) (regOK mixed (opOK (.of (c := eqProgram.cfg n) ⟨⟨eqInstrS.sound n, eqInstrS.gof⟩, trivial⟩) (.of (c := eqProgram.cfg n) trivial)) (tysOK tys_ok)) (tysOK tys_ok) Tryz.func119 (fun x => (eqProgram.eq n x.1 x.2.1).symm)

def eqProgramS.las : List (Nat × LA) := [(6, ⟨[(5, .int .i64)], [], [0, 1], []⟩)]
noncomputable def eqProgramS.f (n : Nat) (a0 : List Program) (a1 : List Program) : Option (Bool × Unit) := br (!decide ((a0.length : Int) = (a1.length : Int))) (some (false, ())) (iter (α := (Int × Unit)) n (fun ih8 x7 => br (decide (x7.1 < (a0.length : Int))) (chk (0 ≤ x7.1 ∧ x7.1 < (a0.length : Int)) (let v9 := (a0.getD x7.1.toNat zProgram); chk (0 ≤ x7.1 ∧ x7.1 < (a1.length : Int)) (let v10 := (a1.getD x7.1.toNat zProgram); (eqProgram.f n v9 v10).bind fun r11 => br (!r11.1) (some (false, ())) (ih8 ((w64 (x7.1 + 1)), ()))))) (some (true, ()))) (0, ()))
noncomputable def eqProgramS.mng (n : Nat) : Mng := ⟨[.val (.sl tProgram), .val (.sl tProgram)], [.val .bool], fun x => eqProgramS.f n x.1 x.2.1⟩
noncomputable def eqProgramS.cfg (n : Nat) : Cfg := ⟨tys, [(119, eqProgram.mng n)], [], []⟩
theorem eqProgramS.eq : ∀ (n : Nat) (a0 : List Program) (a1 : List Program), runF (eqProgramS.cfg n) n Tryz.f52 (annOf Tryz.f52 eqProgramS.las) [.val (.sl tProgram), .val (.sl tProgram)] [.val .bool] (a0, (a1, ())) = eqProgramS.f n a0 a1 := by
  intros
  kernel_rfl
theorem eqProgramS.gof : GoF Tryz.prog 52 := ⟨_, Tryz.func52, by kernel_rfl, by kernel_rfl⟩
theorem eqProgramS.sound (n : Nat) : Sound Tryz.prog 52 (eqProgramS.mng n) := runF_sound (fn := Tryz.f52) (m := eqProgramS.mng n) (c := eqProgramS.cfg n) (regOK mixed (opOK (.of (c := eqProgramS.cfg n) ⟨⟨eqProgram.sound n, eqProgram.gof⟩, trivial⟩) (.of (c := eqProgramS.cfg n) trivial)) (tysOK tys_ok)) (tysOK tys_ok) Tryz.func52 (fun x => (eqProgramS.eq n x.1 x.2.1).symm)

def eqIntS.las : List (Nat × LA) := [(6, ⟨[(5, .int .i64)], [], [0, 1], []⟩)]
noncomputable def eqIntS.f (n : Nat) (a0 : List Int) (a1 : List Int) : Option (Bool × Unit) := br (!decide ((a0.length : Int) = (a1.length : Int))) (some (false, ())) (iter (α := (Int × Unit)) n (fun ih5 x4 => br (decide (x4.1 < (a0.length : Int))) (chk (0 ≤ x4.1 ∧ x4.1 < (a0.length : Int)) (chk (0 ≤ x4.1 ∧ x4.1 < (a1.length : Int)) (br (!decide ((a0.getD x4.1.toNat 0) = (a1.getD x4.1.toNat 0))) (some (false, ())) (ih5 ((w64 (x4.1 + 1)), ()))))) (some (true, ()))) (0, ()))
noncomputable def eqIntS.mng (n : Nat) : Mng := ⟨[.val IS, .val IS], [.val .bool], fun x => eqIntS.f n x.1 x.2.1⟩
noncomputable def eqIntS.cfg (n : Nat) : Cfg := ⟨tys, [], [], []⟩
theorem eqIntS.eq : ∀ (n : Nat) (a0 : List Int) (a1 : List Int), runF (eqIntS.cfg n) n Tryz.f118 (annOf Tryz.f118 eqIntS.las) [.val IS, .val IS] [.val .bool] (a0, (a1, ())) = eqIntS.f n a0 a1 := by
  intros
  kernel_rfl
theorem eqIntS.gof : GoF Tryz.prog 118 := ⟨_, Tryz.func118, by kernel_rfl, by kernel_rfl⟩
theorem eqIntS.sound (n : Nat) : Sound Tryz.prog 118 (eqIntS.mng n) := runF_sound (fn := Tryz.f118) (m := eqIntS.mng n) (c := eqIntS.cfg n) (regOK mixed (opOK (.of (c := eqIntS.cfg n) trivial) (.of (c := eqIntS.cfg n) trivial)) (tysOK tys_ok)) (tysOK tys_ok) Tryz.func118 (fun x => (eqIntS.eq n x.1 x.2.1).symm)

def eqLink.las : List (Nat × LA) := []
noncomputable def eqLink.f (n : Nat) (a0 : Link) (a1 : Link) : Option (Bool × Unit) := br (!decide (a0.1 = a1.1)) (some (false, ())) (br (!decide (a0.2.1 = a1.2.1)) (some (false, ())) (br (!decide (a0.2.2.1 = a1.2.2.1)) (some (false, ())) (br (!decide (a0.2.2.2.1 = a1.2.2.2.1)) (some (false, ())) ((eqIntS.f n a0.2.2.2.2 a1.2.2.2.2).bind fun r1 => br (!r1.1) (some (false, ())) (some (true, ()))))))
noncomputable def eqLink.mng (n : Nat) : Mng := ⟨[.val tLink, .val tLink], [.val .bool], fun x => eqLink.f n x.1 x.2.1⟩
noncomputable def eqLink.cfg (n : Nat) : Cfg := ⟨tys, [(118, eqIntS.mng n)], [], []⟩
theorem eqLink.eq : ∀ (n : Nat) (a0 : Link) (a1 : Link), runF (eqLink.cfg n) n Tryz.f120 (annOf Tryz.f120 eqLink.las) [.val tLink, .val tLink] [.val .bool] (a0, (a1, ())) = eqLink.f n a0 a1 := by
  intros
  kernel_rfl
theorem eqLink.gof : GoF Tryz.prog 120 := ⟨_, Tryz.func120, by kernel_rfl, by kernel_rfl⟩
theorem eqLink.sound (n : Nat) : Sound Tryz.prog 120 (eqLink.mng n) := runF_sound (fn := Tryz.f120) (m := eqLink.mng n) (c := eqLink.cfg n) (regOK mixed (opOK (.of (c := eqLink.cfg n) ⟨⟨eqIntS.sound n, eqIntS.gof⟩, trivial⟩) (.of (c := eqLink.cfg n) trivial)) (tysOK tys_ok)) (tysOK tys_ok) Tryz.func120 (fun x => (eqLink.eq n x.1 x.2.1).symm)

def eqLinkS.las : List (Nat × LA) := [(6, ⟨[(5, .int .i64)], [], [0, 1], []⟩)]
noncomputable def eqLinkS.f (n : Nat) (a0 : List Link) (a1 : List Link) : Option (Bool × Unit) := br (!decide ((a0.length : Int) = (a1.length : Int))) (some (false, ())) (iter (α := (Int × Unit)) n (fun ih6 x5 => br (decide (x5.1 < (a0.length : Int))) (chk (0 ≤ x5.1 ∧ x5.1 < (a0.length : Int)) (let v7 := (a0.getD x5.1.toNat zLink); chk (0 ≤ x5.1 ∧ x5.1 < (a1.length : Int)) (let v8 := (a1.getD x5.1.toNat zLink); (eqLink.f n v7 v8).bind fun r9 => br (!r9.1) (some (false, ())) (ih6 ((w64 (x5.1 + 1)), ()))))) (some (true, ()))) (0, ()))
noncomputable def eqLinkS.mng (n : Nat) : Mng := ⟨[.val (.sl tLink), .val (.sl tLink)], [.val .bool], fun x => eqLinkS.f n x.1 x.2.1⟩
noncomputable def eqLinkS.cfg (n : Nat) : Cfg := ⟨tys, [(120, eqLink.mng n)], [], []⟩
theorem eqLinkS.eq : ∀ (n : Nat) (a0 : List Link) (a1 : List Link), runF (eqLinkS.cfg n) n Tryz.f53 (annOf Tryz.f53 eqLinkS.las) [.val (.sl tLink), .val (.sl tLink)] [.val .bool] (a0, (a1, ())) = eqLinkS.f n a0 a1 := by
  intros
  kernel_rfl
theorem eqLinkS.gof : GoF Tryz.prog 53 := ⟨_, Tryz.func53, by kernel_rfl, by kernel_rfl⟩
theorem eqLinkS.sound (n : Nat) : Sound Tryz.prog 53 (eqLinkS.mng n) := runF_sound (fn := Tryz.f53) (m := eqLinkS.mng n) (c := eqLinkS.cfg n) (regOK mixed (opOK (.of (c := eqLinkS.cfg n) ⟨⟨eqLink.sound n, eqLink.gof⟩, trivial⟩) (.of (c := eqLinkS.cfg n) trivial)) (tysOK tys_ok)) (tysOK tys_ok) Tryz.func53 (fun x => (eqLinkS.eq n x.1 x.2.1).symm)

def eqNetwork.las : List (Nat × LA) := []
noncomputable def eqNetwork.f (n : Nat) (a0 : Network) (a1 : Network) : Option (Bool × Unit) := (eqProgramS.f n a0.1 a1.1).bind fun r1 => br (!r1.1) (some (false, ())) ((eqLinkS.f n a0.2 a1.2).bind fun r2 => br (!r2.1) (some (false, ())) (some (true, ())))
noncomputable def eqNetwork.mng (n : Nat) : Mng := ⟨[.val tNetwork, .val tNetwork], [.val .bool], fun x => eqNetwork.f n x.1 x.2.1⟩
noncomputable def eqNetwork.cfg (n : Nat) : Cfg := ⟨tys, [(52, eqProgramS.mng n), (53, eqLinkS.mng n)], [], []⟩
theorem eqNetwork.eq : ∀ (n : Nat) (a0 : Network) (a1 : Network), runF (eqNetwork.cfg n) n Tryz.f12 (annOf Tryz.f12 eqNetwork.las) [.val tNetwork, .val tNetwork] [.val .bool] (a0, (a1, ())) = eqNetwork.f n a0 a1 := by
  intros
  kernel_rfl
theorem eqNetwork.gof : GoF Tryz.prog 12 := ⟨_, Tryz.func12, by kernel_rfl, by kernel_rfl⟩
theorem eqNetwork.sound (n : Nat) : Sound Tryz.prog 12 (eqNetwork.mng n) := runF_sound (fn := Tryz.f12) (m := eqNetwork.mng n) (c := eqNetwork.cfg n) (regOK mixed (opOK (.of (c := eqNetwork.cfg n) ⟨⟨eqProgramS.sound n, eqProgramS.gof⟩, ⟨⟨eqLinkS.sound n, eqLinkS.gof⟩, trivial⟩⟩) (.of (c := eqNetwork.cfg n) trivial)) (tysOK tys_ok)) (tysOK tys_ok) Tryz.func12 (fun x => (eqNetwork.eq n x.1 x.2.1).symm)

def sL1In.las : List (Nat × LA) := []
noncomputable def sL1In.f (n : Nat) (a0 : Int) (a1 : Int) (a2 : Int) : Option (Bool × Unit) := br (decide (a1 ≤ a0)) (some ((decide (a0 ≤ a2)), ())) (some (false, ()))
noncomputable def sL1In.mng (n : Nat) : Mng := ⟨[.val I, .val I, .val I], [.val .bool], fun x => sL1In.f n x.1 x.2.1 x.2.2.1⟩
noncomputable def sL1In.cfg (n : Nat) : Cfg := ⟨tys, [], [], []⟩
theorem sL1In.eq : ∀ (n : Nat) (a0 : Int) (a1 : Int) (a2 : Int), runF (sL1In.cfg n) n Tryz.f103 (annOf Tryz.f103 sL1In.las) [.val I, .val I, .val I] [.val .bool] (a0, (a1, (a2, ()))) = sL1In.f n a0 a1 a2 := by
  intros
  kernel_rfl
theorem sL1In.gof : GoF Tryz.prog 103 := ⟨_, Tryz.func103, by kernel_rfl, by kernel_rfl⟩
theorem sL1In.sound (n : Nat) : Sound Tryz.prog 103 (sL1In.mng n) := runF_sound (fn := Tryz.f103) (m := sL1In.mng n) (c := sL1In.cfg n) (regOK mixed (opOK (.of (c := sL1In.cfg n) trivial) (.of (c := sL1In.cfg n) trivial)) (tysOK tys_ok)) (tysOK tys_ok) Tryz.func103 (fun x => (sL1In.eq n x.1 x.2.1 x.2.2.1).symm)

def sL1Token.las : List (Nat × LA) := []
noncomputable def sL1Token.f (n : Nat) (a0 : Int) : Option (Bool × Unit) := (sL1In.f n a0 (-999999) 999999).bind fun r1 => some (r1.1, ())
noncomputable def sL1Token.mng (n : Nat) : Mng := ⟨[.val I], [.val .bool], fun x => sL1Token.f n x.1⟩
noncomputable def sL1Token.cfg (n : Nat) : Cfg := ⟨tys, [(103, sL1In.mng n)], [], []⟩
theorem sL1Token.eq : ∀ (n : Nat) (a0 : Int), runF (sL1Token.cfg n) n Tryz.f155 (annOf Tryz.f155 sL1Token.las) [.val I] [.val .bool] (a0, ()) = sL1Token.f n a0 := by
  intros
  kernel_rfl
theorem sL1Token.gof : GoF Tryz.prog 155 := ⟨_, Tryz.func155, by kernel_rfl, by kernel_rfl⟩
theorem sL1Token.sound (n : Nat) : Sound Tryz.prog 155 (sL1Token.mng n) := runF_sound (fn := Tryz.f155) (m := sL1Token.mng n) (c := sL1Token.cfg n) (regOK mixed (opOK (.of (c := sL1Token.cfg n) ⟨⟨sL1In.sound n, sL1In.gof⟩, trivial⟩) (.of (c := sL1Token.cfg n) trivial)) (tysOK tys_ok)) (tysOK tys_ok) Tryz.func155 (fun x => (sL1Token.eq n x.1).symm)

def sL2Operands.las : List (Nat × LA) := [(1, ⟨[(5, .bool)], [], [2, 3], []⟩), (2, ⟨[(6, .bool)], [], [2, 3, 5], []⟩), (15, ⟨[(84, .bool)], [], [3, 5, 6, 32], []⟩), (27, ⟨[(98, .bool)], [], [3, 6, 32], []⟩)]
noncomputable def sL2Operands.f (n : Nat) (a0 : Program) (a1 : Instr) : Option (Bool × Unit) := cut (α := (Bool × Unit)) ((sL1In.f n a1.2.1 0 3).bind fun r5 => br r5.1 ((sL1In.f n a1.2.2.1 0 3).bind fun r6 => br r6.1 ((sL1In.f n a1.2.2.2 0 3).bind fun r7 => some (.inr (r7.1, ()))) (some (.inr (false, ())))) (some (.inr (false, ())))) fun y4 => cut (α := (Bool × Unit)) ((sL1In.f n a1.2.2.1 0 (a0.2.2.length : Int)).bind fun r10 => br r10.1 (some (.inr ((decide (a1.2.2.2 = 0)), ()))) (some (.inr (false, ())))) fun y9 => br (decide (a1.1 = 1)) ((sL1In.f n a1.2.1 0 3).bind fun r11 => br r11.1 ((sL1In.f n a1.2.2.1 0 (w64 (a0.1 - 1))).bind fun r12 => br r12.1 (some ((decide (a1.2.2.2 = 0)), ())) (some (false, ()))) (some (false, ()))) (br (decide (a1.1 = 2)) ((sL1In.f n a1.2.1 0 3).bind fun r13 => br r13.1 ((sL1In.f n a1.2.2.1 0 (w64 (a0.2.1 - 1))).bind fun r14 => br r14.1 (some ((decide (a1.2.2.2 = 0)), ())) (some (false, ()))) (some (false, ()))) (br (decide (a1.1 = 3)) ((sL1In.f n a1.2.1 0 3).bind fun r15 => br r15.1 ((sL1Token.f n a1.2.2.1).bind fun r16 => br r16.1 (some ((decide (a1.2.2.2 = 0)), ())) (some (false, ()))) (some (false, ()))) (cut (α := (Bool × Unit)) (br (decide (a1.1 = 4)) (some (.inr ((decide (a1.1 = 4)), ()))) (br (decide (a1.1 = 5)) (some (.inr ((decide (a1.1 = 5)), ()))) (br (decide (a1.1 = 6)) (some (.inr ((decide (a1.1 = 6)), ()))) (some (.inr ((decide (a1.1 = 7)), ())))))) fun y17 => br y17.1 (some (y4.1, ())) (br (decide (a1.1 = 8)) (br (decide (a1.2.1 = 0)) (some (y9.1, ())) (some (false, ()))) (cut (α := (Bool × Unit)) (br (decide (a1.1 = 9)) (some (.inr ((decide (a1.1 = 9)), ()))) (some (.inr ((decide (a1.1 = 10)), ())))) fun y18 => br y18.1 ((sL1In.f n a1.2.1 0 3).bind fun r19 => br r19.1 (some (y9.1, ())) (some (false, ()))) (br (decide (a1.1 = 11)) (br (decide (a1.2.1 = 0)) (br (decide (a1.2.2.1 = 0)) (some ((decide (a1.2.2.2 = 0)), ())) (some (false, ()))) (some (false, ()))) (some (false, ()))))))))
noncomputable def sL2Operands.mng (n : Nat) : Mng := ⟨[.val tProgram, .val tInstr], [.val .bool], fun x => sL2Operands.f n x.1 x.2.1⟩
noncomputable def sL2Operands.cfg (n : Nat) : Cfg := ⟨tys, [(103, sL1In.mng n), (155, sL1Token.mng n)], [], []⟩
theorem sL2Operands.eq : ∀ (n : Nat) (a0 : Program) (a1 : Instr), runF (sL2Operands.cfg n) n Tryz.f128 (annOf Tryz.f128 sL2Operands.las) [.val tProgram, .val tInstr] [.val .bool] (a0, (a1, ())) = sL2Operands.f n a0 a1 := by
  intros
  kernel_rfl
theorem sL2Operands.gof : GoF Tryz.prog 128 := ⟨_, Tryz.func128, by kernel_rfl, by kernel_rfl⟩
theorem sL2Operands.sound (n : Nat) : Sound Tryz.prog 128 (sL2Operands.mng n) := runF_sound (fn := Tryz.f128) (m := sL2Operands.mng n) (c := sL2Operands.cfg n) (regOK mixed (opOK (.of (c := sL2Operands.cfg n) ⟨⟨sL1In.sound n, sL1In.gof⟩, ⟨⟨sL1Token.sound n, sL1Token.gof⟩, trivial⟩⟩) (.of (c := sL2Operands.cfg n) trivial)) (tysOK tys_ok)) (tysOK tys_ok) Tryz.func128 (fun x => (sL2Operands.eq n x.1 x.2.1).symm)

def sIsProgram.las : List (Nat × LA) := [(1, ⟨[(21, .bool)], [], [1], []⟩), (6, ⟨[(25, .int .i64)], [], [1, 23, 24], []⟩)]
noncomputable def sIsProgram.f (n : Nat) (a0 : Program) : Option (Bool × Unit) := cut (α := (Bool × Unit)) ((sL1In.f n a0.1 0 3).bind fun r5 => br (!r5.1) (some (.inr (true, ()))) ((sL1In.f n a0.2.1 0 3).bind fun r6 => br (!r6.1) (some (.inr (true, ()))) ((sL1In.f n (a0.2.2.length : Int) 1 24).bind fun r7 => some (.inr ((!r7.1), ()))))) fun y4 => br y4.1 (some (false, ())) (iter (α := (Int × Unit)) n (fun ih17 x16 => br (decide (x16.1 < (a0.2.2.length : Int))) (chk (0 ≤ x16.1 ∧ x16.1 < (a0.2.2.length : Int)) (let v18 := (a0.2.2.getD x16.1.toNat zInstr); (sL2Operands.f n a0 v18).bind fun r19 => br (!r19.1) (some (false, ())) (ih17 ((w64 (x16.1 + 1)), ())))) (some (true, ()))) (0, ()))
noncomputable def sIsProgram.mng (n : Nat) : Mng := ⟨[.val tProgram], [.val .bool], fun x => sIsProgram.f n x.1⟩
noncomputable def sIsProgram.cfg (n : Nat) : Cfg := ⟨tys, [(103, sL1In.mng n), (128, sL2Operands.mng n)], [], []⟩
theorem sIsProgram.eq : ∀ (n : Nat) (a0 : Program), runF (sIsProgram.cfg n) n Tryz.f64 (annOf Tryz.f64 sIsProgram.las) [.val tProgram] [.val .bool] (a0, ()) = sIsProgram.f n a0 := by
  intros
  kernel_rfl
theorem sIsProgram.gof : GoF Tryz.prog 64 := ⟨_, Tryz.func64, by kernel_rfl, by kernel_rfl⟩
theorem sIsProgram.sound (n : Nat) : Sound Tryz.prog 64 (sIsProgram.mng n) := runF_sound (fn := Tryz.f64) (m := sIsProgram.mng n) (c := sIsProgram.cfg n) (regOK mixed (opOK (.of (c := sIsProgram.cfg n) ⟨⟨sL1In.sound n, sL1In.gof⟩, ⟨⟨sL2Operands.sound n, sL2Operands.gof⟩, trivial⟩⟩) (.of (c := sIsProgram.cfg n) trivial)) (tysOK tys_ok)) (tysOK tys_ok) Tryz.func64 (fun x => (sIsProgram.eq n x.1).symm)

def sL3Ends.las : List (Nat × LA) := [(1, ⟨[(34, .bool)], [], [2, 3], []⟩), (6, ⟨[(5, .int .i64)], [], [2, 3], []⟩), (10, ⟨[(6, .int .i64)], [], [3, 5], []⟩)]
noncomputable def sL3Ends.f (n : Nat) (a0 : Network) (a1 : Link) : Option (Bool × Unit) := cut (α := (Bool × Unit)) (br (decide (a1.1 = (-1))) (br (decide (a1.2.2.1 = (-1))) (some (.inr (true, ()))) ((sL1In.f n a1.1 (-1) (w64 ((a0.1.length : Int) - 1))).bind fun r6 => br (!r6.1) (some (.inr (true, ()))) ((sL1In.f n a1.2.2.1 (-1) (w64 ((a0.1.length : Int) - 1))).bind fun r7 => some (.inr ((!r7.1), ()))))) ((sL1In.f n a1.1 (-1) (w64 ((a0.1.length : Int) - 1))).bind fun r8 => br (!r8.1) (some (.inr (true, ()))) ((sL1In.f n a1.2.2.1 (-1) (w64 ((a0.1.length : Int) - 1))).bind fun r9 => some (.inr ((!r9.1), ()))))) fun y5 => br y5.1 (some (false, ())) (cut (α := (Int × Unit)) (br (decide (0 ≤ a1.1)) (chk (0 ≤ a1.1 ∧ a1.1 < (a0.1.length : Int)) (let v12 := (a0.1.getD a1.1.toNat zProgram); some (.inr (v12.2.1, ())))) (some (.inr (1, ())))) fun y11 => cut (α := (Int × Unit)) (br (decide (0 ≤ a1.2.2.1)) (chk (0 ≤ a1.2.2.1 ∧ a1.2.2.1 < (a0.1.length : Int)) (let v15 := (a0.1.getD a1.2.2.1.toNat zProgram); some (.inr (v15.1, ())))) (some (.inr (1, ())))) fun y14 => (sL1In.f n a1.2.1 0 (w64 (y11.1 - 1))).bind fun r16 => br r16.1 ((sL1In.f n a1.2.2.2.1 0 (w64 (y14.1 - 1))).bind fun r17 => some (r17.1, ())) (some (false, ())))
noncomputable def sL3Ends.mng (n : Nat) : Mng := ⟨[.val tNetwork, .val tLink], [.val .bool], fun x => sL3Ends.f n x.1 x.2.1⟩
noncomputable def sL3Ends.cfg (n : Nat) : Cfg := ⟨tys, [(103, sL1In.mng n)], [], []⟩
theorem sL3Ends.eq : ∀ (n : Nat) (a0 : Network) (a1 : Link), runF (sL3Ends.cfg n) n Tryz.f139 (annOf Tryz.f139 sL3Ends.las) [.val tNetwork, .val tLink] [.val .bool] (a0, (a1, ())) = sL3Ends.f n a0 a1 := by
  intros
  kernel_rfl
theorem sL3Ends.gof : GoF Tryz.prog 139 := ⟨_, Tryz.func139, by kernel_rfl, by kernel_rfl⟩
theorem sL3Ends.sound (n : Nat) : Sound Tryz.prog 139 (sL3Ends.mng n) := runF_sound (fn := Tryz.f139) (m := sL3Ends.mng n) (c := sL3Ends.cfg n) (regOK mixed (opOK (.of (c := sL3Ends.cfg n) ⟨⟨sL1In.sound n, sL1In.gof⟩, trivial⟩) (.of (c := sL3Ends.cfg n) trivial)) (tysOK tys_ok)) (tysOK tys_ok) Tryz.func139 (fun x => (sL3Ends.eq n x.1 x.2.1).symm)

def sIsStream.las : List (Nat × LA) := [(3, ⟨[(7, .int .i64)], [], [0, 5, 6], []⟩)]
noncomputable def sIsStream.f (n : Nat) (a0 : List Int) : Option (Bool × Unit) := iter (α := (Int × Unit)) n (fun ih7 x6 => br (decide (x6.1 < (a0.length : Int))) (chk (0 ≤ x6.1 ∧ x6.1 < (a0.length : Int)) ((sL1Token.f n (a0.getD x6.1.toNat 0)).bind fun r8 => br (!r8.1) (some (false, ())) (ih7 ((w64 (x6.1 + 1)), ())))) (some ((decide ((a0.length : Int) ≤ 400)), ()))) (0, ())
noncomputable def sIsStream.mng (n : Nat) : Mng := ⟨[.val IS], [.val .bool], fun x => sIsStream.f n x.1⟩
noncomputable def sIsStream.cfg (n : Nat) : Cfg := ⟨tys, [(155, sL1Token.mng n)], [], []⟩
theorem sIsStream.eq : ∀ (n : Nat) (a0 : List Int), runF (sIsStream.cfg n) n Tryz.f105 (annOf Tryz.f105 sIsStream.las) [.val IS] [.val .bool] (a0, ()) = sIsStream.f n a0 := by
  intros
  kernel_rfl
theorem sIsStream.gof : GoF Tryz.prog 105 := ⟨_, Tryz.func105, by kernel_rfl, by kernel_rfl⟩
theorem sIsStream.sound (n : Nat) : Sound Tryz.prog 105 (sIsStream.mng n) := runF_sound (fn := Tryz.f105) (m := sIsStream.mng n) (c := sIsStream.cfg n) (regOK mixed (opOK (.of (c := sIsStream.cfg n) ⟨⟨sL1Token.sound n, sL1Token.gof⟩, trivial⟩) (.of (c := sIsStream.cfg n) trivial)) (tysOK tys_ok)) (tysOK tys_ok) Tryz.func105 (fun x => (sIsStream.eq n x.1).symm)

def sL3To.las : List (Nat × LA) := [(4, ⟨[(7, .int .i64), (13, .int .i64)], [], [1, 2, 11, 12], []⟩), (9, ⟨[(27, .bool)], [], [1, 2, 7, 8, 11, 12, 13], []⟩)]
noncomputable def sL3To.f (n : Nat) (a0 : Network) (a1 : Int) (a2 : Int) : Option (Int × Unit) := iter (α := (Int × (Int × Unit))) n (fun ih9 x8 => br (decide (x8.2.1 < (a0.2.length : Int))) (chk (0 ≤ x8.2.1 ∧ x8.2.1 < (a0.2.length : Int)) (let v10 := (a0.2.getD x8.2.1.toNat zLink); cut (α := (Bool × Unit)) (br (decide (v10.2.2.1 = a1)) (some (.inr ((decide (v10.2.2.2.1 = a2)), ()))) (some (.inr (false, ())))) fun y11 => br y11.1 (br (decide (0 ≤ x8.1)) (some ((-2), ())) (ih9 (x8.2.1, ((w64 (x8.2.1 + 1)), ())))) (ih9 (x8.1, ((w64 (x8.2.1 + 1)), ()))))) (some (x8.1, ()))) ((-1), (0, ()))
noncomputable def sL3To.mng (n : Nat) : Mng := ⟨[.val tNetwork, .val I, .val I], [.val I], fun x => sL3To.f n x.1 x.2.1 x.2.2.1⟩
noncomputable def sL3To.cfg (n : Nat) : Cfg := ⟨tys, [], [], []⟩
theorem sL3To.eq : ∀ (n : Nat) (a0 : Network) (a1 : Int) (a2 : Int), runF (sL3To.cfg n) n Tryz.f140 (annOf Tryz.f140 sL3To.las) [.val tNetwork, .val I, .val I] [.val I] (a0, (a1, (a2, ()))) = sL3To.f n a0 a1 a2 := by
  intros
  kernel_rfl
theorem sL3To.gof : GoF Tryz.prog 140 := ⟨_, Tryz.func140, by kernel_rfl, by kernel_rfl⟩
theorem sL3To.sound (n : Nat) : Sound Tryz.prog 140 (sL3To.mng n) := runF_sound (fn := Tryz.f140) (m := sL3To.mng n) (c := sL3To.cfg n) (regOK mixed (opOK (.of (c := sL3To.cfg n) trivial) (.of (c := sL3To.cfg n) trivial)) (tysOK tys_ok)) (tysOK tys_ok) Tryz.func140 (fun x => (sL3To.eq n x.1 x.2.1 x.2.2.1).symm)

def sL3From.las : List (Nat × LA) := [(4, ⟨[(7, .int .i64), (13, .int .i64)], [], [1, 2, 11, 12], []⟩), (9, ⟨[(27, .bool)], [], [1, 2, 7, 8, 11, 12, 13], []⟩)]
noncomputable def sL3From.f (n : Nat) (a0 : Network) (a1 : Int) (a2 : Int) : Option (Int × Unit) := iter (α := (Int × (Int × Unit))) n (fun ih9 x8 => br (decide (x8.2.1 < (a0.2.length : Int))) (chk (0 ≤ x8.2.1 ∧ x8.2.1 < (a0.2.length : Int)) (let v10 := (a0.2.getD x8.2.1.toNat zLink); cut (α := (Bool × Unit)) (br (decide (v10.1 = a1)) (some (.inr ((decide (v10.2.1 = a2)), ()))) (some (.inr (false, ())))) fun y11 => br y11.1 (br (decide (0 ≤ x8.1)) (some ((-2), ())) (ih9 (x8.2.1, ((w64 (x8.2.1 + 1)), ())))) (ih9 (x8.1, ((w64 (x8.2.1 + 1)), ()))))) (some (x8.1, ()))) ((-1), (0, ()))
noncomputable def sL3From.mng (n : Nat) : Mng := ⟨[.val tNetwork, .val I, .val I], [.val I], fun x => sL3From.f n x.1 x.2.1 x.2.2.1⟩
noncomputable def sL3From.cfg (n : Nat) : Cfg := ⟨tys, [], [], []⟩
theorem sL3From.eq : ∀ (n : Nat) (a0 : Network) (a1 : Int) (a2 : Int), runF (sL3From.cfg n) n Tryz.f141 (annOf Tryz.f141 sL3From.las) [.val tNetwork, .val I, .val I] [.val I] (a0, (a1, (a2, ()))) = sL3From.f n a0 a1 a2 := by
  intros
  kernel_rfl
theorem sL3From.gof : GoF Tryz.prog 141 := ⟨_, Tryz.func141, by kernel_rfl, by kernel_rfl⟩
theorem sL3From.sound (n : Nat) : Sound Tryz.prog 141 (sL3From.mng n) := runF_sound (fn := Tryz.f141) (m := sL3From.mng n) (c := sL3From.cfg n) (regOK mixed (opOK (.of (c := sL3From.cfg n) trivial) (.of (c := sL3From.cfg n) trivial)) (tysOK tys_ok)) (tysOK tys_ok) Tryz.func141 (fun x => (sL3From.eq n x.1 x.2.1 x.2.2.1).symm)

def sIsNetwork.las : List (Nat × LA) := [(1, ⟨[(20, .bool)], [], [1], []⟩), (6, ⟨[(24, .int .i64)], [], [1, 22, 23], []⟩), (17, ⟨[(35, .int .i64)], [], [1, 33, 34], []⟩), (28, ⟨[(53, .int .i64)], [], [1, 51, 52], []⟩), (35, ⟨[(9, .int .i64)], [], [1, 7, 8, 51, 52, 53], []⟩), (45, ⟨[(10, .int .i64)], [], [1, 7, 8, 51, 52, 53], []⟩)]
noncomputable def sIsNetwork.f (n : Nat) (a0 : Network) : Option (Bool × Unit) := cut (α := (Bool × Unit)) (br (decide (12 < (a0.1.length : Int))) (some (.inr (true, ()))) (some (.inr ((decide (30 < (a0.2.length : Int))), ())))) fun y1 => br y1.1 (some (false, ())) (iter (α := (Int × Unit)) n (fun ih14 x13 => br (decide (x13.1 < (a0.1.length : Int))) (chk (0 ≤ x13.1 ∧ x13.1 < (a0.1.length : Int)) (let v15 := (a0.1.getD x13.1.toNat zProgram); (sIsProgram.f n v15).bind fun r16 => br (!r16.1) (some (false, ())) (ih14 ((w64 (x13.1 + 1)), ())))) (iter (α := (Int × Unit)) n (fun ih31 x30 => br (decide (x30.1 < (a0.2.length : Int))) (chk (0 ≤ x30.1 ∧ x30.1 < (a0.2.length : Int)) (let v32 := (a0.2.getD x30.1.toNat zLink); (sL3Ends.f n a0 v32).bind fun r33 => br (!r33.1) (some (false, ())) ((sIsStream.f n v32.2.2.2.2).bind fun r34 => br (!r34.1) (some (false, ())) (ih31 ((w64 (x30.1 + 1)), ()))))) (iter (α := (Int × Unit)) n (fun ih73 x72 => br (decide (x72.1 < (a0.1.length : Int))) (chk (0 ≤ x72.1 ∧ x72.1 < (a0.1.length : Int)) (let v74 := (a0.1.getD x72.1.toNat zProgram); iter (α := (Int × Unit)) n (fun ih90 x89 => br (decide (x89.1 < v74.1)) ((sL3To.f n a0 x72.1 x89.1).bind fun r91 => br (decide (r91.1 < 0)) (some (false, ())) (ih90 ((w64 (x89.1 + 1)), ()))) (iter (α := (Int × Unit)) n (fun ih104 x103 => br (decide (x103.1 < v74.2.1)) ((sL3From.f n a0 x72.1 x103.1).bind fun r105 => br (decide (r105.1 < 0)) (some (false, ())) (ih104 ((w64 (x103.1 + 1)), ()))) (ih73 ((w64 (x72.1 + 1)), ()))) (0, ()))) (0, ()))) (some (true, ()))) (0, ()))) (0, ()))) (0, ()))
noncomputable def sIsNetwork.mng (n : Nat) : Mng := ⟨[.val tNetwork], [.val .bool], fun x => sIsNetwork.f n x.1⟩
noncomputable def sIsNetwork.cfg (n : Nat) : Cfg := ⟨tys, [(64, sIsProgram.mng n), (139, sL3Ends.mng n), (105, sIsStream.mng n), (140, sL3To.mng n), (141, sL3From.mng n)], [], []⟩
theorem sIsNetwork.eq : ∀ (n : Nat) (a0 : Network), runF (sIsNetwork.cfg n) n Tryz.f84 (annOf Tryz.f84 sIsNetwork.las) [.val tNetwork] [.val .bool] (a0, ()) = sIsNetwork.f n a0 := by
  intros
  kernel_rfl
theorem sIsNetwork.gof : GoF Tryz.prog 84 := ⟨_, Tryz.func84, by kernel_rfl, by kernel_rfl⟩
theorem sIsNetwork.sound (n : Nat) : Sound Tryz.prog 84 (sIsNetwork.mng n) := runF_sound (fn := Tryz.f84) (m := sIsNetwork.mng n) (c := sIsNetwork.cfg n) (regOK mixed (opOK (.of (c := sIsNetwork.cfg n) ⟨⟨sIsProgram.sound n, sIsProgram.gof⟩, ⟨⟨sL3Ends.sound n, sL3Ends.gof⟩, ⟨⟨sIsStream.sound n, sIsStream.gof⟩, ⟨⟨sL3To.sound n, sL3To.gof⟩, ⟨⟨sL3From.sound n, sL3From.gof⟩, trivial⟩⟩⟩⟩⟩) (.of (c := sIsNetwork.cfg n) trivial)) (tysOK tys_ok)) (tysOK tys_ok) Tryz.func84 (fun x => (sIsNetwork.eq n x.1).symm)

def isReg.las : List (Nat × LA) := []
noncomputable def isReg.f (n : Nat) (a0 : Int) : Option (Bool × Unit) := br (decide (0 ≤ a0)) (some ((decide (a0 ≤ 3)), ())) (some (false, ()))
noncomputable def isReg.mng (n : Nat) : Mng := ⟨[.val I], [.val .bool], fun x => isReg.f n x.1⟩
noncomputable def isReg.cfg (n : Nat) : Cfg := ⟨tys, [], [], []⟩
theorem isReg.eq : ∀ (n : Nat) (a0 : Int), runF (isReg.cfg n) n Tryz.f171 (annOf Tryz.f171 isReg.las) [.val I] [.val .bool] (a0, ()) = isReg.f n a0 := by
  intros
  kernel_rfl
theorem isReg.gof : GoF Tryz.prog 171 := ⟨_, Tryz.func171, by kernel_rfl, by kernel_rfl⟩
theorem isReg.sound (n : Nat) : Sound Tryz.prog 171 (isReg.mng n) := runF_sound (fn := Tryz.f171) (m := isReg.mng n) (c := isReg.cfg n) (regOK mixed (opOK (.of (c := isReg.cfg n) trivial) (.of (c := isReg.cfg n) trivial)) (tysOK tys_ok)) (tysOK tys_ok) Tryz.func171 (fun x => (isReg.eq n x.1).symm)

def isToken.las : List (Nat × LA) := []
noncomputable def isToken.f (n : Nat) (a0 : Int) : Option (Bool × Unit) := br (decide ((-999999) ≤ a0)) (some ((decide (a0 ≤ 999999)), ())) (some (false, ()))
noncomputable def isToken.mng (n : Nat) : Mng := ⟨[.val I], [.val .bool], fun x => isToken.f n x.1⟩
noncomputable def isToken.cfg (n : Nat) : Cfg := ⟨tys, [], [], []⟩
theorem isToken.eq : ∀ (n : Nat) (a0 : Int), runF (isToken.cfg n) n Tryz.f158 (annOf Tryz.f158 isToken.las) [.val I] [.val .bool] (a0, ()) = isToken.f n a0 := by
  intros
  kernel_rfl
theorem isToken.gof : GoF Tryz.prog 158 := ⟨_, Tryz.func158, by kernel_rfl, by kernel_rfl⟩
theorem isToken.sound (n : Nat) : Sound Tryz.prog 158 (isToken.mng n) := runF_sound (fn := Tryz.f158) (m := isToken.mng n) (c := isToken.cfg n) (regOK mixed (opOK (.of (c := isToken.cfg n) trivial) (.of (c := isToken.cfg n) trivial)) (tysOK tys_ok)) (tysOK tys_ok) Tryz.func158 (fun x => (isToken.eq n x.1).symm)

def isInstr.las : List (Nat × LA) := [(1, ⟨[(9, .bool)], [], [1, 2, 4], []⟩), (14, ⟨[(83, .bool)], [], [4, 9, 25], []⟩), (26, ⟨[(109, .bool)], [], [4, 9, 25], []⟩)]
noncomputable def isInstr.f (n : Nat) (a0 : Instr) (a1 : Int) (a2 : Int) (a3 : Int) : Option (Bool × Unit) := cut (α := (Bool × Unit)) (br (decide (0 ≤ a0.2.2.1)) (br (decide (a0.2.2.1 ≤ a3)) (some (.inr ((decide (a0.2.2.2 = 0)), ()))) (some (.inr (false, ())))) (some (.inr (false, ())))) fun y1 => br (decide (a0.1 = 1)) ((isReg.f n a0.2.1).bind fun r2 => br r2.1 (br (decide (0 ≤ a0.2.2.1)) (br (decide (a0.2.2.1 < a1)) (some ((decide (a0.2.2.2 = 0)), ())) (some (false, ()))) (some (false, ()))) (some (false, ()))) (br (decide (a0.1 = 2)) ((isReg.f n a0.2.1).bind fun r3 => br r3.1 (br (decide (0 ≤ a0.2.2.1)) (br (decide (a0.2.2.1 < a2)) (some ((decide (a0.2.2.2 = 0)), ())) (some (false, ()))) (some (false, ()))) (some (false, ()))) (br (decide (a0.1 = 3)) ((isReg.f n a0.2.1).bind fun r4 => br r4.1 ((isToken.f n a0.2.2.1).bind fun r5 => br r5.1 (some ((decide (a0.2.2.2 = 0)), ())) (some (false, ()))) (some (false, ()))) (cut (α := (Bool × Unit)) (br (decide (a0.1 = 4)) (some (.inr ((decide (a0.1 = 4)), ()))) (br (decide (a0.1 = 5)) (some (.inr ((decide (a0.1 = 5)), ()))) (br (decide (a0.1 = 6)) (some (.inr ((decide (a0.1 = 6)), ()))) (some (.inr ((decide (a0.1 = 7)), ())))))) fun y6 => br y6.1 ((isReg.f n a0.2.1).bind fun r7 => br r7.1 ((isReg.f n a0.2.2.1).bind fun r8 => br r8.1 ((isReg.f n a0.2.2.2).bind fun r9 => some (r9.1, ())) (some (false, ()))) (some (false, ()))) (br (decide (a0.1 = 8)) (br (decide (a0.2.1 = 0)) (some (y1.1, ())) (some (false, ()))) (cut (α := (Bool × Unit)) (br (decide (a0.1 = 9)) (some (.inr ((decide (a0.1 = 9)), ()))) (some (.inr ((decide (a0.1 = 10)), ())))) fun y10 => br y10.1 ((isReg.f n a0.2.1).bind fun r11 => br r11.1 (some (y1.1, ())) (some (false, ()))) (br (decide (a0.1 = 11)) (some ((decide (a0.1 = 11) && (decide (a0.2.1 = 0) && (decide (a0.2.2.1 = 0) && (decide (a0.2.2.2 = 0) && true)))), ())) (some (false, ()))))))))
noncomputable def isInstr.mng (n : Nat) : Mng := ⟨[.val tInstr, .val I, .val I, .val I], [.val .bool], fun x => isInstr.f n x.1 x.2.1 x.2.2.1 x.2.2.2.1⟩
noncomputable def isInstr.cfg (n : Nat) : Cfg := ⟨tys, [(171, isReg.mng n), (158, isToken.mng n)], [], []⟩
theorem isInstr.eq : ∀ (n : Nat) (a0 : Instr) (a1 : Int) (a2 : Int) (a3 : Int), runF (isInstr.cfg n) n Tryz.f161 (annOf Tryz.f161 isInstr.las) [.val tInstr, .val I, .val I, .val I] [.val .bool] (a0, (a1, (a2, (a3, ())))) = isInstr.f n a0 a1 a2 a3 := by
  intros
  kernel_rfl
theorem isInstr.gof : GoF Tryz.prog 161 := ⟨_, Tryz.func161, by kernel_rfl, by kernel_rfl⟩
theorem isInstr.sound (n : Nat) : Sound Tryz.prog 161 (isInstr.mng n) := runF_sound (fn := Tryz.f161) (m := isInstr.mng n) (c := isInstr.cfg n) (regOK mixed (opOK (.of (c := isInstr.cfg n) ⟨⟨isReg.sound n, isReg.gof⟩, ⟨⟨isToken.sound n, isToken.gof⟩, trivial⟩⟩) (.of (c := isInstr.cfg n) trivial)) (tysOK tys_ok)) (tysOK tys_ok) Tryz.func161 (fun x => (isInstr.eq n x.1 x.2.1 x.2.2.1 x.2.2.2.1).symm)

def isProgramC.las : List (Nat × LA) := []
noncomputable def isProgramC.f (n : Nat) (a0 : Instr) (a1 : Program) : Option (Bool × Unit) := (isInstr.f n a0 a1.1 a1.2.1 (a1.2.2.length : Int)).bind fun r1 => some ((!r1.1), ())
noncomputable def isProgramC.mng (n : Nat) : Mng := ⟨[.val tInstr, .psh tProgram], [.val .bool], fun x => isProgramC.f n x.1 x.2.1⟩
noncomputable def isProgramC.cfg (n : Nat) : Cfg := ⟨tys, [(161, isInstr.mng n)], [], []⟩
theorem isProgramC.eq : ∀ (n : Nat) (a0 : Instr) (a1 : Program), runF (isProgramC.cfg n) n Tryz.f160 (annOf Tryz.f160 isProgramC.las) [.val tInstr, .psh tProgram] [.val .bool] (a0, (a1, ())) = isProgramC.f n a0 a1 := by
  intros
  kernel_rfl
theorem isProgramC.gof : GoF Tryz.prog 160 := ⟨_, Tryz.func160, by kernel_rfl, by kernel_rfl⟩
theorem isProgramC.sound (n : Nat) : Sound Tryz.prog 160 (isProgramC.mng n) := runF_sound (fn := Tryz.f160) (m := isProgramC.mng n) (c := isProgramC.cfg n) (regOK mixed (opOK (.of (c := isProgramC.cfg n) ⟨⟨isInstr.sound n, isInstr.gof⟩, trivial⟩) (.of (c := isProgramC.cfg n) trivial)) (tysOK tys_ok)) (tysOK tys_ok) Tryz.func160 (fun x => (isProgramC.eq n x.1 x.2.1).symm)

def indexFuncI.las : List (Nat × LA) := [(3, ⟨[(8, .int .i64)], [], [0, 1, 7], []⟩)]
noncomputable def indexFuncI.f (n : Nat) (a0 : List Instr) (a1 : (Program × Unit)) : Option (Int × Unit) := iter (α := (Int × Unit)) n (fun ih8 x7 => br (decide (x7.1 < (a0.length : Int))) (chk (0 ≤ x7.1 ∧ x7.1 < (a0.length : Int)) (let v9 := (a0.getD x7.1.toNat zInstr); (isProgramC.f n v9 a1.1).bind fun r10 => br r10.1 (some (x7.1, ())) (ih8 ((w64 (x7.1 + 1)), ())))) (some ((-1), ()))) (0, ())
noncomputable def indexFuncI.mng (n : Nat) : Mng := ⟨[.val (.sl tInstr), .fnc 160 [.psh tProgram]], [.val I], fun x => indexFuncI.f n x.1 x.2.1⟩
noncomputable def indexFuncI.cfg (n : Nat) : Cfg := ⟨tys, [(160, isProgramC.mng n)], [], []⟩
theorem indexFuncI.eq : ∀ (n : Nat) (a0 : List Instr) (a1 : (Program × Unit)), runF (indexFuncI.cfg n) n Tryz.f170 (annOf Tryz.f170 indexFuncI.las) [.val (.sl tInstr), .fnc 160 [.psh tProgram]] [.val I] (a0, (a1, ())) = indexFuncI.f n a0 a1 := by
  intros
  kernel_rfl
theorem indexFuncI.gof : GoF Tryz.prog 170 := ⟨_, Tryz.func170, by kernel_rfl, by kernel_rfl⟩
theorem indexFuncI.sound (n : Nat) : Sound Tryz.prog 170 (indexFuncI.mng n) := runF_sound (fn := Tryz.f170) (m := indexFuncI.mng n) (c := indexFuncI.cfg n) (regOK mixed (opOK (.of (c := indexFuncI.cfg n) ⟨⟨isProgramC.sound n, isProgramC.gof⟩, trivial⟩) (.of (c := indexFuncI.cfg n) trivial)) (tysOK tys_ok)) (tysOK tys_ok) Tryz.func170 (fun x => (indexFuncI.eq n x.1 x.2.1).symm)

def containsFuncI.las : List (Nat × LA) := []
noncomputable def containsFuncI.f (n : Nat) (a0 : List Instr) (a1 : (Program × Unit)) : Option (Bool × Unit) := (indexFuncI.f n a0 (a1.1, ())).bind fun r1 => some ((decide (0 ≤ r1.1)), ())
noncomputable def containsFuncI.mng (n : Nat) : Mng := ⟨[.val (.sl tInstr), .fnc 160 [.psh tProgram]], [.val .bool], fun x => containsFuncI.f n x.1 x.2.1⟩
noncomputable def containsFuncI.cfg (n : Nat) : Cfg := ⟨tys, [(170, indexFuncI.mng n)], [], []⟩
theorem containsFuncI.eq : ∀ (n : Nat) (a0 : List Instr) (a1 : (Program × Unit)), runF (containsFuncI.cfg n) n Tryz.f159 (annOf Tryz.f159 containsFuncI.las) [.val (.sl tInstr), .fnc 160 [.psh tProgram]] [.val .bool] (a0, (a1, ())) = containsFuncI.f n a0 a1 := by
  intros
  kernel_rfl
theorem containsFuncI.gof : GoF Tryz.prog 159 := ⟨_, Tryz.func159, by kernel_rfl, by kernel_rfl⟩
theorem containsFuncI.sound (n : Nat) : Sound Tryz.prog 159 (containsFuncI.mng n) := runF_sound (fn := Tryz.f159) (m := containsFuncI.mng n) (c := containsFuncI.cfg n) (regOK mixed (opOK (.of (c := containsFuncI.cfg n) ⟨⟨indexFuncI.sound n, indexFuncI.gof⟩, trivial⟩) (.of (c := containsFuncI.cfg n) trivial)) (tysOK tys_ok)) (tysOK tys_ok) Tryz.func159 (fun x => (containsFuncI.eq n x.1 x.2.1).symm)

def iIsProgram.las : List (Nat × LA) := [(1, ⟨[(32, .bool)], [], [1], []⟩)]
noncomputable def iIsProgram.f (n : Nat) (a0 : Program) : Option (Bool × Unit) := cut (α := (Bool × Unit)) (br (decide (a0.1 < 0)) (some (.inr (true, ()))) (br (decide (3 < a0.1)) (some (.inr (true, ()))) (br (decide (a0.2.1 < 0)) (some (.inr (true, ()))) (br (decide (3 < a0.2.1)) (some (.inr (true, ()))) (br (decide ((a0.2.2.length : Int) < 1)) (some (.inr (true, ()))) (some (.inr ((decide (24 < (a0.2.2.length : Int))), ())))))))) fun y1 => br y1.1 (some (false, ())) ((containsFuncI.f n a0.2.2 (a0, ())).bind fun r2 => some ((!r2.1), ()))
noncomputable def iIsProgram.mng (n : Nat) : Mng := ⟨[.val tProgram], [.val .bool], fun x => iIsProgram.f n x.1⟩
noncomputable def iIsProgram.cfg (n : Nat) : Cfg := ⟨tys, [(159, containsFuncI.mng n)], [], []⟩
theorem iIsProgram.eq : ∀ (n : Nat) (a0 : Program), runF (iIsProgram.cfg n) n Tryz.f116 (annOf Tryz.f116 iIsProgram.las) [.val tProgram] [.val .bool] (a0, ()) = iIsProgram.f n a0 := by
  intros
  kernel_rfl
theorem iIsProgram.gof : GoF Tryz.prog 116 := ⟨_, Tryz.func116, by kernel_rfl, by kernel_rfl⟩
theorem iIsProgram.sound (n : Nat) : Sound Tryz.prog 116 (iIsProgram.mng n) := runF_sound (fn := Tryz.f116) (m := iIsProgram.mng n) (c := iIsProgram.cfg n) (regOK mixed (opOK (.of (c := iIsProgram.cfg n) ⟨⟨containsFuncI.sound n, containsFuncI.gof⟩, trivial⟩) (.of (c := iIsProgram.cfg n) trivial)) (tysOK tys_ok)) (tysOK tys_ok) Tryz.func116 (fun x => (iIsProgram.eq n x.1).symm)

def isStreamC.las : List (Nat × LA) := []
noncomputable def isStreamC.f (n : Nat) (a0 : Int) : Option (Bool × Unit) := (isToken.f n a0).bind fun r1 => some ((!r1.1), ())
noncomputable def isStreamC.mng (n : Nat) : Mng := ⟨[.val I], [.val .bool], fun x => isStreamC.f n x.1⟩
noncomputable def isStreamC.cfg (n : Nat) : Cfg := ⟨tys, [(158, isToken.mng n)], [], []⟩
theorem isStreamC.eq : ∀ (n : Nat) (a0 : Int), runF (isStreamC.cfg n) n Tryz.f157 (annOf Tryz.f157 isStreamC.las) [.val I] [.val .bool] (a0, ()) = isStreamC.f n a0 := by
  intros
  kernel_rfl
theorem isStreamC.gof : GoF Tryz.prog 157 := ⟨_, Tryz.func157, by kernel_rfl, by kernel_rfl⟩
theorem isStreamC.sound (n : Nat) : Sound Tryz.prog 157 (isStreamC.mng n) := runF_sound (fn := Tryz.f157) (m := isStreamC.mng n) (c := isStreamC.cfg n) (regOK mixed (opOK (.of (c := isStreamC.cfg n) ⟨⟨isToken.sound n, isToken.gof⟩, trivial⟩) (.of (c := isStreamC.cfg n) trivial)) (tysOK tys_ok)) (tysOK tys_ok) Tryz.func157 (fun x => (isStreamC.eq n x.1).symm)

def indexFuncS.las : List (Nat × LA) := [(3, ⟨[(8, .int .i64)], [], [0, 1, 7], []⟩)]
noncomputable def indexFuncS.f (n : Nat) (a0 : List Int) (a1 : (Unit)) : Option (Int × Unit) := iter (α := (Int × Unit)) n (fun ih6 x5 => br (decide (x5.1 < (a0.length : Int))) (chk (0 ≤ x5.1 ∧ x5.1 < (a0.length : Int)) ((isStreamC.f n (a0.getD x5.1.toNat 0)).bind fun r7 => br r7.1 (some (x5.1, ())) (ih6 ((w64 (x5.1 + 1)), ())))) (some ((-1), ()))) (0, ())
noncomputable def indexFuncS.mng (n : Nat) : Mng := ⟨[.val IS, .fnc 157 []], [.val I], fun x => indexFuncS.f n x.1 x.2.1⟩
noncomputable def indexFuncS.cfg (n : Nat) : Cfg := ⟨tys, [(157, isStreamC.mng n)], [], []⟩
theorem indexFuncS.eq : ∀ (n : Nat) (a0 : List Int) (a1 : (Unit)), runF (indexFuncS.cfg n) n Tryz.f136 (annOf Tryz.f136 indexFuncS.las) [.val IS, .fnc 157 []] [.val I] (a0, (a1, ())) = indexFuncS.f n a0 a1 := by
  intros
  kernel_rfl
theorem indexFuncS.gof : GoF Tryz.prog 136 := ⟨_, Tryz.func136, by kernel_rfl, by kernel_rfl⟩
theorem indexFuncS.sound (n : Nat) : Sound Tryz.prog 136 (indexFuncS.mng n) := runF_sound (fn := Tryz.f136) (m := indexFuncS.mng n) (c := indexFuncS.cfg n) (regOK mixed (opOK (.of (c := indexFuncS.cfg n) ⟨⟨isStreamC.sound n, isStreamC.gof⟩, trivial⟩) (.of (c := indexFuncS.cfg n) trivial)) (tysOK tys_ok)) (tysOK tys_ok) Tryz.func136 (fun x => (indexFuncS.eq n x.1 x.2.1).symm)

def containsFuncS.las : List (Nat × LA) := []
noncomputable def containsFuncS.f (n : Nat) (a0 : List Int) (a1 : (Unit)) : Option (Bool × Unit) := (indexFuncS.f n a0 ()).bind fun r1 => some ((decide (0 ≤ r1.1)), ())
noncomputable def containsFuncS.mng (n : Nat) : Mng := ⟨[.val IS, .fnc 157 []], [.val .bool], fun x => containsFuncS.f n x.1 x.2.1⟩
noncomputable def containsFuncS.cfg (n : Nat) : Cfg := ⟨tys, [(136, indexFuncS.mng n)], [], []⟩
theorem containsFuncS.eq : ∀ (n : Nat) (a0 : List Int) (a1 : (Unit)), runF (containsFuncS.cfg n) n Tryz.f74 (annOf Tryz.f74 containsFuncS.las) [.val IS, .fnc 157 []] [.val .bool] (a0, (a1, ())) = containsFuncS.f n a0 a1 := by
  intros
  kernel_rfl
theorem containsFuncS.gof : GoF Tryz.prog 74 := ⟨_, Tryz.func74, by kernel_rfl, by kernel_rfl⟩
theorem containsFuncS.sound (n : Nat) : Sound Tryz.prog 74 (containsFuncS.mng n) := runF_sound (fn := Tryz.f74) (m := containsFuncS.mng n) (c := containsFuncS.cfg n) (regOK mixed (opOK (.of (c := containsFuncS.cfg n) ⟨⟨indexFuncS.sound n, indexFuncS.gof⟩, trivial⟩) (.of (c := containsFuncS.cfg n) trivial)) (tysOK tys_ok)) (tysOK tys_ok) Tryz.func74 (fun x => (containsFuncS.eq n x.1 x.2.1).symm)

def iIsStream.las : List (Nat × LA) := []
noncomputable def iIsStream.f (n : Nat) (a0 : List Int) : Option (Bool × Unit) := br (decide ((a0.length : Int) ≤ 400)) ((containsFuncS.f n a0 ()).bind fun r1 => some ((!r1.1), ())) (some (false, ()))
noncomputable def iIsStream.mng (n : Nat) : Mng := ⟨[.val IS], [.val .bool], fun x => iIsStream.f n x.1⟩
noncomputable def iIsStream.cfg (n : Nat) : Cfg := ⟨tys, [(74, containsFuncS.mng n)], [], []⟩
theorem iIsStream.eq : ∀ (n : Nat) (a0 : List Int), runF (iIsStream.cfg n) n Tryz.f113 (annOf Tryz.f113 iIsStream.las) [.val IS] [.val .bool] (a0, ()) = iIsStream.f n a0 := by
  intros
  kernel_rfl
theorem iIsStream.gof : GoF Tryz.prog 113 := ⟨_, Tryz.func113, by kernel_rfl, by kernel_rfl⟩
theorem iIsStream.sound (n : Nat) : Sound Tryz.prog 113 (iIsStream.mng n) := runF_sound (fn := Tryz.f113) (m := iIsStream.mng n) (c := iIsStream.cfg n) (regOK mixed (opOK (.of (c := iIsStream.cfg n) ⟨⟨containsFuncS.sound n, containsFuncS.gof⟩, trivial⟩) (.of (c := iIsStream.cfg n) trivial)) (tysOK tys_ok)) (tysOK tys_ok) Tryz.func113 (fun x => (iIsStream.eq n x.1).symm)

def iIsNetwork.las : List (Nat × LA) := [(1, ⟨[(22, .bool)], [], [1], []⟩), (7, ⟨[(3, .int .i64), (26, .int .i64)], [], [1, 24, 25], []⟩), (20, ⟨[(6, .int .i64), (44, .int .i64)], [], [1, 3, 42, 43], []⟩), (25, ⟨[(9, .bool), (10, .bool)], [], [1, 3, 6, 7, 8, 42, 43, 44], []⟩), (26, ⟨[(92, .bool)], [], [1, 3, 6, 7, 8, 9, 10, 42, 43, 44], []⟩), (27, ⟨[(6, .int .i64)], [], [1, 3, 7, 8, 9, 10, 42, 43, 44], []⟩), (32, ⟨[(124, .bool)], [], [1, 3, 6, 7, 8, 9, 10, 42, 43, 44], []⟩), (33, ⟨[(6, .int .i64)], [], [1, 3, 7, 8, 9, 10, 42, 43, 44], []⟩), (38, ⟨[(138, .bool)], [], [1, 3, 6, 7, 8, 42, 43, 44], []⟩), (43, ⟨[(144, .int .i64)], [], [1, 3, 6, 8, 42, 43, 44, 142, 143], []⟩)]
noncomputable def iIsNetwork.f (n : Nat) (a0 : Network) : Option (Bool × Unit) := cut (α := (Bool × Unit)) (br (decide (12 < (a0.1.length : Int))) (some (.inr (true, ()))) (some (.inr ((decide (30 < (a0.2.length : Int))), ())))) fun y1 => br y1.1 (some (false, ())) (iter (α := (Int × (Int × Unit))) n (fun ih15 x14 => br (decide (x14.2.1 < (a0.1.length : Int))) (chk (0 ≤ x14.2.1 ∧ x14.2.1 < (a0.1.length : Int)) (let v16 := (a0.1.getD x14.2.1.toNat zProgram); (iIsProgram.f n v16).bind fun r17 => br (!r17.1) (some (false, ())) (ih15 ((w64 (x14.1 + (w64 (v16.1 + v16.2.1)))), ((w64 (x14.2.1 + 1)), ()))))) (iter (α := (Int × (Int × Unit))) n (fun ih60 x59 => br (decide (x59.2.1 < (a0.2.length : Int))) (chk (0 ≤ x59.2.1 ∧ x59.2.1 < (a0.2.length : Int)) (let v61 := (a0.2.getD x59.2.1.toNat zLink); cut (α := (Bool × (Bool × Unit))) (br (decide (v61.1 = (-1))) (br (decide (v61.2.2.1 = (-1))) (some (.inr ((decide (v61.2.1 = 0)), ((decide (v61.2.2.2.1 = 0)), ())))) (some (.inr ((decide (v61.2.1 = 0)), (false, ()))))) (br (decide (v61.2.2.1 = (-1))) (some (.inr (false, ((decide (v61.2.2.2.1 = 0)), ())))) (some (.inr (false, (false, ())))))) fun y62 => cut (α := (Bool × Unit)) (br (decide (0 ≤ v61.1)) (br (decide (v61.1 < (a0.1.length : Int))) (br (decide (0 ≤ v61.2.1)) (chk (0 ≤ v61.1 ∧ v61.1 < (a0.1.length : Int)) (let v65 := (a0.1.getD v61.1.toNat zProgram); some (.inr ((decide (v61.2.1 < v65.2.1)), ())))) (some (.inr (false, ())))) (some (.inr (false, ())))) (some (.inr (false, ())))) fun y64 => cut (α := (Int × Unit)) (br y64.1 (some (.inr ((w64 (x59.1 + 1)), ()))) (br (!y62.1) (some (.inl (false, ()))) (some (.inr (x59.1, ()))))) fun y66 => cut (α := (Bool × Unit)) (br (decide (0 ≤ v61.2.2.1)) (br (decide (v61.2.2.1 < (a0.1.length : Int))) (br (decide (0 ≤ v61.2.2.2.1)) (chk (0 ≤ v61.2.2.1 ∧ v61.2.2.1 < (a0.1.length : Int)) (let v69 := (a0.1.getD v61.2.2.1.toNat zProgram); some (.inr ((decide (v61.2.2.2.1 < v69.1)), ())))) (some (.inr (false, ())))) (some (.inr (false, ())))) (some (.inr (false, ())))) fun y68 => cut (α := (Int × Unit)) (br y68.1 (some (.inr ((w64 (y66.1 + 1)), ()))) (br (!y62.2.1) (some (.inl (false, ()))) (some (.inr (y66.1, ()))))) fun y70 => cut (α := (Bool × Unit)) (br y62.1 (br y62.2.1 (some (.inr (true, ()))) ((iIsStream.f n v61.2.2.2.2).bind fun r74 => some (.inr ((!r74.1), ())))) ((iIsStream.f n v61.2.2.2.2).bind fun r75 => some (.inr ((!r75.1), ())))) fun y73 => br y73.1 (some (false, ())) (chk ((0 : Int) ≤ 0 ∧ (0 : Int) ≤ x59.2.1 ∧ x59.2.1 ≤ (a0.2.length : Int)) (iter (α := (Int × Unit)) n (fun ih93 x92 => br (decide (x92.1 < (((a0.2.take x59.2.1.toNat).drop 0).length : Int))) (chk (0 ≤ x92.1 ∧ x92.1 < (((a0.2.take x59.2.1.toNat).drop 0).length : Int)) (let v94 := (((a0.2.take x59.2.1.toNat).drop 0).getD x92.1.toNat zLink); br (decide (0 ≤ v61.1)) (br (decide (v94.1 = v61.1)) (br (decide (v94.2.1 = v61.2.1)) (some (false, ())) (br (decide (0 ≤ v61.2.2.1)) (br (decide (v94.2.2.1 = v61.2.2.1)) (br (decide (v94.2.2.2.1 = v61.2.2.2.1)) (some (false, ())) (ih93 ((w64 (x92.1 + 1)), ()))) (ih93 ((w64 (x92.1 + 1)), ()))) (ih93 ((w64 (x92.1 + 1)), ())))) (br (decide (0 ≤ v61.2.2.1)) (br (decide (v94.2.2.1 = v61.2.2.1)) (br (decide (v94.2.2.2.1 = v61.2.2.2.1)) (some (false, ())) (ih93 ((w64 (x92.1 + 1)), ()))) (ih93 ((w64 (x92.1 + 1)), ()))) (ih93 ((w64 (x92.1 + 1)), ())))) (br (decide (0 ≤ v61.2.2.1)) (br (decide (v94.2.2.1 = v61.2.2.1)) (br (decide (v94.2.2.2.1 = v61.2.2.2.1)) (some (false, ())) (ih93 ((w64 (x92.1 + 1)), ()))) (ih93 ((w64 (x92.1 + 1)), ()))) (ih93 ((w64 (x92.1 + 1)), ()))))) (ih60 (y70.1, ((w64 (x59.2.1 + 1)), ())))) (0, ()))))) (some ((decide (x59.1 = x14.1)), ()))) (0, (0, ())))) (0, (0, ())))
noncomputable def iIsNetwork.mng (n : Nat) : Mng := ⟨[.val tNetwork], [.val .bool], fun x => iIsNetwork.f n x.1⟩
noncomputable def iIsNetwork.cfg (n : Nat) : Cfg := ⟨tys, [(116, iIsProgram.mng n), (113, iIsStream.mng n)], [], []⟩
theorem iIsNetwork.eq : ∀ (n : Nat) (a0 : Network), runF (iIsNetwork.cfg n) n Tryz.f71 (annOf Tryz.f71 iIsNetwork.las) [.val tNetwork] [.val .bool] (a0, ()) = iIsNetwork.f n a0 := by
  intros
  kernel_rfl
theorem iIsNetwork.gof : GoF Tryz.prog 71 := ⟨_, Tryz.func71, by kernel_rfl, by kernel_rfl⟩
theorem iIsNetwork.sound (n : Nat) : Sound Tryz.prog 71 (iIsNetwork.mng n) := runF_sound (fn := Tryz.f71) (m := iIsNetwork.mng n) (c := iIsNetwork.cfg n) (regOK mixed (opOK (.of (c := iIsNetwork.cfg n) ⟨⟨iIsProgram.sound n, iIsProgram.gof⟩, ⟨⟨iIsStream.sound n, iIsStream.gof⟩, trivial⟩⟩) (.of (c := iIsNetwork.cfg n) trivial)) (tysOK tys_ok)) (tysOK tys_ok) Tryz.func71 (fun x => (iIsNetwork.eq n x.1).symm)
end Go.AmT
