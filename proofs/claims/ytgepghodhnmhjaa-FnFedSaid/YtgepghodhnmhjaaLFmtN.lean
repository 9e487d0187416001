/- Functions that the law FnFed reaches, each as a plain Lean function, and that each does what that says. No condition. -/
import Derived.Test.YtgepghodhnmhjaaPGenS
namespace Go.AmT
open Go Go.Am Go.Proofs
set_option linter.unusedVariables false
set_option maxRecDepth 100000
def tys13 : List (Nat × TInfo) := [(3, ⟨false, 1, 8, [.int .i64 0], .int .i64, 0, some I, [], false⟩),
  (4, ⟨false, 1, 1, [.bool false], .bool, 0, some .bool, [], false⟩),
  (5, ⟨false, 1, 1, [.int .u8 0], .int .u8, 0, some U8, [], false⟩),
  (9, ⟨false, 1, 16, [.str []], .str, 0, some .str, [], false⟩),
  (22, ⟨false, 1, 24, [.nil], .slice, 5, some (.sl U8), [], false⟩),
  (23, ⟨false, 1, 24, [.nil], .slice, 71, some (.sl tProgram), [], false⟩),
  (24, ⟨false, 1, 24, [.nil], .slice, 53, some (.sl tLink), [], false⟩),
  (26, ⟨true, 2, 48, [.nil, .nil], .struct, 0, some tNetwork, [(0, 23), (1, 24)], false⟩),
  (37, ⟨false, 1, 24, [.nil], .slice, 3, some IS, [], false⟩),
  (53, ⟨true, 5, 56, [.int .i64 0, .int .i64 0, .int .i64 0, .int .i64 0, .nil], .struct, 0, some tLink, [(0, 3), (1, 3), (2, 3), (3, 3), (4, 37)], false⟩),
  (69, ⟨false, 1, 24, [.nil], .slice, 129, some (.sl tInstr), [], false⟩),
  (71, ⟨true, 3, 40, [.int .i64 0, .int .i64 0, .nil], .struct, 0, some tProgram, [(0, 3), (1, 3), (2, 69)], false⟩),
  (129, ⟨true, 4, 32, [.int .i64 0, .int .i64 0, .int .i64 0, .int .i64 0], .struct, 0, some tInstr, [(0, 3), (1, 3), (2, 3), (3, 3)], false⟩),
  (135, ⟨false, 1, 24, [.nil], .slice, 9, some (.sl .str), [], false⟩),
  (171, ⟨false, 1, 24, [.nil], .slice, 4, some (.sl .bool), [], false⟩)]
theorem tys13_ok : (tys13.all fun p => tokB Try.prog p.1 p.2) = true := by kernel_rfl

def l1Number.las : List (Nat × LA) := [(7, ⟨[(0, .int .i64), (3, .str)], [], [], []⟩)]
def l1Number.la : LA := ⟨[(0, .int .i64)], [], [], []⟩
def l1Number.lb : LA := ⟨[(0, .str)], [], [], []⟩
noncomputable def l1Number.B (n : Nat) (slf : (Int) → Option ((List UInt8) × Unit)) (a0 : Int) : Option ((List UInt8) × Unit) := br (decide (a0 < 0)) ((slf (w64 (0 - a0))).bind fun r2 => chk (([45] : List UInt8).length + r2.1.length < maxS) (some ((([45] : List UInt8) ++ r2.1), ()))) (iter (α := (Int × (List UInt8) × Unit)) n (fun ih6 x5 => br (decide (0 < x5.1)) (chk ((([(IntKind.wrap .u8 ((w64 (48 + (x5.1.tmod 10)))))] : List Int).map fun n => UInt8.ofNat n.toNat).length + x5.2.1.length < maxS) (ih6 ((w64 (x5.1.tdiv 10)), (((([(IntKind.wrap .u8 ((w64 (48 + (x5.1.tmod 10)))))] : List Int).map fun n => UInt8.ofNat n.toNat) ++ x5.2.1), ())))) (some (x5.2.1, ()))) ((w64 (a0.tdiv 10)), ((([(IntKind.wrap .u8 ((w64 (48 + (a0.tmod 10)))))] : List Int).map fun n => UInt8.ofNat n.toNat), ())))
noncomputable def l1Number.F (n : Nat) : Nat → (Int) → Option ((List UInt8) × Unit)
  | 0 => fun _ => none
  | d + 1 => l1Number.B n (l1Number.F n d)
noncomputable def l1Number.f (n : Nat) (a0 : Int) : Option ((List UInt8) × Unit) := l1Number.F n n a0
noncomputable def l1Number.mngI (n : Nat) (slf : (Int) → Option ((List UInt8) × Unit)) : LMng := ⟨l1Number.la, l1Number.lb, fun x => slf x.1⟩
noncomputable def l1Number.mng (n : Nat) : LMng := ⟨l1Number.la, l1Number.lb, fun x => l1Number.f n x.1⟩
noncomputable def l1Number.cfg (n : Nat) (slf : (Int) → Option ((List UInt8) × Unit)) : Cfg := ⟨tys13, [], [(107, l1Number.mngI n slf)], []⟩
theorem l1Number.eq : ∀ (n : Nat) (slf : (Int) → Option ((List UInt8) × Unit)) (a0 : Int) (mp : Mp), LMng.run (l1Number.cfg n slf) n Try.f107 (annOf Try.f107 l1Number.las) l1Number.la l1Number.lb (a0, mp) = l1Number.B n slf a0 := by
  intros
  kernel_rfl
theorem l1Number.gof : GoF Try.prog 107 := ⟨_, Try.func107, by kernel_rfl, by kernel_rfl⟩
theorem l1Number.soundF (n : Nat) : ∀ d, LSound Try.prog 107 (l1Number.mngI n (l1Number.F n d))
  | 0 => fun _ _ h => nomatch h
  | d + 1 => runL_sound (fn := Try.f107) (M := l1Number.mngI n (l1Number.F n (d + 1))) (c := l1Number.cfg n (l1Number.F n d)) (regOK mixed (opOK (.of (c := l1Number.cfg n (l1Number.F n d)) trivial) (.of (c := l1Number.cfg n (l1Number.F n d)) ⟨⟨l1Number.soundF n d, l1Number.gof⟩, trivial⟩)) (tysOK tys13_ok)) (tysOK tys13_ok) Try.func107 (fun x => (l1Number.eq n (l1Number.F n d) x.1 x.2).symm)
theorem l1Number.sound (n : Nat) : LSound Try.prog 107 (l1Number.mng n) := l1Number.soundF n n

def fmtStream.las : List (Nat × LA) := [(10, ⟨[(3, .str), (19, .int .i64)], [], [17, 18], []⟩)]
noncomputable def fmtStream.f (n : Nat) (a0 : List Int) : Option ((List UInt8) × Unit) := (sIsStream.f n a0).bind fun r1 => br (!r1.1) (some ([], ())) (br (decide ((a0.length : Int) = 0)) (some ([46], ())) (chk ((0 : Int) ≤ 0 ∧ (0 : Int) < (a0.length : Int)) ((l1Number.f n (a0.getD 0 0)).bind fun r2 => chk ((0 : Int) ≤ 1 ∧ (1 : Int) ≤ (a0.length : Int) ∧ (a0.length : Int) ≤ (a0.length : Int)) (iter (α := ((List UInt8) × (Int × Unit))) n (fun ih9 x8 => br (decide (x8.2.1 < (((a0.take (a0.length : Int).toNat).drop 1).length : Int))) (chk (0 ≤ x8.2.1 ∧ x8.2.1 < (((a0.take (a0.length : Int).toNat).drop 1).length : Int)) (let v10 := (((a0.take (a0.length : Int).toNat).drop 1).getD x8.2.1.toNat 0); chk (x8.1.length + ([44] : List UInt8).length < maxS) ((l1Number.f n v10).bind fun r11 => chk ((x8.1 ++ ([44] : List UInt8)).length + r11.1.length < maxS) (ih9 (((x8.1 ++ ([44] : List UInt8)) ++ r11.1), ((w64 (x8.2.1 + 1)), ())))))) (some (x8.1, ()))) (r2.1, (0, ()))))))
noncomputable def fmtStream.mng (n : Nat) : Mng := ⟨[.val IS], [.val .str], fun x => fmtStream.f n x.1⟩
noncomputable def fmtStream.cfg (n : Nat) : Cfg := ⟨tys13, [(85, sIsStream.mng n)], [(107, l1Number.mng n)], []⟩
theorem fmtStream.eq : ∀ (n : Nat) (a0 : List Int), runF (fmtStream.cfg n) n Try.f108 (annOf Try.f108 fmtStream.las) [.val IS] [.val .str] (a0, ()) = fmtStream.f n a0 := by
  intros
  kernel_rfl
theorem fmtStream.gof : GoF Try.prog 108 := ⟨_, Try.func108, by kernel_rfl, by kernel_rfl⟩
theorem fmtStream.sound (n : Nat) : Sound Try.prog 108 (fmtStream.mng n) := runF_sound (fn := Try.f108) (m := fmtStream.mng n) (c := fmtStream.cfg n) (regOK mixed (opOK (.of (c := fmtStream.cfg n) ⟨⟨sIsStream.sound n, sIsStream.gof⟩, trivial⟩) (.of (c := fmtStream.cfg n) ⟨⟨l1Number.sound n, l1Number.gof⟩, trivial⟩)) (tysOK tys13_ok)) (tysOK tys13_ok) Try.func108 (fun x => (fmtStream.eq n x.1).symm)

def l9Words.las : List (Nat × LA) := []
noncomputable def l9Words.f (n : Nat)  : Option ((List (List UInt8)) × Unit) := some ([[], [114, 101, 97, 100], [119, 114, 105, 116, 101], [115, 101, 116], [97, 100, 100], [115, 117, 98], [109, 117, 108], [114, 101, 115, 116], [106, 117, 109, 112], [122, 101, 114, 111], [98, 101, 108, 111, 119], [104, 97, 108, 116]], ())
noncomputable def l9Words.mng (n : Nat) : Mng := ⟨[], [.val (.sl .str)], fun x => l9Words.f n ⟩
noncomputable def l9Words.cfg (n : Nat) : Cfg := ⟨tys13, [], [], []⟩
theorem l9Words.eq : ∀ (n : Nat) , runF (l9Words.cfg n) n Try.f169 (annOf Try.f169 l9Words.las) [] [.val (.sl .str)] () = l9Words.f n  := by
  intros
  kernel_rfl
theorem l9Words.gof : GoF Try.prog 169 := ⟨_, Try.func169, by kernel_rfl, by kernel_rfl⟩
theorem l9Words.sound (n : Nat) : Sound Try.prog 169 (l9Words.mng n) := runF_sound (fn := Try.f169) (m := l9Words.mng n) (c := l9Words.cfg n) (regOK mixed (opOK (.of (c := l9Words.cfg n) trivial) (.of (c := l9Words.cfg n) trivial)) (tysOK tys13_ok)) (tysOK tys13_ok) Try.func169 (fun x => (l9Words.eq n ).symm)

def l9Uses.las : List (Nat × LA) := [(4, ⟨[(4, .bool)], [], [3], []⟩)]
noncomputable def l9Uses.f (n : Nat) (a0 : Int) : Option ((List Bool) × Unit) := cut (α := (Bool × Unit)) (br (decide (a0 = 4)) (some (.inr ((decide (a0 = 4)), ()))) (br (decide (a0 = 5)) (some (.inr ((decide (a0 = 5)), ()))) (br (decide (a0 = 6)) (some (.inr ((decide (a0 = 6)), ()))) (some (.inr ((decide (a0 = 7)), ())))))) fun y1 => br y1.1 (some ([true, true, true], ())) (br (decide (a0 = 8)) (some ([false, true, false], ())) (br (decide (a0 = 11)) (some ([false, false, false], ())) (some ([true, true, false], ()))))
noncomputable def l9Uses.mng (n : Nat) : Mng := ⟨[.val I], [.val (.sl .bool)], fun x => l9Uses.f n x.1⟩
noncomputable def l9Uses.cfg (n : Nat) : Cfg := ⟨tys13, [], [], []⟩
theorem l9Uses.eq : ∀ (n : Nat) (a0 : Int), runF (l9Uses.cfg n) n Try.f170 (annOf Try.f170 l9Uses.las) [.val I] [.val (.sl .bool)] (a0, ()) = l9Uses.f n a0 := by
  intros
  kernel_rfl
theorem l9Uses.gof : GoF Try.prog 170 := ⟨_, Try.func170, by kernel_rfl, by kernel_rfl⟩
theorem l9Uses.sound (n : Nat) : Sound Try.prog 170 (l9Uses.mng n) := runF_sound (fn := Try.f170) (m := l9Uses.mng n) (c := l9Uses.cfg n) (regOK mixed (opOK (.of (c := l9Uses.cfg n) trivial) (.of (c := l9Uses.cfg n) trivial)) (tysOK tys13_ok)) (tysOK tys13_ok) Try.func170 (fun x => (l9Uses.eq n x.1).symm)

def l9Fits.las : List (Nat × LA) := []
noncomputable def l9Fits.f (n : Nat) (a0 : Instr) : Option (Bool × Unit) := chk (24 = 24 ∧ 0 ≤ 24 ∧ 24 * (32 : Int) ≤ (maxB : Int)) ((sL2Operands.f n (3, (3, (List.replicate 24 ((0, (0, (0, 0))) : Instr)))) a0).bind fun r1 => some (r1.1, ()))
noncomputable def l9Fits.mng (n : Nat) : Mng := ⟨[.val tInstr], [.val .bool], fun x => l9Fits.f n x.1⟩
noncomputable def l9Fits.cfg (n : Nat) : Cfg := ⟨tys13, [(148, sL2Operands.mng n)], [], []⟩
theorem l9Fits.eq : ∀ (n : Nat) (a0 : Instr), runF (l9Fits.cfg n) n Try.f168 (annOf Try.f168 l9Fits.las) [.val tInstr] [.val .bool] (a0, ()) = l9Fits.f n a0 := by
  intros
  kernel_rfl
theorem l9Fits.gof : GoF Try.prog 168 := ⟨_, Try.func168, by kernel_rfl, by kernel_rfl⟩
theorem l9Fits.sound (n : Nat) : Sound Try.prog 168 (l9Fits.mng n) := runF_sound (fn := Try.f168) (m := l9Fits.mng n) (c := l9Fits.cfg n) (regOK mixed (opOK (.of (c := l9Fits.cfg n) ⟨⟨sL2Operands.sound n, sL2Operands.gof⟩, trivial⟩) (.of (c := l9Fits.cfg n) trivial)) (tysOK tys13_ok)) (tysOK tys13_ok) Try.func168 (fun x => (l9Fits.eq n x.1).symm)

def fmtInstr.las : List (Nat × LA) := [(8, ⟨[(3, .str), (24, .own 1000 I), (26, .int .i64)], [(1000, .row true I)], [4, 25], []⟩)]
noncomputable def fmtInstr.f (n : Nat) (a0 : Instr) : Option ((List UInt8) × Unit) := (l9Fits.f n a0).bind fun r1 => br (!r1.1) (some ([], ())) ((l9Words.f n ).bind fun r2 => chk (0 ≤ a0.1 ∧ a0.1 < (r2.1.length : Int)) ((l9Uses.f n a0.1).bind fun r3 => iter (α := ((List UInt8) × (Int × (List Int) × Unit))) n (fun ih11 x10 => br (decide (x10.2.1 < 3)) (chk (0 ≤ x10.2.1 ∧ x10.2.1 < (x10.2.2.1.length : Int)) (chk (0 ≤ x10.2.1 ∧ x10.2.1 < (r3.1.length : Int)) (br (r3.1.getD x10.2.1.toNat false) (chk (x10.1.length + ([32] : List UInt8).length < maxS) ((l1Number.f n (x10.2.2.1.getD x10.2.1.toNat 0)).bind fun r12 => chk ((x10.1 ++ ([32] : List UInt8)).length + r12.1.length < maxS) (ih11 (((x10.1 ++ ([32] : List UInt8)) ++ r12.1), ((w64 (x10.2.1 + 1)), (x10.2.2.1, ())))))) (ih11 (x10.1, ((w64 (x10.2.1 + 1)), (x10.2.2.1, ()))))))) (some (x10.1, ()))) ((r2.1.getD a0.1.toNat []), (0, ([a0.2.1, a0.2.2.1, a0.2.2.2], ())))))
noncomputable def fmtInstr.mng (n : Nat) : Mng := ⟨[.val tInstr], [.val .str], fun x => fmtInstr.f n x.1⟩
noncomputable def fmtInstr.cfg (n : Nat) : Cfg := ⟨tys13, [(168, l9Fits.mng n), (169, l9Words.mng n), (170, l9Uses.mng n)], [(107, l1Number.mng n)], []⟩
theorem fmtInstr.eq : ∀ (n : Nat) (a0 : Instr), runF (fmtInstr.cfg n) n Try.f151 (annOf Try.f151 fmtInstr.las) [.val tInstr] [.val .str] (a0, ()) = fmtInstr.f n a0 := by
  intros
  kernel_rfl
theorem fmtInstr.gof : GoF Try.prog 151 := ⟨_, Try.func151, by kernel_rfl, by kernel_rfl⟩
theorem fmtInstr.sound (n : Nat) : Sound Try.prog 151 (fmtInstr.mng n) := runF_sound (fn := Try.f151) (m := fmtInstr.mng n) (c := fmtInstr.cfg n) (regOK mixed (opOK (.of (c := fmtInstr.cfg n) ⟨⟨l9Fits.sound n, l9Fits.gof⟩, ⟨⟨l9Words.sound n, l9Words.gof⟩, ⟨⟨l9Uses.sound n, l9Uses.gof⟩, trivial⟩⟩⟩) (.of (c := fmtInstr.cfg n) ⟨⟨l1Number.sound n, l1Number.gof⟩, trivial⟩)) (tysOK tys13_ok)) (tysOK tys13_ok) Try.func151 (fun x => (fmtInstr.eq n x.1).symm)

def fmtProgram.las : List (Nat × LA) := [(7, ⟨[(3, .str), (20, .int .i64)], [], [18, 19], []⟩)]
noncomputable def fmtProgram.f (n : Nat) (a0 : Program) : Option ((List UInt8) × Unit) := (sIsProgram.f n a0).bind fun r1 => br (!r1.1) (some ([], ())) ((l1Number.f n a0.1).bind fun r2 => chk (r2.1.length + ([59] : List UInt8).length < maxS) ((l1Number.f n a0.2.1).bind fun r3 => chk ((r2.1 ++ ([59] : List UInt8)).length + r3.1.length < maxS) (iter (α := ((List UInt8) × (Int × Unit))) n (fun ih11 x10 => br (decide (x10.2.1 < (a0.2.2.length : Int))) (chk (0 ≤ x10.2.1 ∧ x10.2.1 < (a0.2.2.length : Int)) (let v12 := (a0.2.2.getD x10.2.1.toNat zInstr); chk (x10.1.length + ([59] : List UInt8).length < maxS) ((fmtInstr.f n v12).bind fun r13 => chk ((x10.1 ++ ([59] : List UInt8)).length + r13.1.length < maxS) (ih11 (((x10.1 ++ ([59] : List UInt8)) ++ r13.1), ((w64 (x10.2.1 + 1)), ())))))) (some (x10.1, ()))) (((r2.1 ++ ([59] : List UInt8)) ++ r3.1), (0, ())))))
noncomputable def fmtProgram.mng (n : Nat) : Mng := ⟨[.val tProgram], [.val .str], fun x => fmtProgram.f n x.1⟩
noncomputable def fmtProgram.cfg (n : Nat) : Cfg := ⟨tys13, [(100, sIsProgram.mng n), (151, fmtInstr.mng n)], [(107, l1Number.mng n)], []⟩
theorem fmtProgram.eq : ∀ (n : Nat) (a0 : Program), runF (fmtProgram.cfg n) n Try.f106 (annOf Try.f106 fmtProgram.las) [.val tProgram] [.val .str] (a0, ()) = fmtProgram.f n a0 := by
  intros
  kernel_rfl
theorem fmtProgram.gof : GoF Try.prog 106 := ⟨_, Try.func106, by kernel_rfl, by kernel_rfl⟩
theorem fmtProgram.sound (n : Nat) : Sound Try.prog 106 (fmtProgram.mng n) := runF_sound (fn := Try.f106) (m := fmtProgram.mng n) (c := fmtProgram.cfg n) (regOK mixed (opOK (.of (c := fmtProgram.cfg n) ⟨⟨sIsProgram.sound n, sIsProgram.gof⟩, ⟨⟨fmtInstr.sound n, fmtInstr.gof⟩, trivial⟩⟩) (.of (c := fmtProgram.cfg n) ⟨⟨l1Number.sound n, l1Number.gof⟩, trivial⟩)) (tysOK tys13_ok)) (tysOK tys13_ok) Try.func106 (fun x => (fmtProgram.eq n x.1).symm)

def fmtNetwork.las : List (Nat × LA) := [(7, ⟨[(3, .str), (14, .int .i64)], [], [1, 12, 13], []⟩), (16, ⟨[(3, .str), (28, .int .i64)], [], [26, 27], []⟩)]
noncomputable def fmtNetwork.f (n : Nat) (a0 : Network) : Option ((List UInt8) × Unit) := (sIsNetwork.f n a0).bind fun r1 => br (!r1.1) (some ([], ())) (iter (α := ((List UInt8) × (Int × Unit))) n (fun ih15 x14 => br (decide (x14.2.1 < (a0.1.length : Int))) (chk (0 ≤ x14.2.1 ∧ x14.2.1 < (a0.1.length : Int)) (let v16 := (a0.1.getD x14.2.1.toNat zProgram); chk (x14.1.length + ([112, 114, 111, 99, 101, 115, 115, 32] : List UInt8).length < maxS) ((fmtProgram.f n v16).bind fun r17 => chk ((x14.1 ++ ([112, 114, 111, 99, 101, 115, 115, 32] : List UInt8)).length + r17.1.length < maxS) (chk (((x14.1 ++ ([112, 114, 111, 99, 101, 115, 115, 32] : List UInt8)) ++ r17.1).length + ([10] : List UInt8).length < maxS) (ih15 ((((x14.1 ++ ([112, 114, 111, 99, 101, 115, 115, 32] : List UInt8)) ++ r17.1) ++ ([10] : List UInt8)), ((w64 (x14.2.1 + 1)), ()))))))) (iter (α := ((List UInt8) × (Int × Unit))) n (fun ih29 x28 => br (decide (x28.2.1 < (a0.2.length : Int))) (chk (0 ≤ x28.2.1 ∧ x28.2.1 < (a0.2.length : Int)) (let v30 := (a0.2.getD x28.2.1.toNat zLink); chk (x28.1.length + ([108, 105, 110, 107, 32] : List UInt8).length < maxS) ((l1Number.f n v30.1).bind fun r31 => chk ((x28.1 ++ ([108, 105, 110, 107, 32] : List UInt8)).length + r31.1.length < maxS) (chk (((x28.1 ++ ([108, 105, 110, 107, 32] : List UInt8)) ++ r31.1).length + ([32] : List UInt8).length < maxS) ((l1Number.f n v30.2.1).bind fun r32 => chk ((((x28.1 ++ ([108, 105, 110, 107, 32] : List UInt8)) ++ r31.1) ++ ([32] : List UInt8)).length + r32.1.length < maxS) (chk (((((x28.1 ++ ([108, 105, 110, 107, 32] : List UInt8)) ++ r31.1) ++ ([32] : List UInt8)) ++ r32.1).length + ([32] : List UInt8).length < maxS) ((l1Number.f n v30.2.2.1).bind fun r33 => chk ((((((x28.1 ++ ([108, 105, 110, 107, 32] : List UInt8)) ++ r31.1) ++ ([32] : List UInt8)) ++ r32.1) ++ ([32] : List UInt8)).length + r33.1.length < maxS) (chk (((((((x28.1 ++ ([108, 105, 110, 107, 32] : List UInt8)) ++ r31.1) ++ ([32] : List UInt8)) ++ r32.1) ++ ([32] : List UInt8)) ++ r33.1).length + ([32] : List UInt8).length < maxS) ((l1Number.f n v30.2.2.2.1).bind fun r34 => chk ((((((((x28.1 ++ ([108, 105, 110, 107, 32] : List UInt8)) ++ r31.1) ++ ([32] : List UInt8)) ++ r32.1) ++ ([32] : List UInt8)) ++ r33.1) ++ ([32] : List UInt8)).length + r34.1.length < maxS) (chk (((((((((x28.1 ++ ([108, 105, 110, 107, 32] : List UInt8)) ++ r31.1) ++ ([32] : List UInt8)) ++ r32.1) ++ ([32] : List UInt8)) ++ r33.1) ++ ([32] : List UInt8)) ++ r34.1).length + ([32] : List UInt8).length < maxS) ((fmtStream.f n v30.2.2.2.2).bind fun r35 => chk ((((((((((x28.1 ++ ([108, 105, 110, 107, 32] : List UInt8)) ++ r31.1) ++ ([32] : List UInt8)) ++ r32.1) ++ ([32] : List UInt8)) ++ r33.1) ++ ([32] : List UInt8)) ++ r34.1) ++ ([32] : List UInt8)).length + r35.1.length < maxS) (chk (((((((((((x28.1 ++ ([108, 105, 110, 107, 32] : List UInt8)) ++ r31.1) ++ ([32] : List UInt8)) ++ r32.1) ++ ([32] : List UInt8)) ++ r33.1) ++ ([32] : List UInt8)) ++ r34.1) ++ ([32] : List UInt8)) ++ r35.1).length + ([10] : List UInt8).length < maxS) (ih29 ((((((((((((x28.1 ++ ([108, 105, 110, 107, 32] : List UInt8)) ++ r31.1) ++ ([32] : List UInt8)) ++ r32.1) ++ ([32] : List UInt8)) ++ r33.1) ++ ([32] : List UInt8)) ++ r34.1) ++ ([32] : List UInt8)) ++ r35.1) ++ ([10] : List UInt8)), ((w64 (x28.2.1 + 1)), ()))))))))))))))) (some (x28.1, ()))) (x14.1, (0, ())))) ([], (0, ())))
noncomputable def fmtNetwork.mng (n : Nat) : Mng := ⟨[.val tNetwork], [.val .str], fun x => fmtNetwork.f n x.1⟩
noncomputable def fmtNetwork.cfg (n : Nat) : Cfg := ⟨tys13, [(45, sIsNetwork.mng n), (106, fmtProgram.mng n), (108, fmtStream.mng n)], [(107, l1Number.mng n)], []⟩
theorem fmtNetwork.eq : ∀ (n : Nat) (a0 : Network), runF (fmtNetwork.cfg n) n Try.f48 (annOf Try.f48 fmtNetwork.las) [.val tNetwork] [.val .str] (a0, ()) = fmtNetwork.f n a0 := by
  intros
  kernel_rfl
theorem fmtNetwork.gof : GoF Try.prog 48 := ⟨_, Try.func48, by kernel_rfl, by kernel_rfl⟩
theorem fmtNetwork.sound (n : Nat) : Sound Try.prog 48 (fmtNetwork.mng n) := runF_sound (fn := Try.f48) (m := fmtNetwork.mng n) (c := fmtNetwork.cfg n) (regOK mixed (opOK (.of (c := fmtNetwork.cfg n) ⟨⟨sIsNetwork.sound n, sIsNetwork.gof⟩, ⟨⟨fmtProgram.sound n, fmtProgram.gof⟩, ⟨⟨fmtStream.sound n, fmtStream.gof⟩, trivial⟩⟩⟩) (.of (c := fmtNetwork.cfg n) ⟨⟨l1Number.sound n, l1Number.gof⟩, trivial⟩)) (tysOK tys13_ok)) (tysOK tys13_ok) Try.func48 (fun x => (fmtNetwork.eq n x.1).symm)
end Go.AmT
