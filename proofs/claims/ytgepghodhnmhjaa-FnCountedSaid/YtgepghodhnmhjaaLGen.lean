/- Functions that the law FnCounted reaches, each as a plain Lean function, and that each does what that says. No condition. -/
import Derived.Test.YtgepghodhnmhjaaPStart
import Derived.Test.YtgepghodhnmhjaaPCpS
namespace Go.AmT
open Go Go.Am Go.Proofs
set_option linter.unusedVariables false
set_option maxRecDepth 100000
def tys11 : List (Nat × TInfo) := [(3, ⟨false, 1, 8, [.int .i64 0], .int .i64, 0, some I, [], false⟩),
  (5, ⟨false, 1, 1, [.int .u8 0], .int .u8, 0, some U8, [], false⟩),
  (9, ⟨false, 1, 16, [.str []], .str, 0, some .str, [], false⟩),
  (22, ⟨false, 1, 24, [.nil], .slice, 5, some (.sl U8), [], false⟩),
  (23, ⟨false, 1, 24, [.nil], .slice, 71, some (.sl tProgram), [], false⟩),
  (24, ⟨false, 1, 24, [.nil], .slice, 53, some (.sl tLink), [], false⟩),
  (26, ⟨true, 2, 48, [.nil, .nil], .struct, 0, some tNetwork, [(0, 23), (1, 24)], false⟩),
  (31, ⟨false, 1, 24, [.nil], .slice, 37, some (.sl IS), [], false⟩),
  (37, ⟨false, 1, 24, [.nil], .slice, 3, some IS, [], false⟩),
  (53, ⟨true, 5, 56, [.int .i64 0, .int .i64 0, .int .i64 0, .int .i64 0, .nil], .struct, 0, some tLink, [(0, 3), (1, 3), (2, 3), (3, 3), (4, 37)], false⟩),
  (69, ⟨false, 1, 24, [.nil], .slice, 129, some (.sl tInstr), [], false⟩),
  (71, ⟨true, 3, 40, [.int .i64 0, .int .i64 0, .nil], .struct, 0, some tProgram, [(0, 3), (1, 3), (2, 69)], false⟩),
  (129, ⟨true, 4, 32, [.int .i64 0, .int .i64 0, .int .i64 0, .int .i64 0], .struct, 0, some tInstr, [(0, 3), (1, 3), (2, 3), (3, 3)], false⟩),
  (133, ⟨true, 3, 40, [.nil, .int .i64 0, .int .i64 0], .struct, 0, some (.pair (.sl U8) (.pair I I)), [(0, 22), (1, 3), (2, 3)], false⟩),
  (135, ⟨false, 1, 24, [.nil], .slice, 9, some (.sl .str), [], false⟩)]
theorem tys11_ok : (tys11.all fun p => tokB Try.prog p.1 p.2) = true := by kernel_rfl

def curNew.las : List (Nat × LA) := [(4, ⟨[(3, .int .i64), (4, .int .i64)], [], [0], []⟩), (5, ⟨[(15, .bool)], [], [0, 3, 4], []⟩)]
def curNew.la : LA := ⟨[(0, .sh U8)], [], [], []⟩
def curNew.lb : LA := ⟨[(0, .vptr 1000 0)], [(1000, .cells [] [.sh U8, .int .i64, .int .i64])], [], []⟩
noncomputable def curNew.f (n : Nat) (a0 : List Int) : Option ((List Int) × (Int × (Int × Unit))) := iter (α := (Int × (Int × Unit))) n (fun ih9 x8 => cut (α := (Bool × Unit)) (br (decide (x8.2.1 < (a0.length : Int))) (some (.inr ((decide (x8.2.1 < 4000)), ()))) (some (.inr (false, ())))) fun y10 => br y10.1 (chk (0 ≤ x8.2.1 ∧ x8.2.1 < (a0.length : Int)) (ih9 ((bitsF .and .i64 (w64 ((w64 ((w64 (x8.1 * 1103)) + (w64 ((a0.getD x8.2.1.toNat 0))))) + 7)) 1073741823), ((w64 (x8.2.1 + 1)), ())))) (some (a0, (0, (x8.1, ()))))) ((w64 (3224 + (a0.length : Int))), (0, ()))
noncomputable def curNew.mng (n : Nat) : LMng := ⟨curNew.la, curNew.lb, fun x => curNew.f n x.1⟩
noncomputable def curNew.cfg (n : Nat) : Cfg := ⟨tys11, [], [], []⟩
theorem curNew.eq : ∀ (n : Nat) (a0 : List Int) (mp : Mp), LMng.run (curNew.cfg n) n Try.f54 (annOf Try.f54 curNew.las) curNew.la curNew.lb (a0, mp) = curNew.f n a0 := by
  intros
  kernel_rfl
theorem curNew.gof : GoF Try.prog 54 := ⟨_, Try.func54, by kernel_rfl, by kernel_rfl⟩
theorem curNew.sound (n : Nat) : LSound Try.prog 54 (curNew.mng n) := runL_sound (fn := Try.f54) (M := curNew.mng n) (c := curNew.cfg n) (regOK mixed (opOK (.of (c := curNew.cfg n) trivial) (.of (c := curNew.cfg n) trivial)) (tysOK tys11_ok)) (tysOK tys11_ok) Try.func54 (fun x => (curNew.eq n x.1 x.2).symm)

def l01Byte.las : List (Nat × LA) := []
def l01Byte.la : LA := ⟨[(0, .vptr 0 0)], [(0, .cells [true, false, false] [.sh U8, .int .i64, .int .i64])], [], []⟩
def l01Byte.lb : LA := ⟨[(0, .int .i64)], [(0, .cells [true, false, false] [.sh U8, .int .i64, .int .i64])], [], []⟩
noncomputable def l01Byte.f (n : Nat) (a0 : List Int) (a1 : Int) (a2 : Int) : Option (Int × (List Int) × (Int × (Int × Unit))) := if 33 < 0 then none else if 45 < 0 then none else br (decide (a1 < (a0.length : Int))) (chk (0 ≤ a1 ∧ a1 < (a0.length : Int)) (some ((bitsF .and .i64 (w64 ((bitsF .and .i64 (bitsF .xor .i64 ((w64 ((w64 (a2 * 6364136223846793005)) + 1442695040888963407)).fdiv (2 ^ (min 33 IntKind.i64.bits))) ((w64 ((w64 (a2 * 6364136223846793005)) + 1442695040888963407)).fdiv (2 ^ (min 45 IntKind.i64.bits)))) 255) + (w64 ((a0.getD a1.toNat 0))))) 255), (a0, ((w64 (a1 + 1)), ((w64 ((w64 (a2 * 6364136223846793005)) + 1442695040888963407)), ())))))) (some ((bitsF .and .i64 (bitsF .xor .i64 ((w64 ((w64 (a2 * 6364136223846793005)) + 1442695040888963407)).fdiv (2 ^ (min 33 IntKind.i64.bits))) ((w64 ((w64 (a2 * 6364136223846793005)) + 1442695040888963407)).fdiv (2 ^ (min 45 IntKind.i64.bits)))) 255), (a0, (a1, ((w64 ((w64 (a2 * 6364136223846793005)) + 1442695040888963407)), ())))))
noncomputable def l01Byte.mng (n : Nat) : LMng := ⟨l01Byte.la, l01Byte.lb, fun x => l01Byte.f n x.1 x.2.1 x.2.2.1⟩
noncomputable def l01Byte.cfg (n : Nat) : Cfg := ⟨tys11, [], [], []⟩
theorem l01Byte.eq : ∀ (n : Nat) (a0 : List Int) (a1 : Int) (a2 : Int) (mp : Mp), LMng.run (l01Byte.cfg n) n Try.f136 (annOf Try.f136 l01Byte.las) l01Byte.la l01Byte.lb (a0, (a1, (a2, mp))) = l01Byte.f n a0 a1 a2 := by
  intros
  kernel_rfl
theorem l01Byte.gof : GoF Try.prog 136 := ⟨_, Try.func136, by kernel_rfl, by kernel_rfl⟩
theorem l01Byte.sound (n : Nat) : LSound Try.prog 136 (l01Byte.mng n) := runL_sound (fn := Try.f136) (M := l01Byte.mng n) (c := l01Byte.cfg n) (regOK mixed (opOK (.of (c := l01Byte.cfg n) trivial) (.of (c := l01Byte.cfg n) trivial)) (tysOK tys11_ok)) (tysOK tys11_ok) Try.func136 (fun x => (l01Byte.eq n x.1 x.2.1 x.2.2.1 x.2.2.2).symm)

def l01Below.las : List (Nat × LA) := []
def l01Below.la : LA := ⟨[(0, .vptr 0 0), (1, .int .i64)], [(0, .cells [true, false, false] [.sh U8, .int .i64, .int .i64])], [], []⟩
def l01Below.lb : LA := ⟨[(0, .int .i64)], [(0, .cells [true, false, false] [.sh U8, .int .i64, .int .i64])], [], []⟩
noncomputable def l01Below.f (n : Nat) (a0 : Int) (a1 : List Int) (a2 : Int) (a3 : Int) : Option (Int × (List Int) × (Int × (Int × Unit))) := br (decide (a0 ≤ 0)) (some (0, (a1, (a2, (a3, ()))))) (br (decide (a0 ≤ 256)) ((l01Byte.f n a1 a2 a3).bind fun r2 => if a0 = 0 then none else some ((r2.1.tmod a0), (r2.2.1, (r2.2.2.1, (r2.2.2.2.1, ()))))) ((l01Byte.f n a1 a2 a3).bind fun r3 => (l01Byte.f n r3.2.1 r3.2.2.1 r3.2.2.2.1).bind fun r4 => (l01Byte.f n r4.2.1 r4.2.2.1 r4.2.2.2.1).bind fun r5 => (l01Byte.f n r5.2.1 r5.2.2.1 r5.2.2.2.1).bind fun r6 => if a0 = 0 then none else some (((w64 ((w64 ((w64 ((w64 (r3.1 * 16777216)) + (w64 (r4.1 * 65536)))) + (w64 (r5.1 * 256)))) + r6.1)).tmod a0), (r6.2.1, (r6.2.2.1, (r6.2.2.2.1, ()))))))
noncomputable def l01Below.mng (n : Nat) : LMng := ⟨l01Below.la, l01Below.lb, fun x => l01Below.f n x.1 x.2.1 x.2.2.1 x.2.2.2.1⟩
noncomputable def l01Below.cfg (n : Nat) : Cfg := ⟨tys11, [], [(136, l01Byte.mng n)], []⟩
theorem l01Below.eq : ∀ (n : Nat) (a0 : Int) (a1 : List Int) (a2 : Int) (a3 : Int) (mp : Mp), LMng.run (l01Below.cfg n) n Try.f73 (annOf Try.f73 l01Below.las) l01Below.la l01Below.lb (a0, (a1, (a2, (a3, mp)))) = l01Below.f n a0 a1 a2 a3 := by
  intros
  kernel_rfl
theorem l01Below.gof : GoF Try.prog 73 := ⟨_, Try.func73, by kernel_rfl, by kernel_rfl⟩
theorem l01Below.sound (n : Nat) : LSound Try.prog 73 (l01Below.mng n) := runL_sound (fn := Try.f73) (M := l01Below.mng n) (c := l01Below.cfg n) (regOK mixed (opOK (.of (c := l01Below.cfg n) trivial) (.of (c := l01Below.cfg n) ⟨⟨l01Byte.sound n, l01Byte.gof⟩, trivial⟩)) (tysOK tys11_ok)) (tysOK tys11_ok) Try.func73 (fun x => (l01Below.eq n x.1 x.2.1 x.2.2.1 x.2.2.2.1 x.2.2.2.2).symm)

end Go.AmT
