/- Functions that the law FnFired reaches, each as a plain Lean function, and that each does what that says. No condition. -/
import Derived.Test.YtgibfifokpnnjaaPFireA
namespace Go.AmT
open Go Go.Am Go.Proofs
set_option linter.unusedVariables false
set_option maxRecDepth 100000
def tys1 : List (Nat × TInfo) := [(3, ⟨false, 1, 8, [.int .i64 0], .int .i64, 0, some I, [], false⟩),
  (5, ⟨false, 1, 1, [.int .u8 0], .int .u8, 0, some U8, [], false⟩),
  (22, ⟨false, 1, 24, [.nil], .slice, 3, some IS, [], false⟩),
  (23, ⟨false, 1, 24, [.nil], .slice, 53, some (.sl tLoop), [], false⟩),
  (36, ⟨false, 1, 24, [.nil], .slice, 62, some (.sl tEdge), [], false⟩),
  (38, ⟨true, 2, 32, [.int .i64 0, .nil], .struct, 0, some tGraph, [(0, 3), (1, 36)], false⟩),
  (48, ⟨false, 1, 24, [.nil], .slice, 5, some (.sl U8), [], false⟩),
  (53, ⟨true, 2, 16, [.int .i64 0, .int .i64 0], .struct, 0, some tLoop, [(0, 3), (1, 3)], false⟩),
  (62, ⟨true, 5, 40, [.int .i64 0, .int .i64 0, .int .i64 0, .int .i64 0, .int .i64 0], .struct, 0, some tEdge, [(0, 3), (1, 3), (2, 3), (3, 3), (4, 3)], false⟩),
  (92, ⟨false, 1, 8, [.int .u64 0], .int .u64, 0, some (.int .u64), [], false⟩),
  (98, ⟨true, 3, 40, [.nil, .int .i64 0, .int .i64 0], .struct, 0, some (.pair (.sl U8) tLoop), [(0, 48), (1, 3), (2, 3)], false⟩),
  (106, ⟨false, 1, 8, [.int .u64 0], .int .u64, 0, some (.int .u64), [], false⟩)]
theorem tys1_ok : (tys1.all fun p => tokB Try.prog p.1 p.2) = true := by kernel_rfl

def mul64.las : List (Nat × LA) := []
noncomputable def mul64.f (n : Nat) (a0 : Int) (a1 : Int) : Option (Int × (Int × Unit)) := if 32 < 0 then none else if 32 < 0 then none else if 32 < 0 then none else if 32 < 0 then none else if 32 < 0 then none else some ((IntKind.wrap .u64 ((IntKind.wrap .u64 ((IntKind.wrap .u64 ((a0.fdiv (2 ^ (min 32 IntKind.u64.bits))) * (a1.fdiv (2 ^ (min 32 IntKind.u64.bits))))) + ((IntKind.wrap .u64 ((IntKind.wrap .u64 ((a0.fdiv (2 ^ (min 32 IntKind.u64.bits))) * (bitsF .and .u64 a1 4294967295))) + ((IntKind.wrap .u64 ((bitsF .and .u64 a0 4294967295) * (bitsF .and .u64 a1 4294967295))).fdiv (2 ^ (min 32 IntKind.u64.bits))))).fdiv (2 ^ (min 32 IntKind.u64.bits))))) + ((IntKind.wrap .u64 ((bitsF .and .u64 (IntKind.wrap .u64 ((IntKind.wrap .u64 ((a0.fdiv (2 ^ (min 32 IntKind.u64.bits))) * (bitsF .and .u64 a1 4294967295))) + ((IntKind.wrap .u64 ((bitsF .and .u64 a0 4294967295) * (bitsF .and .u64 a1 4294967295))).fdiv (2 ^ (min 32 IntKind.u64.bits))))) 4294967295) + (IntKind.wrap .u64 ((bitsF .and .u64 a0 4294967295) * (a1.fdiv (2 ^ (min 32 IntKind.u64.bits))))))).fdiv (2 ^ (min 32 IntKind.u64.bits))))), ((IntKind.wrap .u64 (a0 * a1)), ()))
noncomputable def mul64.mng (n : Nat) : Mng := ⟨[.val (.int .u64), .val (.int .u64)], [.val (.int .u64), .val (.int .u64)], fun x => mul64.f n x.1 x.2.1⟩
noncomputable def mul64.cfg (n : Nat) : Cfg := ⟨tys1, [], [], []⟩
theorem mul64.eq : ∀ (n : Nat) (a0 : Int) (a1 : Int), runF (mul64.cfg n) n Try.f77 (annOf Try.f77 mul64.las) [.val (.int .u64), .val (.int .u64)] [.val (.int .u64), .val (.int .u64)] (a0, (a1, ())) = mul64.f n a0 a1 := by
  intros
  kernel_rfl
theorem mul64.gof : GoF Try.prog 77 := ⟨_, Try.func77, by kernel_rfl, by kernel_rfl⟩
theorem mul64.sound (n : Nat) : Sound Try.prog 77 (mul64.mng n) := runF_sound (fn := Try.f77) (m := mul64.mng n) (c := mul64.cfg n) (regOK mixed (opOK (.of (c := mul64.cfg n) trivial) (.of (c := mul64.cfg n) trivial)) (tysOK tys1_ok)) (tysOK tys1_ok) Try.func77 (fun x => (mul64.eq n x.1 x.2.1).symm)

def mul.las : List (Nat × LA) := []
noncomputable def mul.f (n : Nat) (a0 : Int) (a1 : Int) : Option (Int × (Int × Unit)) := (mul64.f n a0 a1).bind fun r1 => some (r1.1, (r1.2.1, ()))
noncomputable def mul.mng (n : Nat) : Mng := ⟨[.val (.int .u64), .val (.int .u64)], [.val (.int .u64), .val (.int .u64)], fun x => mul.f n x.1 x.2.1⟩
noncomputable def mul.cfg (n : Nat) : Cfg := ⟨tys1, [(77, mul64.mng n)], [], []⟩
theorem mul.eq : ∀ (n : Nat) (a0 : Int) (a1 : Int), runF (mul.cfg n) n Try.f68 (annOf Try.f68 mul.las) [.val (.int .u64), .val (.int .u64)] [.val (.int .u64), .val (.int .u64)] (a0, (a1, ())) = mul.f n a0 a1 := by
  intros
  kernel_rfl
theorem mul.gof : GoF Try.prog 68 := ⟨_, Try.func68, by kernel_rfl, by kernel_rfl⟩
theorem mul.sound (n : Nat) : Sound Try.prog 68 (mul.mng n) := runF_sound (fn := Try.f68) (m := mul.mng n) (c := mul.cfg n) (regOK mixed (opOK (.of (c := mul.cfg n) ⟨⟨mul64.sound n, mul64.gof⟩, trivial⟩) (.of (c := mul.cfg n) trivial)) (tysOK tys1_ok)) (tysOK tys1_ok) Try.func68 (fun x => (mul.eq n x.1 x.2.1).symm)

def repeatI.las : List (Nat × LA) := [(11, ⟨[(7, .own 1000 I), (8, .int .i64)], [(1000, .row true I)], [], []⟩)]
noncomputable def repeatI.f (n : Nat) (a0 : List Int) (a1 : Int) : Option ((List Int) × Unit) := br (decide (a1 < 0)) (none) ((mul.f n (IntKind.wrap .u64 ((a0.length : Int))) (IntKind.wrap .u64 (a1))).bind fun r1 => br (decide (0 < r1.1)) (none) (br (decide (9223372036854775807 < r1.2.1)) (none) (chk ((w64 (r1.2.1)) = (w64 (r1.2.1)) ∧ 0 ≤ (w64 (r1.2.1)) ∧ (w64 (r1.2.1)) * (8 : Int) ≤ (maxB : Int)) (let v2 := ((List.replicate (w64 (r1.2.1)).toNat (0 : Int)).take 0 ++ (a0.take (List.replicate (w64 (r1.2.1)).toNat (0 : Int)).length ++ (List.replicate (w64 (r1.2.1)).toNat (0 : Int)).drop (0 + min a0.length (List.replicate (w64 (r1.2.1)).toNat (0 : Int)).length))); iter (α := (Int × (List Int) × Unit)) n (fun ih8 x7 => br (decide (x7.1 < (x7.2.1.length : Int))) (chk (0 ≤ x7.1 ∧ x7.1 ≤ (x7.2.1.length : Int) ∧ (x7.2.1.length : Int) ≤ (x7.2.1.length : Int)) (chk ((0 : Int) ≤ 0 ∧ (0 : Int) ≤ x7.1 ∧ x7.1 ≤ (x7.2.1.length : Int)) (let v9 := ((x7.2.1.drop 0).take (x7.1.toNat - 0)); let v10 := (x7.2.1.take x7.1.toNat ++ (v9.take ((x7.2.1.length : Int).toNat - x7.1.toNat) ++ x7.2.1.drop (x7.1.toNat + min v9.length ((x7.2.1.length : Int).toNat - x7.1.toNat)))); ih8 ((w64 (x7.1 + ((min v9.length ((x7.2.1.length : Int).toNat - x7.1.toNat) : Nat) : Int))), (v10, ()))))) (some (x7.2.1, ()))) (((min a0.length (List.replicate (w64 (r1.2.1)).toNat (0 : Int)).length : Nat) : Int), (v2, ()))))))
noncomputable def repeatI.mng (n : Nat) : Mng := ⟨[.val IS, .val I], [.val IS], fun x => repeatI.f n x.1 x.2.1⟩
noncomputable def repeatI.cfg (n : Nat) : Cfg := ⟨tys1, [(68, mul.mng n)], [], []⟩
theorem repeatI.eq : ∀ (n : Nat) (a0 : List Int) (a1 : Int), runF (repeatI.cfg n) n Try.f50 (annOf Try.f50 repeatI.las) [.val IS, .val I] [.val IS] (a0, (a1, ())) = repeatI.f n a0 a1 := by
  intros
  kernel_rfl
theorem repeatI.gof : GoF Try.prog 50 := ⟨_, Try.func50, by kernel_rfl, by kernel_rfl⟩
theorem repeatI.sound (n : Nat) : Sound Try.prog 50 (repeatI.mng n) := runF_sound (fn := Try.f50) (m := repeatI.mng n) (c := repeatI.cfg n) (regOK mixed (opOK (.of (c := repeatI.cfg n) ⟨⟨mul.sound n, mul.gof⟩, trivial⟩) (.of (c := repeatI.cfg n) trivial)) (tysOK tys1_ok)) (tysOK tys1_ok) Try.func50 (fun x => (repeatI.eq n x.1 x.2.1).symm)

def iExpand.las : List (Nat × LA) := [(4, ⟨[(4, .own 1000 I), (10, .int .i64)], [(1000, .row true I)], [8, 9], []⟩)]
noncomputable def iExpand.f (n : Nat) (a0 : List Loop) : Option ((List Int) × (Bool × Unit)) := iter (α := (Int × (List Int) × Unit)) n (fun ih7 x6 => br (decide (x6.1 < (a0.length : Int))) (chk (0 ≤ x6.1 ∧ x6.1 < (a0.length : Int)) (let v8 := (a0.getD x6.1.toNat zLoop); br (decide (v8.2 < 0)) (some ([], (false, ()))) (br (decide ((w64 (1600 - (x6.2.1.length : Int))) < v8.2)) (some ([], (false, ()))) ((repeatI.f n ([v8.1] : List Int) v8.2).bind fun r9 => chk ((x6.2.1.length + r9.1.length) * 8 ≤ maxB) (ih7 ((w64 (x6.1 + 1)), ((x6.2.1 ++ r9.1), ()))))))) (some (x6.2.1, (true, ())))) (0, ([], ()))
noncomputable def iExpand.mng (n : Nat) : Mng := ⟨[.val (.sl tLoop)], [.val IS, .val .bool], fun x => iExpand.f n x.1⟩
noncomputable def iExpand.cfg (n : Nat) : Cfg := ⟨tys1, [(50, repeatI.mng n)], [], []⟩
theorem iExpand.eq : ∀ (n : Nat) (a0 : List Loop), runF (iExpand.cfg n) n Try.f28 (annOf Try.f28 iExpand.las) [.val (.sl tLoop)] [.val IS, .val .bool] (a0, ()) = iExpand.f n a0 := by
  intros
  kernel_rfl
theorem iExpand.gof : GoF Try.prog 28 := ⟨_, Try.func28, by kernel_rfl, by kernel_rfl⟩
theorem iExpand.sound (n : Nat) : Sound Try.prog 28 (iExpand.mng n) := runF_sound (fn := Try.f28) (m := iExpand.mng n) (c := iExpand.cfg n) (regOK mixed (opOK (.of (c := iExpand.cfg n) ⟨⟨repeatI.sound n, repeatI.gof⟩, trivial⟩) (.of (c := iExpand.cfg n) trivial)) (tysOK tys1_ok)) (tysOK tys1_ok) Try.func28 (fun x => (iExpand.eq n x.1).symm)

def iCompress.las : List (Nat × LA) := [(4, ⟨[(3, .own 1000 tLoop), (9, .int .i64)], [(1000, .row true tLoop)], [0, 7, 8], []⟩), (9, ⟨[(24, .bool)], [], [0, 3, 5, 7, 8, 9], []⟩)]
noncomputable def iCompress.f (n : Nat) (a0 : List Int) : Option ((List Loop) × Unit) := iter (α := (Int × (List Loop) × Unit)) n (fun ih11 x10 => br (decide (x10.1 < (a0.length : Int))) (chk (0 ≤ x10.1 ∧ x10.1 < (a0.length : Int)) (cut (α := (Bool × Unit)) (br (decide (0 < x10.1)) (chk (0 ≤ (w64 (x10.1 - 1)) ∧ (w64 (x10.1 - 1)) < (a0.length : Int)) (let v14 := (a0.getD (w64 (x10.1 - 1)).toNat 0); some (.inr ((decide (v14 = (a0.getD x10.1.toNat 0))), ())))) (some (.inr (false, ())))) fun y13 => br y13.1 (chk (0 ≤ (w64 ((x10.2.1.length : Int) - 1)) ∧ (w64 ((x10.2.1.length : Int) - 1)) < (x10.2.1.length : Int)) (chk (0 ≤ (w64 ((x10.2.1.length : Int) - 1)) ∧ (w64 ((x10.2.1.length : Int) - 1)) < (x10.2.1.length : Int)) (let v15 := (x10.2.1.set (w64 ((x10.2.1.length : Int) - 1)).toNat ((x10.2.1.getD (w64 ((x10.2.1.length : Int) - 1)).toNat zLoop).1, (w64 ((x10.2.1.getD (w64 ((x10.2.1.length : Int) - 1)).toNat zLoop).2 + 1)))); ih11 ((w64 (x10.1 + 1)), (v15, ()))))) (chk ((x10.2.1.length + ([((a0.getD x10.1.toNat 0), 1)] : List Loop).length) * 16 ≤ maxB) (ih11 ((w64 (x10.1 + 1)), ((x10.2.1 ++ [((a0.getD x10.1.toNat 0), 1)]), ())))))) (some (x10.2.1, ()))) (0, ([], ()))
noncomputable def iCompress.mng (n : Nat) : Mng := ⟨[.val IS], [.val (.sl tLoop)], fun x => iCompress.f n x.1⟩
noncomputable def iCompress.cfg (n : Nat) : Cfg := ⟨tys1, [], [], []⟩
theorem iCompress.eq : ∀ (n : Nat) (a0 : List Int), runF (iCompress.cfg n) n Try.f14 (annOf Try.f14 iCompress.las) [.val IS] [.val (.sl tLoop)] (a0, ()) = iCompress.f n a0 := by
  intros
  kernel_rfl
theorem iCompress.gof : GoF Try.prog 14 := ⟨_, Try.func14, by kernel_rfl, by kernel_rfl⟩
theorem iCompress.sound (n : Nat) : Sound Try.prog 14 (iCompress.mng n) := runF_sound (fn := Try.f14) (m := iCompress.mng n) (c := iCompress.cfg n) (regOK mixed (opOK (.of (c := iCompress.cfg n) trivial) (.of (c := iCompress.cfg n) trivial)) (tysOK tys1_ok)) (tysOK tys1_ok) Try.func14 (fun x => (iCompress.eq n x.1).symm)

def curNew.las : List (Nat × LA) := [(4, ⟨[(3, .int .i64), (4, .int .i64)], [], [0], []⟩), (5, ⟨[(15, .bool)], [], [0, 3, 4], []⟩)]
def curNew.la : LA := ⟨[(0, .sh U8)], [], [], []⟩
def curNew.lb : LA := ⟨[(0, .vptr 1000 0)], [(1000, .cells [] [.sh U8, .int .i64, .int .i64])], [], []⟩
noncomputable def curNew.f (n : Nat) (a0 : List Int) : Option ((List Int) × (Int × (Int × Unit))) := iter (α := (Int × (Int × Unit))) n (fun ih9 x8 => cut (α := (Bool × Unit)) (br (decide (x8.2.1 < (a0.length : Int))) (some (.inr ((decide (x8.2.1 < 4000)), ()))) (some (.inr (false, ())))) fun y10 => br y10.1 (chk (0 ≤ x8.2.1 ∧ x8.2.1 < (a0.length : Int)) (ih9 ((bitsF .and .i64 (w64 ((w64 ((w64 (x8.1 * 1103)) + (w64 ((a0.getD x8.2.1.toNat 0))))) + 7)) 1073741823), ((w64 (x8.2.1 + 1)), ())))) (some (a0, (0, (x8.1, ()))))) ((w64 (3224 + (a0.length : Int))), (0, ()))
noncomputable def curNew.mng (n : Nat) : LMng := ⟨curNew.la, curNew.lb, fun x => curNew.f n x.1⟩
noncomputable def curNew.cfg (n : Nat) : Cfg := ⟨tys1, [], [], []⟩
theorem curNew.eq : ∀ (n : Nat) (a0 : List Int) (mp : Mp), LMng.run (curNew.cfg n) n Try.f52 (annOf Try.f52 curNew.las) curNew.la curNew.lb (a0, mp) = curNew.f n a0 := by
  intros
  kernel_rfl
theorem curNew.gof : GoF Try.prog 52 := ⟨_, Try.func52, by kernel_rfl, by kernel_rfl⟩
theorem curNew.sound (n : Nat) : LSound Try.prog 52 (curNew.mng n) := runL_sound (fn := Try.f52) (M := curNew.mng n) (c := curNew.cfg n) (regOK mixed (opOK (.of (c := curNew.cfg n) trivial) (.of (c := curNew.cfg n) trivial)) (tysOK tys1_ok)) (tysOK tys1_ok) Try.func52 (fun x => (curNew.eq n x.1 x.2).symm)

def l01Byte.las : List (Nat × LA) := []
def l01Byte.la : LA := ⟨[(0, .vptr 0 0)], [(0, .cells [true, false, false] [.sh U8, .int .i64, .int .i64])], [], []⟩
def l01Byte.lb : LA := ⟨[(0, .int .i64)], [(0, .cells [true, false, false] [.sh U8, .int .i64, .int .i64])], [], []⟩
noncomputable def l01Byte.f (n : Nat) (a0 : List Int) (a1 : Int) (a2 : Int) : Option (Int × (List Int) × (Int × (Int × Unit))) := if 33 < 0 then none else if 45 < 0 then none else br (decide (a1 < (a0.length : Int))) (chk (0 ≤ a1 ∧ a1 < (a0.length : Int)) (some ((bitsF .and .i64 (w64 ((bitsF .and .i64 (bitsF .xor .i64 ((w64 ((w64 (a2 * 6364136223846793005)) + 1442695040888963407)).fdiv (2 ^ (min 33 IntKind.i64.bits))) ((w64 ((w64 (a2 * 6364136223846793005)) + 1442695040888963407)).fdiv (2 ^ (min 45 IntKind.i64.bits)))) 255) + (w64 ((a0.getD a1.toNat 0))))) 255), (a0, ((w64 (a1 + 1)), ((w64 ((w64 (a2 * 6364136223846793005)) + 1442695040888963407)), ())))))) (some ((bitsF .and .i64 (bitsF .xor .i64 ((w64 ((w64 (a2 * 6364136223846793005)) + 1442695040888963407)).fdiv (2 ^ (min 33 IntKind.i64.bits))) ((w64 ((w64 (a2 * 6364136223846793005)) + 1442695040888963407)).fdiv (2 ^ (min 45 IntKind.i64.bits)))) 255), (a0, (a1, ((w64 ((w64 (a2 * 6364136223846793005)) + 1442695040888963407)), ())))))
noncomputable def l01Byte.mng (n : Nat) : LMng := ⟨l01Byte.la, l01Byte.lb, fun x => l01Byte.f n x.1 x.2.1 x.2.2.1⟩
noncomputable def l01Byte.cfg (n : Nat) : Cfg := ⟨tys1, [], [], []⟩
theorem l01Byte.eq : ∀ (n : Nat) (a0 : List Int) (a1 : Int) (a2 : Int) (mp : Mp), LMng.run (l01Byte.cfg n) n Try.f78 (annOf Try.f78 l01Byte.las) l01Byte.la l01Byte.lb (a0, (a1, (a2, mp))) = l01Byte.f n a0 a1 a2 := by
  intros
  kernel_rfl
theorem l01Byte.gof : GoF Try.prog 78 := ⟨_, Try.func78, by kernel_rfl, by kernel_rfl⟩
theorem l01Byte.sound (n : Nat) : LSound Try.prog 78 (l01Byte.mng n) := runL_sound (fn := Try.f78) (M := l01Byte.mng n) (c := l01Byte.cfg n) (regOK mixed (opOK (.of (c := l01Byte.cfg n) trivial) (.of (c := l01Byte.cfg n) trivial)) (tysOK tys1_ok)) (tysOK tys1_ok) Try.func78 (fun x => (l01Byte.eq n x.1 x.2.1 x.2.2.1 x.2.2.2).symm)

def l01Below.las : List (Nat × LA) := []
def l01Below.la : LA := ⟨[(0, .vptr 0 0), (1, .int .i64)], [(0, .cells [true, false, false] [.sh U8, .int .i64, .int .i64])], [], []⟩
def l01Below.lb : LA := ⟨[(0, .int .i64)], [(0, .cells [true, false, false] [.sh U8, .int .i64, .int .i64])], [], []⟩
noncomputable def l01Below.f (n : Nat) (a0 : Int) (a1 : List Int) (a2 : Int) (a3 : Int) : Option (Int × (List Int) × (Int × (Int × Unit))) := br (decide (a0 ≤ 0)) (some (0, (a1, (a2, (a3, ()))))) (br (decide (a0 ≤ 256)) ((l01Byte.f n a1 a2 a3).bind fun r2 => if a0 = 0 then none else some ((r2.1.tmod a0), (r2.2.1, (r2.2.2.1, (r2.2.2.2.1, ()))))) ((l01Byte.f n a1 a2 a3).bind fun r3 => (l01Byte.f n r3.2.1 r3.2.2.1 r3.2.2.2.1).bind fun r4 => (l01Byte.f n r4.2.1 r4.2.2.1 r4.2.2.2.1).bind fun r5 => (l01Byte.f n r5.2.1 r5.2.2.1 r5.2.2.2.1).bind fun r6 => if a0 = 0 then none else some (((w64 ((w64 ((w64 ((w64 (r3.1 * 16777216)) + (w64 (r4.1 * 65536)))) + (w64 (r5.1 * 256)))) + r6.1)).tmod a0), (r6.2.1, (r6.2.2.1, (r6.2.2.2.1, ()))))))
noncomputable def l01Below.mng (n : Nat) : LMng := ⟨l01Below.la, l01Below.lb, fun x => l01Below.f n x.1 x.2.1 x.2.2.1 x.2.2.2.1⟩
noncomputable def l01Below.cfg (n : Nat) : Cfg := ⟨tys1, [], [(78, l01Byte.mng n)], []⟩
theorem l01Below.eq : ∀ (n : Nat) (a0 : Int) (a1 : List Int) (a2 : Int) (a3 : Int) (mp : Mp), LMng.run (l01Below.cfg n) n Try.f69 (annOf Try.f69 l01Below.las) l01Below.la l01Below.lb (a0, (a1, (a2, (a3, mp)))) = l01Below.f n a0 a1 a2 a3 := by
  intros
  kernel_rfl
theorem l01Below.gof : GoF Try.prog 69 := ⟨_, Try.func69, by kernel_rfl, by kernel_rfl⟩
theorem l01Below.sound (n : Nat) : LSound Try.prog 69 (l01Below.mng n) := runL_sound (fn := Try.f69) (M := l01Below.mng n) (c := l01Below.cfg n) (regOK mixed (opOK (.of (c := l01Below.cfg n) trivial) (.of (c := l01Below.cfg n) ⟨⟨l01Byte.sound n, l01Byte.gof⟩, trivial⟩)) (tysOK tys1_ok)) (tysOK tys1_ok) Try.func69 (fun x => (l01Below.eq n x.1 x.2.1 x.2.2.1 x.2.2.2.1 x.2.2.2.2).symm)

def l01Once.las : List (Nat × LA) := []
def l01Once.la : LA := ⟨[(0, .vptr 0 0), (1, .int .i64)], [(0, .cells [true, false, false] [.sh U8, .int .i64, .int .i64])], [], []⟩
def l01Once.lb : LA := ⟨[(0, .bool)], [(0, .cells [true, false, false] [.sh U8, .int .i64, .int .i64])], [], []⟩
noncomputable def l01Once.f (n : Nat) (a0 : Int) (a1 : List Int) (a2 : Int) (a3 : Int) : Option (Bool × (List Int) × (Int × (Int × Unit))) := (l01Below.f n a0 a1 a2 a3).bind fun r1 => some ((decide (r1.1 = 0)), (r1.2.1, (r1.2.2.1, (r1.2.2.2.1, ()))))
noncomputable def l01Once.mng (n : Nat) : LMng := ⟨l01Once.la, l01Once.lb, fun x => l01Once.f n x.1 x.2.1 x.2.2.1 x.2.2.2.1⟩
noncomputable def l01Once.cfg (n : Nat) : Cfg := ⟨tys1, [], [(69, l01Below.mng n)], []⟩
theorem l01Once.eq : ∀ (n : Nat) (a0 : Int) (a1 : List Int) (a2 : Int) (a3 : Int) (mp : Mp), LMng.run (l01Once.cfg n) n Try.f71 (annOf Try.f71 l01Once.las) l01Once.la l01Once.lb (a0, (a1, (a2, (a3, mp)))) = l01Once.f n a0 a1 a2 a3 := by
  intros
  kernel_rfl
theorem l01Once.gof : GoF Try.prog 71 := ⟨_, Try.func71, by kernel_rfl, by kernel_rfl⟩
theorem l01Once.sound (n : Nat) : LSound Try.prog 71 (l01Once.mng n) := runL_sound (fn := Try.f71) (M := l01Once.mng n) (c := l01Once.cfg n) (regOK mixed (opOK (.of (c := l01Once.cfg n) trivial) (.of (c := l01Once.cfg n) ⟨⟨l01Below.sound n, l01Below.gof⟩, trivial⟩)) (tysOK tys1_ok)) (tysOK tys1_ok) Try.func71 (fun x => (l01Once.eq n x.1 x.2.1 x.2.2.1 x.2.2.2.1 x.2.2.2.2).symm)

def l7Gcd.las : List (Nat × LA) := [(2, ⟨[(0, .int .i64), (1, .int .i64)], [], [], []⟩)]
noncomputable def l7Gcd.f (n : Nat) (a0 : Int) (a1 : Int) : Option (Int × Unit) := iter (α := (Int × (Int × Unit))) n (fun ih4 x3 => br (!decide (x3.2.1 = 0)) (if x3.2.1 = 0 then none else ih4 (x3.2.1, ((x3.1.tmod x3.2.1), ()))) (some (x3.1, ()))) (a0, (a1, ()))
noncomputable def l7Gcd.mng (n : Nat) : Mng := ⟨[.val I, .val I], [.val I], fun x => l7Gcd.f n x.1 x.2.1⟩
noncomputable def l7Gcd.cfg (n : Nat) : Cfg := ⟨tys1, [], [], []⟩
theorem l7Gcd.eq : ∀ (n : Nat) (a0 : Int) (a1 : Int), runF (l7Gcd.cfg n) n Try.f70 (annOf Try.f70 l7Gcd.las) [.val I, .val I] [.val I] (a0, (a1, ())) = l7Gcd.f n a0 a1 := by
  intros
  kernel_rfl
theorem l7Gcd.gof : GoF Try.prog 70 := ⟨_, Try.func70, by kernel_rfl, by kernel_rfl⟩
theorem l7Gcd.sound (n : Nat) : Sound Try.prog 70 (l7Gcd.mng n) := runF_sound (fn := Try.f70) (m := l7Gcd.mng n) (c := l7Gcd.cfg n) (regOK mixed (opOK (.of (c := l7Gcd.cfg n) trivial) (.of (c := l7Gcd.cfg n) trivial)) (tysOK tys1_ok)) (tysOK tys1_ok) Try.func70 (fun x => (l7Gcd.eq n x.1 x.2.1).symm)

def l7Graph.las : List (Nat × LA) := [(5, ⟨[(0, .vptr 0 0), (4, .own 1000 I), (5, .int .i64)], [(0, .cells [true, false, false] [.sh U8, .int .i64, .int .i64]), (1000, .row true I)], [2, 3], []⟩), (13, ⟨[(0, .vptr 0 0), (3, .vptr 1000 0), (6, .int .i64)], [(0, .cells [true, false, false] [.sh U8, .int .i64, .int .i64]), (1000, .cells [] [.int .i64, .own 1001 tEdge]), (1001, .row true tEdge)], [2, 4], []⟩), (14, ⟨[(35, .bool)], [], [0, 2, 3, 4, 6], [0]⟩), (21, ⟨[(0, .vptr 0 0), (76, .bool)], [(0, .cells [true, false, false] [.sh U8, .int .i64, .int .i64])], [2, 3, 4, 6, 10], []⟩), (22, ⟨[(0, .vptr 0 0), (10, .vptr 1000 0)], [(0, .cells [true, false, false] [.sh U8, .int .i64, .int .i64]), (1000, .cells [] [.int .i64, .int .i64, .int .i64, .int .i64, .int .i64])], [2, 3, 4, 6], []⟩), (25, ⟨[(0, .vptr 0 0), (10, .vptr 1000 0)], [(0, .cells [true, false, false] [.sh U8, .int .i64, .int .i64]), (1000, .cells [] [.int .i64, .int .i64, .int .i64, .int .i64, .int .i64])], [2, 3, 4, 6], []⟩)]
def l7Graph.la : LA := ⟨[(0, .vptr 0 0)], [(0, .cells [true, false, false] [.sh U8, .int .i64, .int .i64])], [], []⟩
def l7Graph.lb : LA := ⟨[(0, .agg [.int .i64, .own 1000 tEdge])], [(1000, .row true tEdge), (0, .cells [true, false, false] [.sh U8, .int .i64, .int .i64])], [], []⟩
noncomputable def l7Graph.f (n : Nat) (a0 : List Int) (a1 : Int) (a2 : Int) : Option (Int × (List Edge) × (List Int) × (Int × (Int × Unit))) := (l01Below.f n 6 a0 a1 a2).bind fun r1 => iter (α := (Int × (List Int) × (Int × (Int × (List Int) × Unit)))) n (fun ih14 x13 => br (decide (x13.1 < r1.1)) ((l01Below.f n 4 x13.2.1 x13.2.2.1 x13.2.2.2.1).bind fun r15 => chk ((x13.2.2.2.2.1.length + ([(w64 (1 + r15.1))] : List Int).length) * 8 ≤ maxB) (ih14 ((w64 (x13.1 + 1)), (r15.2.1, (r15.2.2.1, (r15.2.2.2.1, ((x13.2.2.2.2.1 ++ [(w64 (1 + r15.1))]), ()))))))) ((l01Below.f n 6 x13.2.1 x13.2.2.1 x13.2.2.2.1).bind fun r16 => iter (α := (Int × (List Int) × (Int × (Int × (Int × (List Edge) × Unit))))) n (fun ih61 x60 => cut (α := (Bool × Unit)) (br (decide (0 < x60.1)) (some (.inr ((decide (0 < x60.2.2.2.2.1)), ()))) (some (.inr (false, ())))) fun y62 => br y62.1 ((l01Below.f n x60.2.2.2.2.1 x60.2.1 x60.2.2.1 x60.2.2.2.1).bind fun r63 => (l01Below.f n x60.2.2.2.2.1 r63.2.1 r63.2.2.1 r63.2.2.2.1).bind fun r64 => chk (0 ≤ r63.1 ∧ r63.1 < (x13.2.2.2.2.1.length : Int)) (chk (0 ≤ r64.1 ∧ r64.1 < (x13.2.2.2.2.1.length : Int)) ((l7Gcd.f n (x13.2.2.2.2.1.getD r63.1.toNat 0) (x13.2.2.2.2.1.getD r64.1.toNat 0)).bind fun r65 => chk (0 ≤ r64.1 ∧ r64.1 < (x13.2.2.2.2.1.length : Int)) (if r65.1 = 0 then none else chk (0 ≤ r63.1 ∧ r63.1 < (x13.2.2.2.2.1.length : Int)) (if r65.1 = 0 then none else cut (α := (Bool × (List Int) × (Int × (Int × Unit)))) (br (decide (r64.1 ≤ r63.1)) (some (.inr (true, (r64.2.1, (r64.2.2.1, (r64.2.2.2.1, ())))))) ((l01Once.f n 4 r64.2.1 r64.2.2.1 r64.2.2.2.1).bind fun r68 => some (.inr (r68.1, (r68.2.1, (r68.2.2.1, (r68.2.2.2.1, ()))))))) fun y67 => cut (α := ((List Int) × (Int × (Int × (Int × (Int × (Int × (Int × (Int × Unit))))))))) (br y67.1 ((l01Below.f n 12 y67.2.1 y67.2.2.1 y67.2.2.2.1).bind fun r71 => some (.inr (r71.2.1, (r71.2.2.1, (r71.2.2.2.1, (r63.1, (r64.1, ((w64 ((x13.2.2.2.2.1.getD r64.1.toNat 0).tdiv r65.1)), ((w64 ((x13.2.2.2.2.1.getD r63.1.toNat 0).tdiv r65.1)), (r71.1, ())))))))))) (some (.inr (y67.2.1, (y67.2.2.1, (y67.2.2.2.1, (r63.1, (r64.1, ((w64 ((x13.2.2.2.2.1.getD r64.1.toNat 0).tdiv r65.1)), ((w64 ((x13.2.2.2.2.1.getD r63.1.toNat 0).tdiv r65.1)), (0, ()))))))))))) fun y70 => (l01Once.f n 15 y70.1 y70.2.1 y70.2.2.1).bind fun r72 => cut (α := ((List Int) × (Int × (Int × (Int × (Int × (Int × (Int × (Int × Unit))))))))) (br r72.1 ((l01Below.f n 5 r72.2.1 r72.2.2.1 r72.2.2.2.1).bind fun r75 => some (.inr (r75.2.1, (r75.2.2.1, (r75.2.2.2.1, (y70.2.2.2.1, (y70.2.2.2.2.1, ((w64 (1 + r75.1)), (y70.2.2.2.2.2.2.1, (y70.2.2.2.2.2.2.2.1, ())))))))))) (some (.inr (r72.2.1, (r72.2.2.1, (r72.2.2.2.1, (y70.2.2.2.1, (y70.2.2.2.2.1, (y70.2.2.2.2.2.1, (y70.2.2.2.2.2.2.1, (y70.2.2.2.2.2.2.2.1, ()))))))))))) fun y74 => chk ((x60.2.2.2.2.2.1.length + ([(y74.2.2.2.1, (y74.2.2.2.2.1, (y74.2.2.2.2.2.1, (y74.2.2.2.2.2.2.1, y74.2.2.2.2.2.2.2.1))))] : List Edge).length) * 40 ≤ maxB) (ih61 ((w64 (x60.1 - 1)), (y74.1, (y74.2.1, (y74.2.2.1, (x60.2.2.2.2.1, ((x60.2.2.2.2.2.1 ++ [(y74.2.2.2.1, (y74.2.2.2.2.1, (y74.2.2.2.2.2.1, (y74.2.2.2.2.2.2.1, y74.2.2.2.2.2.2.2.1))))]), ())))))))))))) (some (x60.2.2.2.2.1, (x60.2.2.2.2.2.1, (x60.2.1, (x60.2.2.1, (x60.2.2.2.1, ()))))))) (r16.1, (r16.2.1, (r16.2.2.1, (r16.2.2.2.1, (r1.1, ([], ())))))))) (0, (r1.2.1, (r1.2.2.1, (r1.2.2.2.1, ([], ())))))
noncomputable def l7Graph.mng (n : Nat) : LMng := ⟨l7Graph.la, l7Graph.lb, fun x => l7Graph.f n x.1 x.2.1 x.2.2.1⟩
noncomputable def l7Graph.cfg (n : Nat) : Cfg := ⟨tys1, [(70, l7Gcd.mng n)], [(69, l01Below.mng n), (71, l01Once.mng n)], []⟩
theorem l7Graph.eq : ∀ (n : Nat) (a0 : List Int) (a1 : Int) (a2 : Int) (mp : Mp), LMng.run (l7Graph.cfg n) n Try.f51 (annOf Try.f51 l7Graph.las) l7Graph.la l7Graph.lb (a0, (a1, (a2, mp))) = l7Graph.f n a0 a1 a2 := by
  intros
  kernel_rfl
theorem l7Graph.gof : GoF Try.prog 51 := ⟨_, Try.func51, by kernel_rfl, by kernel_rfl⟩
theorem l7Graph.sound (n : Nat) : LSound Try.prog 51 (l7Graph.mng n) := runL_sound (fn := Try.f51) (M := l7Graph.mng n) (c := l7Graph.cfg n) (regOK mixed (opOK (.of (c := l7Graph.cfg n) ⟨⟨l7Gcd.sound n, l7Gcd.gof⟩, trivial⟩) (.of (c := l7Graph.cfg n) ⟨⟨l01Below.sound n, l01Below.gof⟩, ⟨⟨l01Once.sound n, l01Once.gof⟩, trivial⟩⟩)) (tysOK tys1_ok)) (tysOK tys1_ok) Try.func51 (fun x => (l7Graph.eq n x.1 x.2.1 x.2.2.1 x.2.2.2).symm)

def makeGraph.las : List (Nat × LA) := []
noncomputable def makeGraph.f (n : Nat) (a0 : List Int) : Option (Graph × Unit) := (curNew.f n a0).bind fun r1 => (l7Graph.f n r1.1 r1.2.1 r1.2.2.1).bind fun r2 => some ((r2.1, r2.2.1), ())
noncomputable def makeGraph.mng (n : Nat) : Mng := ⟨[.val (.sl U8)], [.sh tGraph], fun x => makeGraph.f n x.1⟩
noncomputable def makeGraph.cfg (n : Nat) : Cfg := ⟨tys1, [], [(52, curNew.mng n), (51, l7Graph.mng n)], []⟩
theorem makeGraph.eq : ∀ (n : Nat) (a0 : List Int), runF (makeGraph.cfg n) n Try.f30 (annOf Try.f30 makeGraph.las) [.val (.sl U8)] [.sh tGraph] (a0, ()) = makeGraph.f n a0 := by
  intros
  kernel_rfl
theorem makeGraph.gof : GoF Try.prog 30 := ⟨_, Try.func30, by kernel_rfl, by kernel_rfl⟩
theorem makeGraph.sound (n : Nat) : Sound Try.prog 30 (makeGraph.mng n) := runF_sound (fn := Try.f30) (m := makeGraph.mng n) (c := makeGraph.cfg n) (regOK mixed (opOK (.of (c := makeGraph.cfg n) trivial) (.of (c := makeGraph.cfg n) ⟨⟨curNew.sound n, curNew.gof⟩, ⟨⟨l7Graph.sound n, l7Graph.gof⟩, trivial⟩⟩)) (tysOK tys1_ok)) (tysOK tys1_ok) Try.func30 (fun x => (makeGraph.eq n x.1).symm)

def lawAt.las : List (Nat × LA) := []
noncomputable def lawAt.f (n : Nat) (a0 : List Int) (a1 : Int) : Option (Int × Unit) := br (decide (a1 < (a0.length : Int))) (chk (0 ≤ a1 ∧ a1 < (a0.length : Int)) (some ((w64 ((a0.getD a1.toNat 0))), ()))) (some (((w64 ((w64 (a1 * 37)) + (w64 ((a0.length : Int) * 11)))).tmod 256), ()))
noncomputable def lawAt.mng (n : Nat) : Mng := ⟨[.val (.sl U8), .val I], [.val I], fun x => lawAt.f n x.1 x.2.1⟩
noncomputable def lawAt.cfg (n : Nat) : Cfg := ⟨tys1, [], [], []⟩
theorem lawAt.eq : ∀ (n : Nat) (a0 : List Int) (a1 : Int), runF (lawAt.cfg n) n Try.f31 (annOf Try.f31 lawAt.las) [.val (.sl U8), .val I] [.val I] (a0, (a1, ())) = lawAt.f n a0 a1 := by
  intros
  kernel_rfl
theorem lawAt.gof : GoF Try.prog 31 := ⟨_, Try.func31, by kernel_rfl, by kernel_rfl⟩
theorem lawAt.sound (n : Nat) : Sound Try.prog 31 (lawAt.mng n) := runF_sound (fn := Try.f31) (m := lawAt.mng n) (c := lawAt.cfg n) (regOK mixed (opOK (.of (c := lawAt.cfg n) trivial) (.of (c := lawAt.cfg n) trivial)) (tysOK tys1_ok)) (tysOK tys1_ok) Try.func31 (fun x => (lawAt.eq n x.1 x.2.1).symm)

def intsF.las : List (Nat × LA) := [(6, ⟨[(13, .int .i64)], [], [0, 1, 12], []⟩)]
noncomputable def intsF.f (n : Nat) (a0 : List Int) (a1 : List Int) : Option (Bool × Unit) := br (!decide ((a0.length : Int) = (a1.length : Int))) (some (false, ())) (iter (α := (Int × Unit)) n (fun ih6 x5 => br (decide (x5.1 < (a0.length : Int))) (chk (0 ≤ x5.1 ∧ x5.1 < (a0.length : Int)) (chk (0 ≤ x5.1 ∧ x5.1 < (a1.length : Int)) (br (!decide ((a0.getD x5.1.toNat 0) = (a1.getD x5.1.toNat 0))) (some (false, ())) (ih6 ((w64 (x5.1 + 1)), ()))))) (some (true, ()))) (0, ()))
noncomputable def intsF.mng (n : Nat) : Mng := ⟨[.val IS, .val IS], [.val .bool], fun x => intsF.f n x.1 x.2.1⟩
noncomputable def intsF.cfg (n : Nat) : Cfg := ⟨tys1, [], [], []⟩
theorem intsF.eq : ∀ (n : Nat) (a0 : List Int) (a1 : List Int), runF (intsF.cfg n) n Try.f33 (annOf Try.f33 intsF.las) [.val IS, .val IS] [.val .bool] (a0, (a1, ())) = intsF.f n a0 a1 := by
  intros
  kernel_rfl
theorem intsF.gof : GoF Try.prog 33 := ⟨_, Try.func33, by kernel_rfl, by kernel_rfl⟩
theorem intsF.sound (n : Nat) : Sound Try.prog 33 (intsF.mng n) := runF_sound (fn := Try.f33) (m := intsF.mng n) (c := intsF.cfg n) (regOK mixed (opOK (.of (c := intsF.cfg n) trivial) (.of (c := intsF.cfg n) trivial)) (tysOK tys1_ok)) (tysOK tys1_ok) Try.func33 (fun x => (intsF.eq n x.1 x.2.1).symm)

def law.las : List (Nat × LA) := [(8, ⟨[(4, .own 1000 I), (31, .int .i64)], [(1000, .row true I)], [0, 3, 30], []⟩), (17, ⟨[(6, .int .i64)], [], [0, 3, 4], []⟩), (23, ⟨[(7, .int .i64)], [], [0, 3, 4, 6], []⟩), (29, ⟨[(73, .bool)], [], [0, 3, 4, 6, 7, 8, 10], []⟩), (41, ⟨[(16, .own 1000 I), (17, .int .i64)], [(1000, .row true I)], [0], []⟩), (51, ⟨[(21, .int .i64)], [], [16, 18, 19, 20], []⟩)]
noncomputable def law.f (n : Nat) (a0 : List Int) : Option (Bool × Unit) := br (decide (1048576 < (a0.length : Int))) (some (true, ())) ((makeGraph.f n a0).bind fun r1 => iter (α := (Int × (List Int) × Unit)) n (fun ih13 x12 => br (decide (x12.1 < (r1.1.2.length : Int))) ((lawAt.f n a0 (w64 (x12.1 + 3))).bind fun r14 => chk ((x12.2.1.length + ([(r14.1.tmod 8)] : List Int).length) * 8 ≤ maxB) (ih13 ((w64 (x12.1 + 1)), ((x12.2.1 ++ [(r14.1.tmod 8)]), ())))) (iter (α := (Int × Unit)) n (fun ih63 x62 => br (decide (x62.1 < r1.1.1)) (iter (α := (Int × Unit)) n (fun ih65 x64 => br (decide (x64.1 < x62.1)) ((iFireNode.f n r1.1 x12.2.1 x62.1).bind fun r66 => (iFireNode.f n r1.1 x12.2.1 x64.1).bind fun r67 => cut (α := (Bool × Unit)) (br (!r66.2.1) (some (.inr (true, ()))) (some (.inr ((!r67.2.1), ())))) fun y68 => br y68.1 (ih65 ((w64 (x64.1 + 1)), ())) ((iFireNode.f n r1.1 r66.1 x64.1).bind fun r69 => (iFireNode.f n r1.1 r67.1 x62.1).bind fun r70 => br (!r69.2.1) (some (false, ())) (br (!r70.2.1) (some (false, ())) ((intsF.f n r69.1 r70.1).bind fun r71 => br (!r71.1) (some (false, ())) (ih65 ((w64 (x64.1 + 1)), ())))))) (ih63 ((w64 (x62.1 + 1)), ()))) (0, ())) (iter (α := (Int × (List Int) × Unit)) n (fun ih82 x81 => (lawAt.f n a0 1).bind fun r83 => br (decide (x81.1 < r83.1)) ((lawAt.f n a0 (w64 (x81.1.tdiv 2))).bind fun r84 => chk ((x81.2.1.length + ([(r84.1.tmod 3)] : List Int).length) * 8 ≤ maxB) (ih82 ((w64 (x81.1 + 1)), ((x81.2.1 ++ [(r84.1.tmod 3)]), ())))) ((iCompress.f n x81.2.1).bind fun r85 => (iExpand.f n r85.1).bind fun r86 => iter (α := (Int × Unit)) n (fun ih95 x94 => br (decide (x94.1 < (r85.1.length : Int))) (chk (0 ≤ x94.1 ∧ x94.1 < (r85.1.length : Int)) (chk (0 ≤ (w64 (x94.1 - 1)) ∧ (w64 (x94.1 - 1)) < (r85.1.length : Int)) (br (decide ((r85.1.getD x94.1.toNat zLoop).1 = (r85.1.getD (w64 (x94.1 - 1)).toNat zLoop).1)) (some (false, ())) (ih95 ((w64 (x94.1 + 1)), ()))))) (br r86.2.1 ((intsF.f n r86.1 x81.2.1).bind fun r96 => some (r96.1, ())) (some (false, ())))) (1, ()))) (0, ([], ())))) (0, ()))) (0, ([], ())))
noncomputable def law.mng (n : Nat) : Mng := ⟨[.val (.sl U8)], [.val .bool], fun x => law.f n x.1⟩
noncomputable def law.cfg (n : Nat) : Cfg := ⟨tys1, [(30, makeGraph.mng n), (31, lawAt.mng n), (32, iFireNode.mng n), (33, intsF.mng n), (14, iCompress.mng n), (28, iExpand.mng n)], [], []⟩
theorem law.eq : ∀ (n : Nat) (a0 : List Int), runF (law.cfg n) n Try.f6 (annOf Try.f6 law.las) [.val (.sl U8)] [.val .bool] (a0, ()) = law.f n a0 := by
  intros
  kernel_rfl
theorem law.sound (n : Nat) : Sound Try.prog 6 (law.mng n) := runF_sound (fn := Try.f6) (m := law.mng n) (c := law.cfg n) (regOK mixed (opOK (.of (c := law.cfg n) ⟨⟨makeGraph.sound n, makeGraph.gof⟩, ⟨⟨lawAt.sound n, lawAt.gof⟩, ⟨⟨iFireNode.sound n, iFireNode.gof⟩, ⟨⟨intsF.sound n, intsF.gof⟩, ⟨⟨iCompress.sound n, iCompress.gof⟩, ⟨⟨iExpand.sound n, iExpand.gof⟩, trivial⟩⟩⟩⟩⟩⟩) (.of (c := law.cfg n) trivial)) (tysOK tys1_ok)) (tysOK tys1_ok) Try.func6 (fun x => (law.eq n x.1).symm)
end Go.AmT
