/- Functions that the law FnRates reaches, each as a plain Lean function, and that each does what that says. No condition. -/
import Derived.Test.YtfcehikkpoeebaaPSchd
namespace Go.AmT
open Go Go.Am Go.Proofs
set_option linter.unusedVariables false
set_option maxRecDepth 100000
def tys16 : List (Nat × TInfo) := [(3, ⟨false, 1, 8, [.int .i64 0], .int .i64, 0, some I, [], false⟩),
  (5, ⟨false, 1, 1, [.int .u8 0], .int .u8, 0, some U8, [], false⟩),
  (22, ⟨false, 1, 24, [.nil], .slice, 5, some (.sl U8), [], false⟩),
  (23, ⟨false, 1, 24, [.nil], .slice, 38, some (.sl tEdge), [], false⟩),
  (25, ⟨true, 2, 32, [.int .i64 0, .nil], .struct, 0, some tGraph, [(0, 3), (1, 23)], false⟩),
  (33, ⟨false, 1, 24, [.nil], .slice, 3, some IS, [], false⟩),
  (38, ⟨true, 5, 40, [.int .i64 0, .int .i64 0, .int .i64 0, .int .i64 0, .int .i64 0], .struct, 0, some tEdge, [(0, 3), (1, 3), (2, 3), (3, 3), (4, 3)], false⟩),
  (92, ⟨true, 3, 40, [.nil, .int .i64 0, .int .i64 0], .struct, 0, some (.pair (.sl U8) (.pair I I)), [(0, 22), (1, 3), (2, 3)], false⟩)]
theorem tys16_ok : (tys16.all fun p => tokB Try.prog p.1 p.2) = true := by kernel_rfl

def curNew.las : List (Nat × LA) := [(4, ⟨[(3, .int .i64), (4, .int .i64)], [], [0], []⟩), (5, ⟨[(15, .bool)], [], [0, 3, 4], []⟩)]
def curNew.la : LA := ⟨[(0, .sh U8)], [], [], []⟩
def curNew.lb : LA := ⟨[(0, .vptr 1000 0)], [(1000, .cells [] [.sh U8, .int .i64, .int .i64])], [], []⟩
noncomputable def curNew.f (n : Nat) (a0 : List Int) : Option ((List Int) × (Int × (Int × Unit))) := iter (α := (Int × (Int × Unit))) n (fun ih9 x8 => cut (α := (Bool × Unit)) (br (decide (x8.2.1 < (a0.length : Int))) (some (.inr ((decide (x8.2.1 < 4000)), ()))) (some (.inr (false, ())))) fun y10 => br y10.1 (chk (0 ≤ x8.2.1 ∧ x8.2.1 < (a0.length : Int)) (ih9 ((bitsF .and .i64 (w64 ((w64 ((w64 (x8.1 * 1103)) + (w64 ((a0.getD x8.2.1.toNat 0))))) + 7)) 1073741823), ((w64 (x8.2.1 + 1)), ())))) (some (a0, (0, (x8.1, ()))))) ((w64 (3224 + (a0.length : Int))), (0, ()))
noncomputable def curNew.mng (n : Nat) : LMng := ⟨curNew.la, curNew.lb, fun x => curNew.f n x.1⟩
noncomputable def curNew.cfg (n : Nat) : Cfg := ⟨tys16, [], [], []⟩
theorem curNew.eq : ∀ (n : Nat) (a0 : List Int) (mp : Mp), LMng.run (curNew.cfg n) n Try.f17 (annOf Try.f17 curNew.las) curNew.la curNew.lb (a0, mp) = curNew.f n a0 := by
  intros
  kernel_rfl
theorem curNew.gof : GoF Try.prog 17 := ⟨_, Try.func17, by kernel_rfl, by kernel_rfl⟩
theorem curNew.sound (n : Nat) : LSound Try.prog 17 (curNew.mng n) := runL_sound (fn := Try.f17) (M := curNew.mng n) (c := curNew.cfg n) (regOK mixed (opOK (.of (c := curNew.cfg n) trivial) (.of (c := curNew.cfg n) trivial)) (tysOK tys16_ok)) (tysOK tys16_ok) Try.func17 (fun x => (curNew.eq n x.1 x.2).symm)

def l01Byte.las : List (Nat × LA) := []
def l01Byte.la : LA := ⟨[(0, .vptr 0 0)], [(0, .cells [true, false, false] [.sh U8, .int .i64, .int .i64])], [], []⟩
def l01Byte.lb : LA := ⟨[(0, .int .i64)], [(0, .cells [true, false, false] [.sh U8, .int .i64, .int .i64])], [], []⟩
noncomputable def l01Byte.f (n : Nat) (a0 : List Int) (a1 : Int) (a2 : Int) : Option (Int × (List Int) × (Int × (Int × Unit))) := if 33 < 0 then none else if 45 < 0 then none else br (decide (a1 < (a0.length : Int))) (chk (0 ≤ a1 ∧ a1 < (a0.length : Int)) (some ((bitsF .and .i64 (w64 ((bitsF .and .i64 (bitsF .xor .i64 ((w64 ((w64 (a2 * 6364136223846793005)) + 1442695040888963407)).fdiv (2 ^ (min 33 IntKind.i64.bits))) ((w64 ((w64 (a2 * 6364136223846793005)) + 1442695040888963407)).fdiv (2 ^ (min 45 IntKind.i64.bits)))) 255) + (w64 ((a0.getD a1.toNat 0))))) 255), (a0, ((w64 (a1 + 1)), ((w64 ((w64 (a2 * 6364136223846793005)) + 1442695040888963407)), ())))))) (some ((bitsF .and .i64 (bitsF .xor .i64 ((w64 ((w64 (a2 * 6364136223846793005)) + 1442695040888963407)).fdiv (2 ^ (min 33 IntKind.i64.bits))) ((w64 ((w64 (a2 * 6364136223846793005)) + 1442695040888963407)).fdiv (2 ^ (min 45 IntKind.i64.bits)))) 255), (a0, (a1, ((w64 ((w64 (a2 * 6364136223846793005)) + 1442695040888963407)), ())))))
noncomputable def l01Byte.mng (n : Nat) : LMng := ⟨l01Byte.la, l01Byte.lb, fun x => l01Byte.f n x.1 x.2.1 x.2.2.1⟩
noncomputable def l01Byte.cfg (n : Nat) : Cfg := ⟨tys16, [], [], []⟩
theorem l01Byte.eq : ∀ (n : Nat) (a0 : List Int) (a1 : Int) (a2 : Int) (mp : Mp), LMng.run (l01Byte.cfg n) n Try.f67 (annOf Try.f67 l01Byte.las) l01Byte.la l01Byte.lb (a0, (a1, (a2, mp))) = l01Byte.f n a0 a1 a2 := by
  intros
  kernel_rfl
theorem l01Byte.gof : GoF Try.prog 67 := ⟨_, Try.func67, by kernel_rfl, by kernel_rfl⟩
theorem l01Byte.sound (n : Nat) : LSound Try.prog 67 (l01Byte.mng n) := runL_sound (fn := Try.f67) (M := l01Byte.mng n) (c := l01Byte.cfg n) (regOK mixed (opOK (.of (c := l01Byte.cfg n) trivial) (.of (c := l01Byte.cfg n) trivial)) (tysOK tys16_ok)) (tysOK tys16_ok) Try.func67 (fun x => (l01Byte.eq n x.1 x.2.1 x.2.2.1 x.2.2.2).symm)

def l01Below.las : List (Nat × LA) := []
def l01Below.la : LA := ⟨[(0, .vptr 0 0), (1, .int .i64)], [(0, .cells [true, false, false] [.sh U8, .int .i64, .int .i64])], [], []⟩
def l01Below.lb : LA := ⟨[(0, .int .i64)], [(0, .cells [true, false, false] [.sh U8, .int .i64, .int .i64])], [], []⟩
noncomputable def l01Below.f (n : Nat) (a0 : Int) (a1 : List Int) (a2 : Int) (a3 : Int) : Option (Int × (List Int) × (Int × (Int × Unit))) := br (decide (a0 ≤ 0)) (some (0, (a1, (a2, (a3, ()))))) (br (decide (a0 ≤ 256)) ((l01Byte.f n a1 a2 a3).bind fun r2 => if a0 = 0 then none else some ((r2.1.tmod a0), (r2.2.1, (r2.2.2.1, (r2.2.2.2.1, ()))))) ((l01Byte.f n a1 a2 a3).bind fun r3 => (l01Byte.f n r3.2.1 r3.2.2.1 r3.2.2.2.1).bind fun r4 => (l01Byte.f n r4.2.1 r4.2.2.1 r4.2.2.2.1).bind fun r5 => (l01Byte.f n r5.2.1 r5.2.2.1 r5.2.2.2.1).bind fun r6 => if a0 = 0 then none else some (((w64 ((w64 ((w64 ((w64 (r3.1 * 16777216)) + (w64 (r4.1 * 65536)))) + (w64 (r5.1 * 256)))) + r6.1)).tmod a0), (r6.2.1, (r6.2.2.1, (r6.2.2.2.1, ()))))))
noncomputable def l01Below.mng (n : Nat) : LMng := ⟨l01Below.la, l01Below.lb, fun x => l01Below.f n x.1 x.2.1 x.2.2.1 x.2.2.2.1⟩
noncomputable def l01Below.cfg (n : Nat) : Cfg := ⟨tys16, [], [(67, l01Byte.mng n)], []⟩
theorem l01Below.eq : ∀ (n : Nat) (a0 : Int) (a1 : List Int) (a2 : Int) (a3 : Int) (mp : Mp), LMng.run (l01Below.cfg n) n Try.f46 (annOf Try.f46 l01Below.las) l01Below.la l01Below.lb (a0, (a1, (a2, (a3, mp)))) = l01Below.f n a0 a1 a2 a3 := by
  intros
  kernel_rfl
theorem l01Below.gof : GoF Try.prog 46 := ⟨_, Try.func46, by kernel_rfl, by kernel_rfl⟩
theorem l01Below.sound (n : Nat) : LSound Try.prog 46 (l01Below.mng n) := runL_sound (fn := Try.f46) (M := l01Below.mng n) (c := l01Below.cfg n) (regOK mixed (opOK (.of (c := l01Below.cfg n) trivial) (.of (c := l01Below.cfg n) ⟨⟨l01Byte.sound n, l01Byte.gof⟩, trivial⟩)) (tysOK tys16_ok)) (tysOK tys16_ok) Try.func46 (fun x => (l01Below.eq n x.1 x.2.1 x.2.2.1 x.2.2.2.1 x.2.2.2.2).symm)

def l01Once.las : List (Nat × LA) := []
def l01Once.la : LA := ⟨[(0, .vptr 0 0), (1, .int .i64)], [(0, .cells [true, false, false] [.sh U8, .int .i64, .int .i64])], [], []⟩
def l01Once.lb : LA := ⟨[(0, .bool)], [(0, .cells [true, false, false] [.sh U8, .int .i64, .int .i64])], [], []⟩
noncomputable def l01Once.f (n : Nat) (a0 : Int) (a1 : List Int) (a2 : Int) (a3 : Int) : Option (Bool × (List Int) × (Int × (Int × Unit))) := (l01Below.f n a0 a1 a2 a3).bind fun r1 => some ((decide (r1.1 = 0)), (r1.2.1, (r1.2.2.1, (r1.2.2.2.1, ()))))
noncomputable def l01Once.mng (n : Nat) : LMng := ⟨l01Once.la, l01Once.lb, fun x => l01Once.f n x.1 x.2.1 x.2.2.1 x.2.2.2.1⟩
noncomputable def l01Once.cfg (n : Nat) : Cfg := ⟨tys16, [], [(46, l01Below.mng n)], []⟩
theorem l01Once.eq : ∀ (n : Nat) (a0 : Int) (a1 : List Int) (a2 : Int) (a3 : Int) (mp : Mp), LMng.run (l01Once.cfg n) n Try.f48 (annOf Try.f48 l01Once.las) l01Once.la l01Once.lb (a0, (a1, (a2, (a3, mp)))) = l01Once.f n a0 a1 a2 a3 := by
  intros
  kernel_rfl
theorem l01Once.gof : GoF Try.prog 48 := ⟨_, Try.func48, by kernel_rfl, by kernel_rfl⟩
theorem l01Once.sound (n : Nat) : LSound Try.prog 48 (l01Once.mng n) := runL_sound (fn := Try.f48) (M := l01Once.mng n) (c := l01Once.cfg n) (regOK mixed (opOK (.of (c := l01Once.cfg n) trivial) (.of (c := l01Once.cfg n) ⟨⟨l01Below.sound n, l01Below.gof⟩, trivial⟩)) (tysOK tys16_ok)) (tysOK tys16_ok) Try.func48 (fun x => (l01Once.eq n x.1 x.2.1 x.2.2.1 x.2.2.2.1 x.2.2.2.2).symm)

def l7Graph.las : List (Nat × LA) := [(5, ⟨[(0, .vptr 0 0), (4, .own 1000 I), (5, .int .i64)], [(0, .cells [true, false, false] [.sh U8, .int .i64, .int .i64]), (1000, .row true I)], [2, 3], []⟩), (13, ⟨[(0, .vptr 0 0), (3, .vptr 1000 0), (6, .int .i64)], [(0, .cells [true, false, false] [.sh U8, .int .i64, .int .i64]), (1000, .cells [] [.int .i64, .own 1001 tEdge]), (1001, .row true tEdge)], [2, 4], []⟩), (14, ⟨[(35, .bool)], [], [0, 2, 3, 4, 6], [0]⟩), (21, ⟨[(0, .vptr 0 0), (76, .bool)], [(0, .cells [true, false, false] [.sh U8, .int .i64, .int .i64])], [2, 3, 4, 6, 10], []⟩), (22, ⟨[(0, .vptr 0 0), (10, .vptr 1000 0)], [(0, .cells [true, false, false] [.sh U8, .int .i64, .int .i64]), (1000, .cells [] [.int .i64, .int .i64, .int .i64, .int .i64, .int .i64])], [2, 3, 4, 6], []⟩), (25, ⟨[(0, .vptr 0 0), (10, .vptr 1000 0)], [(0, .cells [true, false, false] [.sh U8, .int .i64, .int .i64]), (1000, .cells [] [.int .i64, .int .i64, .int .i64, .int .i64, .int .i64])], [2, 3, 4, 6], []⟩)]
def l7Graph.la : LA := ⟨[(0, .vptr 0 0)], [(0, .cells [true, false, false] [.sh U8, .int .i64, .int .i64])], [], []⟩
def l7Graph.lb : LA := ⟨[(0, .agg [.int .i64, .own 1000 tEdge])], [(1000, .row true tEdge), (0, .cells [true, false, false] [.sh U8, .int .i64, .int .i64])], [], []⟩
noncomputable def l7Graph.f (n : Nat) (a0 : List Int) (a1 : Int) (a2 : Int) : Option (Int × (List Edge) × (List Int) × (Int × (Int × Unit))) := (l01Below.f n 6 a0 a1 a2).bind fun r1 => iter (α := (Int × (List Int) × (Int × (Int × (List Int) × Unit)))) n (fun ih14 x13 => br (decide (x13.1 < r1.1)) ((l01Below.f n 4 x13.2.1 x13.2.2.1 x13.2.2.2.1).bind fun r15 => chk ((x13.2.2.2.2.1.length + ([(w64 (1 + r15.1))] : List Int).length) * 8 ≤ maxB) (ih14 ((w64 (x13.1 + 1)), (r15.2.1, (r15.2.2.1, (r15.2.2.2.1, ((x13.2.2.2.2.1 ++ [(w64 (1 + r15.1))]), ()))))))) ((l01Below.f n 6 x13.2.1 x13.2.2.1 x13.2.2.2.1).bind fun r16 => iter (α := (Int × (List Int) × (Int × (Int × (Int × (List Edge) × Unit))))) n (fun ih61 x60 => cut (α := (Bool × Unit)) (br (decide (0 < x60.1)) (some (.inr ((decide (0 < x60.2.2.2.2.1)), ()))) (some (.inr (false, ())))) fun y62 => br y62.1 ((l01Below.f n x60.2.2.2.2.1 x60.2.1 x60.2.2.1 x60.2.2.2.1).bind fun r63 => (l01Below.f n x60.2.2.2.2.1 r63.2.1 r63.2.2.1 r63.2.2.2.1).bind fun r64 => chk (0 ≤ r63.1 ∧ r63.1 < (x13.2.2.2.2.1.length : Int)) (chk (0 ≤ r64.1 ∧ r64.1 < (x13.2.2.2.2.1.length : Int)) ((l7Gcd.f n (x13.2.2.2.2.1.getD r63.1.toNat 0) (x13.2.2.2.2.1.getD r64.1.toNat 0)).bind fun r65 => chk (0 ≤ r64.1 ∧ r64.1 < (x13.2.2.2.2.1.length : Int)) (if r65.1 = 0 then none else chk (0 ≤ r63.1 ∧ r63.1 < (x13.2.2.2.2.1.length : Int)) (if r65.1 = 0 then none else cut (α := (Bool × (List Int) × (Int × (Int × Unit)))) (br (decide (r64.1 ≤ r63.1)) (some (.inr (true, (r64.2.1, (r64.2.2.1, (r64.2.2.2.1, ())))))) ((l01Once.f n 4 r64.2.1 r64.2.2.1 r64.2.2.2.1).bind fun r68 => some (.inr (r68.1, (r68.2.1, (r68.2.2.1, (r68.2.2.2.1, ()))))))) fun y67 => cut (α := ((List Int) × (Int × (Int × (Int × (Int × (Int × (Int × (Int × Unit))))))))) (br y67.1 ((l01Below.f n 12 y67.2.1 y67.2.2.1 y67.2.2.2.1).bind fun r71 => some (.inr (r71.2.1, (r71.2.2.1, (r71.2.2.2.1, (r63.1, (r64.1, ((w64 ((x13.2.2.2.2.1.getD r64.1.toNat 0).tdiv r65.1)), ((w64 ((x13.2.2.2.2.1.getD r63.1.toNat 0).tdiv r65.1)), (r71.1, ())))))))))) (some (.inr (y67.2.1, (y67.2.2.1, (y67.2.2.2.1, (r63.1, (r64.1, ((w64 ((x13.2.2.2.2.1.getD r64.1.toNat 0).tdiv r65.1)), ((w64 ((x13.2.2.2.2.1.getD r63.1.toNat 0).tdiv r65.1)), (0, ()))))))))))) fun y70 => (l01Once.f n 15 y70.1 y70.2.1 y70.2.2.1).bind fun r72 => cut (α := ((List Int) × (Int × (Int × (Int × (Int × (Int × (Int × (Int × Unit))))))))) (br r72.1 ((l01Below.f n 5 r72.2.1 r72.2.2.1 r72.2.2.2.1).bind fun r75 => some (.inr (r75.2.1, (r75.2.2.1, (r75.2.2.2.1, (y70.2.2.2.1, (y70.2.2.2.2.1, ((w64 (1 + r75.1)), (y70.2.2.2.2.2.2.1, (y70.2.2.2.2.2.2.2.1, ())))))))))) (some (.inr (r72.2.1, (r72.2.2.1, (r72.2.2.2.1, (y70.2.2.2.1, (y70.2.2.2.2.1, (y70.2.2.2.2.2.1, (y70.2.2.2.2.2.2.1, (y70.2.2.2.2.2.2.2.1, ()))))))))))) fun y74 => chk ((x60.2.2.2.2.2.1.length + ([(y74.2.2.2.1, (y74.2.2.2.2.1, (y74.2.2.2.2.2.1, (y74.2.2.2.2.2.2.1, y74.2.2.2.2.2.2.2.1))))] : List Edge).length) * 40 ≤ maxB) (ih61 ((w64 (x60.1 - 1)), (y74.1, (y74.2.1, (y74.2.2.1, (x60.2.2.2.2.1, ((x60.2.2.2.2.2.1 ++ [(y74.2.2.2.1, (y74.2.2.2.2.1, (y74.2.2.2.2.2.1, (y74.2.2.2.2.2.2.1, y74.2.2.2.2.2.2.2.1))))]), ())))))))))))) (some (x60.2.2.2.2.1, (x60.2.2.2.2.2.1, (x60.2.1, (x60.2.2.1, (x60.2.2.2.1, ()))))))) (r16.1, (r16.2.1, (r16.2.2.1, (r16.2.2.2.1, (r1.1, ([], ())))))))) (0, (r1.2.1, (r1.2.2.1, (r1.2.2.2.1, ([], ())))))
noncomputable def l7Graph.mng (n : Nat) : LMng := ⟨l7Graph.la, l7Graph.lb, fun x => l7Graph.f n x.1 x.2.1 x.2.2.1⟩
noncomputable def l7Graph.cfg (n : Nat) : Cfg := ⟨tys16, [(47, l7Gcd.mng n)], [(46, l01Below.mng n), (48, l01Once.mng n)], []⟩
theorem l7Graph.eq : ∀ (n : Nat) (a0 : List Int) (a1 : Int) (a2 : Int) (mp : Mp), LMng.run (l7Graph.cfg n) n Try.f16 (annOf Try.f16 l7Graph.las) l7Graph.la l7Graph.lb (a0, (a1, (a2, mp))) = l7Graph.f n a0 a1 a2 := by
  intros
  kernel_rfl
theorem l7Graph.gof : GoF Try.prog 16 := ⟨_, Try.func16, by kernel_rfl, by kernel_rfl⟩
theorem l7Graph.sound (n : Nat) : LSound Try.prog 16 (l7Graph.mng n) := runL_sound (fn := Try.f16) (M := l7Graph.mng n) (c := l7Graph.cfg n) (regOK mixed (opOK (.of (c := l7Graph.cfg n) ⟨⟨l7Gcd.sound n, l7Gcd.gof⟩, trivial⟩) (.of (c := l7Graph.cfg n) ⟨⟨l01Below.sound n, l01Below.gof⟩, ⟨⟨l01Once.sound n, l01Once.gof⟩, trivial⟩⟩)) (tysOK tys16_ok)) (tysOK tys16_ok) Try.func16 (fun x => (l7Graph.eq n x.1 x.2.1 x.2.2.1 x.2.2.2).symm)

def makeGraph.las : List (Nat × LA) := []
noncomputable def makeGraph.f (n : Nat) (a0 : List Int) : Option (Graph × Unit) := (curNew.f n a0).bind fun r1 => (l7Graph.f n r1.1 r1.2.1 r1.2.2.1).bind fun r2 => some ((r2.1, r2.2.1), ())
noncomputable def makeGraph.mng (n : Nat) : Mng := ⟨[.val (.sl U8)], [.sh tGraph], fun x => makeGraph.f n x.1⟩
noncomputable def makeGraph.cfg (n : Nat) : Cfg := ⟨tys16, [], [(17, curNew.mng n), (16, l7Graph.mng n)], []⟩
theorem makeGraph.eq : ∀ (n : Nat) (a0 : List Int), runF (makeGraph.cfg n) n Try.f4 (annOf Try.f4 makeGraph.las) [.val (.sl U8)] [.sh tGraph] (a0, ()) = makeGraph.f n a0 := by
  intros
  kernel_rfl
theorem makeGraph.gof : GoF Try.prog 4 := ⟨_, Try.func4, by kernel_rfl, by kernel_rfl⟩
theorem makeGraph.sound (n : Nat) : Sound Try.prog 4 (makeGraph.mng n) := runF_sound (fn := Try.f4) (m := makeGraph.mng n) (c := makeGraph.cfg n) (regOK mixed (opOK (.of (c := makeGraph.cfg n) trivial) (.of (c := makeGraph.cfg n) ⟨⟨curNew.sound n, curNew.gof⟩, ⟨⟨l7Graph.sound n, l7Graph.gof⟩, trivial⟩⟩)) (tysOK tys16_ok)) (tysOK tys16_ok) Try.func4 (fun x => (makeGraph.eq n x.1).symm)

def lawAt.las : List (Nat × LA) := []
noncomputable def lawAt.f (n : Nat) (a0 : List Int) (a1 : Int) : Option (Int × Unit) := br (decide (a1 < (a0.length : Int))) (chk (0 ≤ a1 ∧ a1 < (a0.length : Int)) (some ((w64 ((a0.getD a1.toNat 0))), ()))) (some (((w64 ((w64 (a1 * 37)) + (w64 ((a0.length : Int) * 11)))).tmod 256), ()))
noncomputable def lawAt.mng (n : Nat) : Mng := ⟨[.val (.sl U8), .val I], [.val I], fun x => lawAt.f n x.1 x.2.1⟩
noncomputable def lawAt.cfg (n : Nat) : Cfg := ⟨tys16, [], [], []⟩
theorem lawAt.eq : ∀ (n : Nat) (a0 : List Int) (a1 : Int), runF (lawAt.cfg n) n Try.f10 (annOf Try.f10 lawAt.las) [.val (.sl U8), .val I] [.val I] (a0, (a1, ())) = lawAt.f n a0 a1 := by
  intros
  kernel_rfl
theorem lawAt.gof : GoF Try.prog 10 := ⟨_, Try.func10, by kernel_rfl, by kernel_rfl⟩
theorem lawAt.sound (n : Nat) : Sound Try.prog 10 (lawAt.mng n) := runF_sound (fn := Try.f10) (m := lawAt.mng n) (c := lawAt.cfg n) (regOK mixed (opOK (.of (c := lawAt.cfg n) trivial) (.of (c := lawAt.cfg n) trivial)) (tysOK tys16_ok)) (tysOK tys16_ok) Try.func10 (fun x => (lawAt.eq n x.1 x.2.1).symm)

def intsF.las : List (Nat × LA) := [(6, ⟨[(13, .int .i64)], [], [0, 1, 12], []⟩)]
noncomputable def intsF.f (n : Nat) (a0 : List Int) (a1 : List Int) : Option (Bool × Unit) := br (!decide ((a0.length : Int) = (a1.length : Int))) (some (false, ())) (iter (α := (Int × Unit)) n (fun ih6 x5 => br (decide (x5.1 < (a0.length : Int))) (chk (0 ≤ x5.1 ∧ x5.1 < (a0.length : Int)) (chk (0 ≤ x5.1 ∧ x5.1 < (a1.length : Int)) (br (!decide ((a0.getD x5.1.toNat 0) = (a1.getD x5.1.toNat 0))) (some (false, ())) (ih6 ((w64 (x5.1 + 1)), ()))))) (some (true, ()))) (0, ()))
noncomputable def intsF.mng (n : Nat) : Mng := ⟨[.val IS, .val IS], [.val .bool], fun x => intsF.f n x.1 x.2.1⟩
noncomputable def intsF.cfg (n : Nat) : Cfg := ⟨tys16, [], [], []⟩
theorem intsF.eq : ∀ (n : Nat) (a0 : List Int) (a1 : List Int), runF (intsF.cfg n) n Try.f15 (annOf Try.f15 intsF.las) [.val IS, .val IS] [.val .bool] (a0, (a1, ())) = intsF.f n a0 a1 := by
  intros
  kernel_rfl
theorem intsF.gof : GoF Try.prog 15 := ⟨_, Try.func15, by kernel_rfl, by kernel_rfl⟩
theorem intsF.sound (n : Nat) : Sound Try.prog 15 (intsF.mng n) := runF_sound (fn := Try.f15) (m := intsF.mng n) (c := intsF.cfg n) (regOK mixed (opOK (.of (c := intsF.cfg n) trivial) (.of (c := intsF.cfg n) trivial)) (tysOK tys16_ok)) (tysOK tys16_ok) Try.func15 (fun x => (intsF.eq n x.1 x.2.1).symm)
end Go.AmT
