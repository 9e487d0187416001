/- Functions that the law FnBounded reaches, each as a plain Lean function, and that each does what that says. No condition. -/
import Derived.Test.YtgepghodhnmhjaaPGen
namespace Go.AmT
open Go Go.Am Go.Proofs
set_option linter.unusedVariables false
set_option maxRecDepth 100000
def tys14 : List (Nat × TInfo) := [(3, ⟨false, 1, 8, [.int .i64 0], .int .i64, 0, some I, [], false⟩),
  (5, ⟨false, 1, 1, [.int .u8 0], .int .u8, 0, some U8, [], false⟩),
  (22, ⟨false, 1, 24, [.nil], .slice, 5, some (.sl U8), [], false⟩),
  (23, ⟨false, 1, 24, [.nil], .slice, 71, some (.sl tProgram), [], false⟩),
  (24, ⟨false, 1, 24, [.nil], .slice, 53, some (.sl tLink), [], false⟩),
  (26, ⟨true, 2, 48, [.nil, .nil], .struct, 0, some tNetwork, [(0, 23), (1, 24)], false⟩),
  (33, ⟨true, 4, 80, [.nil, .nil, .nil, .int .i64 0], .struct, 0, some tState, [(0, 30), (1, 31), (2, 31), (3, 3)], false⟩),
  (37, ⟨false, 1, 24, [.nil], .slice, 3, some IS, [], false⟩),
  (53, ⟨true, 5, 56, [.int .i64 0, .int .i64 0, .int .i64 0, .int .i64 0, .nil], .struct, 0, some tLink, [(0, 3), (1, 3), (2, 3), (3, 3), (4, 37)], false⟩)]
theorem tys14_ok : (tys14.all fun p => tokB Try.prog p.1 p.2) = true := by kernel_rfl

def makeCaps.las : List (Nat × LA) := [(5, ⟨[(5, .vptr 1000 0), (6, .own 1001 I), (15, .int .i64)], [(1000, .cells [] [.sh U8, .int .i64, .int .i64]), (1001, .row true I)], [13, 14], []⟩)]
noncomputable def makeCaps.f (n : Nat) (a0 : List Int) (a1 : Network) : Option ((List Int) × Unit) := (curNew.f n a0).bind fun r1 => iter (α := (Int × (List Int) × (Int × (Int × (List Int) × Unit)))) n (fun ih11 x10 => br (decide (x10.1 < (a1.2.length : Int))) (chk (0 ≤ x10.1 ∧ x10.1 < (a1.2.length : Int)) (let v12 := (a1.2.getD x10.1.toNat zLink); (l01Below.f n 4 x10.2.1 x10.2.2.1 x10.2.2.2.1).bind fun r13 => chk ((x10.2.2.2.2.1.length + ([(w64 ((v12.2.2.2.2.length : Int) + r13.1))] : List Int).length) * 8 ≤ maxB) (ih11 ((w64 (x10.1 + 1)), (r13.2.1, (r13.2.2.1, (r13.2.2.2.1, ((x10.2.2.2.2.1 ++ [(w64 ((v12.2.2.2.2.length : Int) + r13.1))]), ())))))))) (some (x10.2.2.2.2.1, ()))) (0, (r1.1, (r1.2.1, (r1.2.2.1, ([], ())))))
noncomputable def makeCaps.mng (n : Nat) : Mng := ⟨[.val (.sl U8), .val tNetwork], [.sh IS], fun x => makeCaps.f n x.1 x.2.1⟩
noncomputable def makeCaps.cfg (n : Nat) : Cfg := ⟨tys14, [], [(54, curNew.mng n), (73, l01Below.mng n)], []⟩
theorem makeCaps.eq : ∀ (n : Nat) (a0 : List Int) (a1 : Network), runF (makeCaps.cfg n) n Try.f29 (annOf Try.f29 makeCaps.las) [.val (.sl U8), .val tNetwork] [.sh IS] (a0, (a1, ())) = makeCaps.f n a0 a1 := by
  intros
  kernel_rfl
theorem makeCaps.gof : GoF Try.prog 29 := ⟨_, Try.func29, by kernel_rfl, by kernel_rfl⟩
theorem makeCaps.sound (n : Nat) : Sound Try.prog 29 (makeCaps.mng n) := runF_sound (fn := Try.f29) (m := makeCaps.mng n) (c := makeCaps.cfg n) (regOK mixed (opOK (.of (c := makeCaps.cfg n) trivial) (.of (c := makeCaps.cfg n) ⟨⟨curNew.sound n, curNew.gof⟩, ⟨⟨l01Below.sound n, l01Below.gof⟩, trivial⟩⟩)) (tysOK tys14_ok)) (tysOK tys14_ok) Try.func29 (fun x => (makeCaps.eq n x.1 x.2.1).symm)

def fresh.las : List (Nat × LA) := [(4, ⟨[(5, .own 1000 U8), (6, .int .i64)], [(1000, .row true U8)], [0, 1], []⟩), (5, ⟨[(17, .bool)], [], [0, 1, 5, 6], []⟩)]
noncomputable def fresh.f (n : Nat) (a0 : List Int) (a1 : Int) : Option ((List Int) × Unit) := iter (α := (Int × (List Int) × Unit)) n (fun ih7 x6 => cut (α := (Bool × Unit)) (br (decide (x6.1 < (a0.length : Int))) (some (.inr ((decide (x6.1 < 600)), ()))) (some (.inr (false, ())))) fun y8 => br y8.1 (chk (0 ≤ x6.1 ∧ x6.1 < (a0.length : Int)) (chk ((x6.2.1.length + ([(IntKind.wrap .u8 ((w64 ((w64 ((w64 ((a0.getD x6.1.toNat 0))) * 3)) + (w64 (a1 * (w64 ((x6.1.tmod 7) + 1))))))))] : List Int).length) * 1 ≤ maxB) (ih7 ((w64 (x6.1 + 1)), ((x6.2.1 ++ [(IntKind.wrap .u8 ((w64 ((w64 ((w64 ((a0.getD x6.1.toNat 0))) * 3)) + (w64 (a1 * (w64 ((x6.1.tmod 7) + 1))))))))]), ()))))) (some (x6.2.1, ()))) (0, ([(IntKind.wrap .u8 (a1))], ()))
noncomputable def fresh.mng (n : Nat) : Mng := ⟨[.val (.sl U8), .val I], [.sh (.sl U8)], fun x => fresh.f n x.1 x.2.1⟩
noncomputable def fresh.cfg (n : Nat) : Cfg := ⟨tys14, [], [], []⟩
theorem fresh.eq : ∀ (n : Nat) (a0 : List Int) (a1 : Int), runF (fresh.cfg n) n Try.f23 (annOf Try.f23 fresh.las) [.val (.sl U8), .val I] [.sh (.sl U8)] (a0, (a1, ())) = fresh.f n a0 a1 := by
  intros
  kernel_rfl
theorem fresh.gof : GoF Try.prog 23 := ⟨_, Try.func23, by kernel_rfl, by kernel_rfl⟩
theorem fresh.sound (n : Nat) : Sound Try.prog 23 (fresh.mng n) := runF_sound (fn := Try.f23) (m := fresh.mng n) (c := fresh.cfg n) (regOK mixed (opOK (.of (c := fresh.cfg n) trivial) (.of (c := fresh.cfg n) trivial)) (tysOK tys14_ok)) (tysOK tys14_ok) Try.func23 (fun x => (fresh.eq n x.1 x.2.1).symm)

end Go.AmT
