/- Functions that the law FnJoined reaches, each as a plain Lean function, and that each does what that says. No condition. -/
import Derived.Test.YtgepghodhnmhjaaGreatPGen
import Derived.Test.YtgepghodhnmhjaaGreatPGenN
namespace Go.AmT
open Go Go.Am Go.Proofs
set_option linter.unusedVariables false
set_option maxRecDepth 100000
def tys6 : List (Nat × TInfo) := [(3, ⟨false, 1, 8, [.int .i64 0], .int .i64, 0, some I, [], false⟩),
  (5, ⟨false, 1, 1, [.int .u8 0], .int .u8, 0, some U8, [], false⟩),
  (22, ⟨false, 1, 24, [.nil], .slice, 5, some (.sl U8), [], false⟩),
  (36, ⟨false, 1, 24, [.nil], .slice, 3, some IS, [], false⟩)]
theorem tys6_ok : (tys6.all fun p => tokB Tryz.prog p.1 p.2) = true := by kernel_rfl

def fresh.las : List (Nat × LA) := [(4, ⟨[(5, .own 1000 U8), (6, .int .i64)], [(1000, .row true U8)], [0, 1], []⟩), (5, ⟨[(17, .bool)], [], [0, 1, 5, 6], []⟩)]
noncomputable def fresh.f (n : Nat) (a0 : List Int) (a1 : Int) : Option ((List Int) × Unit) := iter (α := (Int × (List Int) × Unit)) n (fun ih7 x6 => cut (α := (Bool × Unit)) (br (decide (x6.1 < (a0.length : Int))) (some (.inr ((decide (x6.1 < 600)), ()))) (some (.inr (false, ())))) fun y8 => br y8.1 (chk (0 ≤ x6.1 ∧ x6.1 < (a0.length : Int)) (chk ((x6.2.1.length + ([(IntKind.wrap .u8 ((w64 ((w64 ((w64 ((a0.getD x6.1.toNat 0))) * 3)) + (w64 (a1 * (w64 ((x6.1.tmod 7) + 1))))))))] : List Int).length) * 1 ≤ maxB) (ih7 ((w64 (x6.1 + 1)), ((x6.2.1 ++ [(IntKind.wrap .u8 ((w64 ((w64 ((w64 ((a0.getD x6.1.toNat 0))) * 3)) + (w64 (a1 * (w64 ((x6.1.tmod 7) + 1))))))))]), ()))))) (some (x6.2.1, ()))) (0, ([(IntKind.wrap .u8 (a1))], ()))
noncomputable def fresh.mng (n : Nat) : Mng := ⟨[.val (.sl U8), .val I], [.sh (.sl U8)], fun x => fresh.f n x.1 x.2.1⟩
noncomputable def fresh.cfg (n : Nat) : Cfg := ⟨tys6, [], [], []⟩
theorem fresh.eq : ∀ (n : Nat) (a0 : List Int) (a1 : Int), runF (fresh.cfg n) n Tryz.f5 (annOf Tryz.f5 fresh.las) [.val (.sl U8), .val I] [.sh (.sl U8)] (a0, (a1, ())) = fresh.f n a0 a1 := by
  intros
  kernel_rfl
theorem fresh.gof : GoF Tryz.prog 5 := ⟨_, Tryz.func5, by kernel_rfl, by kernel_rfl⟩
theorem fresh.sound (n : Nat) : Sound Tryz.prog 5 (fresh.mng n) := runF_sound (fn := Tryz.f5) (m := fresh.mng n) (c := fresh.cfg n) (regOK mixed (opOK (.of (c := fresh.cfg n) trivial) (.of (c := fresh.cfg n) trivial)) (tysOK tys6_ok)) (tysOK tys6_ok) Tryz.func5 (fun x => (fresh.eq n x.1 x.2.1).symm)

def l3Shuffle.las : List (Nat × LA) := [(4, ⟨[(0, .vptr 0 0), (5, .own 1000 I), (6, .int .i64)], [(0, .cells [true, false, false] [.sh U8, .int .i64, .int .i64]), (1000, .row true I)], [1], []⟩)]
def l3Shuffle.la : LA := ⟨[(0, .vptr 0 0), (1, .int .i64)], [(0, .cells [true, false, false] [.sh U8, .int .i64, .int .i64])], [], []⟩
def l3Shuffle.lb : LA := ⟨[(0, .own 1000 I)], [(1000, .row true I), (0, .cells [true, false, false] [.sh U8, .int .i64, .int .i64])], [], []⟩
noncomputable def l3Shuffle.f (n : Nat) (a0 : Int) (a1 : List Int) (a2 : Int) (a3 : Int) : Option ((List Int) × (List Int) × (Int × (Int × Unit))) := iter (α := (Int × (List Int) × (Int × (Int × (List Int) × Unit)))) n (fun ih10 x9 => br (decide (x9.1 < a0)) ((l01Below.f n (w64 (x9.1 + 1)) x9.2.1 x9.2.2.1 x9.2.2.2.1).bind fun r11 => chk ((x9.2.2.2.2.1.length + ([x9.1] : List Int).length) * 8 ≤ maxB) (chk (0 ≤ r11.1 ∧ r11.1 < ((x9.2.2.2.2.1 ++ [x9.1]).length : Int)) (chk (0 ≤ x9.1 ∧ x9.1 < ((x9.2.2.2.2.1 ++ [x9.1]).length : Int)) (let v12 := ((x9.2.2.2.2.1 ++ [x9.1]).set x9.1.toNat ((x9.2.2.2.2.1 ++ [x9.1]).getD r11.1.toNat 0)); chk (0 ≤ r11.1 ∧ r11.1 < (v12.length : Int)) (let v13 := (v12.set r11.1.toNat x9.1); ih10 ((w64 (x9.1 + 1)), (r11.2.1, (r11.2.2.1, (r11.2.2.2.1, (v13, ())))))))))) (some (x9.2.2.2.2.1, (x9.2.1, (x9.2.2.1, (x9.2.2.2.1, ())))))) (0, (a1, (a2, (a3, ([], ())))))
noncomputable def l3Shuffle.mng (n : Nat) : LMng := ⟨l3Shuffle.la, l3Shuffle.lb, fun x => l3Shuffle.f n x.1 x.2.1 x.2.2.1 x.2.2.2.1⟩
noncomputable def l3Shuffle.cfg (n : Nat) : Cfg := ⟨tys6, [], [(37, l01Below.mng n)], []⟩
theorem l3Shuffle.eq : ∀ (n : Nat) (a0 : Int) (a1 : List Int) (a2 : Int) (a3 : Int) (mp : Mp), LMng.run (l3Shuffle.cfg n) n Tryz.f35 (annOf Tryz.f35 l3Shuffle.las) l3Shuffle.la l3Shuffle.lb (a0, (a1, (a2, (a3, mp)))) = l3Shuffle.f n a0 a1 a2 a3 := by
  intros
  kernel_rfl
theorem l3Shuffle.gof : GoF Tryz.prog 35 := ⟨_, Tryz.func35, by kernel_rfl, by kernel_rfl⟩
theorem l3Shuffle.sound (n : Nat) : LSound Tryz.prog 35 (l3Shuffle.mng n) := runL_sound (fn := Tryz.f35) (M := l3Shuffle.mng n) (c := l3Shuffle.cfg n) (regOK mixed (opOK (.of (c := l3Shuffle.cfg n) trivial) (.of (c := l3Shuffle.cfg n) ⟨⟨l01Below.sound n, l01Below.gof⟩, trivial⟩)) (tysOK tys6_ok)) (tysOK tys6_ok) Tryz.func35 (fun x => (l3Shuffle.eq n x.1 x.2.1 x.2.2.1 x.2.2.2.1 x.2.2.2.2).symm)

def makeOrder.las : List (Nat × LA) := []
noncomputable def makeOrder.f (n : Nat) (a0 : List Int) (a1 : Int) : Option ((List Int) × Unit) := (curNew.f n a0).bind fun r1 => (l3Shuffle.f n (max 0 (min a1 20)) r1.1 r1.2.1 r1.2.2.1).bind fun r2 => some (r2.1, ())
noncomputable def makeOrder.mng (n : Nat) : Mng := ⟨[.val (.sl U8), .val I], [.sh IS], fun x => makeOrder.f n x.1 x.2.1⟩
noncomputable def makeOrder.cfg (n : Nat) : Cfg := ⟨tys6, [], [(14, curNew.mng n), (35, l3Shuffle.mng n)], []⟩
theorem makeOrder.eq : ∀ (n : Nat) (a0 : List Int) (a1 : Int), runF (makeOrder.cfg n) n Tryz.f12 (annOf Tryz.f12 makeOrder.las) [.val (.sl U8), .val I] [.sh IS] (a0, (a1, ())) = makeOrder.f n a0 a1 := by
  intros
  kernel_rfl
theorem makeOrder.gof : GoF Tryz.prog 12 := ⟨_, Tryz.func12, by kernel_rfl, by kernel_rfl⟩
theorem makeOrder.sound (n : Nat) : Sound Tryz.prog 12 (makeOrder.mng n) := runF_sound (fn := Tryz.f12) (m := makeOrder.mng n) (c := makeOrder.cfg n) (regOK mixed (opOK (.of (c := makeOrder.cfg n) trivial) (.of (c := makeOrder.cfg n) ⟨⟨curNew.sound n, curNew.gof⟩, ⟨⟨l3Shuffle.sound n, l3Shuffle.gof⟩, trivial⟩⟩)) (tysOK tys6_ok)) (tysOK tys6_ok) Tryz.func12 (fun x => (makeOrder.eq n x.1 x.2.1).symm)
end Go.AmT
