/- Functions that the law FnExactParseProgram reaches, each as a plain Lean function, and that each does what that says. No condition. -/
import Derived.Test.YtgddbcdkhfdojaaDoorPTxtK
import Derived.Test.YtgddbcdkhfdojaaDoorPMarkI
namespace Go.AmT
open Go Go.Am Go.Proofs
set_option linter.unusedVariables false
set_option maxRecDepth 100000
def tys8 : List (Nat × TInfo) := [(3, ⟨false, 1, 8, [.int .i64 0], .int .i64, 0, some I, [], false⟩),
  (4, ⟨false, 1, 1, [.bool false], .bool, 0, some .bool, [], false⟩),
  (9, ⟨false, 1, 16, [.str []], .str, 0, some .str, [], false⟩),
  (35, ⟨true, 3, 40, [.int .i64 0, .int .i64 0, .nil], .struct, 0, some tProgram, [(0, 3), (1, 3), (2, 33)], false⟩)]
theorem tys8_ok : (tys8.all fun p => tokB Tryd.prog p.1 p.2) = true := by kernel_rfl

def law.las : List (Nat × LA) := [(6, ⟨[(32, .bool)], [], [0, 3, 4, 5], []⟩), (20, ⟨[(57, .bool)], [], [5, 7], []⟩)]
noncomputable def law.f (n : Nat) (a0 : List UInt8) : Option (Bool × Unit) := br (decide (1048576 < (a0.length : Int))) (some (true, ())) ((sParseProgram.f n a0).bind fun r1 => (iParseProgram.f n a0).bind fun r2 => cut (α := (Bool × Unit)) ((eqProgram.f n r2.1 r1.1).bind fun r5 => br (!r5.1) (some (.inr (true, ()))) (some (.inr ((!decide (r2.2.1 = r1.2.1)), ())))) fun y4 => br y4.1 (some (false, ())) ((markProgram.f n r2.1 1).bind fun r6 => (heldProgram.f n (r2.1.1, (r2.1.2.1, r6.2.1)) 1).bind fun r7 => br (decide (r7.1 < 0)) (some (false, ())) (br (!decide (r7.1 = r6.1)) (some (false, ())) ((iParseProgram.f n a0).bind fun r8 => cut (α := (Bool × Unit)) ((eqProgram.f n r8.1 r1.1).bind fun r11 => br (!r11.1) (some (.inr (true, ()))) (some (.inr ((!decide (r8.2.1 = r1.2.1)), ())))) fun y10 => br y10.1 (some (false, ())) ((heldProgram.f n (r2.1.1, (r2.1.2.1, r6.2.1)) 1).bind fun r12 => br (decide (r12.1 < 0)) (some (false, ())) (br (!decide (r12.1 = r6.1)) (some (false, ())) (some (true, ()))))))))
noncomputable def law.mng (n : Nat) : Mng := ⟨[.val .str], [.val .bool], fun x => law.f n x.1⟩
noncomputable def law.cfg (n : Nat) : Cfg := ⟨tys8, [(30, sParseProgram.mng n), (31, iParseProgram.mng n), (16, eqProgram.mng n), (32, markProgram.mng n), (33, heldProgram.mng n)], [], []⟩
theorem law.eq : ∀ (n : Nat) (a0 : List UInt8), runF (law.cfg n) n Tryd.f8 (annOf Tryd.f8 law.las) [.val .str] [.val .bool] (a0, ()) = law.f n a0 := by
  intros
  kernel_rfl
theorem law.sound (n : Nat) : Sound Tryd.prog 8 (law.mng n) := runF_sound (fn := Tryd.f8) (m := law.mng n) (c := law.cfg n) (regOK mixed (opOK (.of (c := law.cfg n) ⟨⟨sParseProgram.sound n, sParseProgram.gof⟩, ⟨⟨iParseProgram.sound n, iParseProgram.gof⟩, ⟨⟨eqProgram.sound n, eqProgram.gof⟩, ⟨⟨markProgram.sound n, markProgram.gof⟩, ⟨⟨heldProgram.sound n, heldProgram.gof⟩, trivial⟩⟩⟩⟩⟩) (.of (c := law.cfg n) trivial)) (tysOK tys8_ok)) (tysOK tys8_ok) Tryd.func8 (fun x => (law.eq n x.1).symm)
end Go.AmT
