/- Functions that the law FnExactParseNetwork reaches, each as a plain Lean function, and that each does what that says. No condition. -/
import Derived.Test.YtgddbcdkhfdojaaGreatDoorPTxtM
import Derived.Test.YtgddbcdkhfdojaaGreatDoorPMark
import Derived.Test.YtgddbcdkhfdojaaGreatDoorPMarkH
namespace Go.AmT
open Go Go.Am Go.Proofs
set_option linter.unusedVariables false
set_option maxRecDepth 100000
def tys11 : List (Nat × TInfo) := [(3, ⟨false, 1, 8, [.int .i64 0], .int .i64, 0, some I, [], false⟩),
  (4, ⟨false, 1, 1, [.bool false], .bool, 0, some .bool, [], false⟩),
  (9, ⟨false, 1, 16, [.str []], .str, 0, some .str, [], false⟩),
  (25, ⟨true, 2, 48, [.nil, .nil], .struct, 0, some tNetwork, [(0, 22), (1, 23)], false⟩)]
theorem tys11_ok : (tys11.all fun p => tokB Tryz.prog p.1 p.2) = true := by kernel_rfl

def law.las : List (Nat × LA) := [(6, ⟨[(32, .bool)], [], [0, 3, 4, 5], []⟩), (20, ⟨[(57, .bool)], [], [5, 7], []⟩)]
noncomputable def law.f (n : Nat) (a0 : List UInt8) : Option (Bool × Unit) := br (decide (1048576 < (a0.length : Int))) (some (true, ())) ((sParseNetwork.f n a0).bind fun r1 => (iParseNetwork.f n a0).bind fun r2 => cut (α := (Bool × Unit)) ((eqNetwork.f n r2.1 r1.1).bind fun r5 => br (!r5.1) (some (.inr (true, ()))) (some (.inr ((!decide (r2.2.1 = r1.2.1)), ())))) fun y4 => br y4.1 (some (false, ())) ((markNetwork.f n r2.1 1).bind fun r6 => (heldNetwork.f n (r6.2.1, r6.2.2.1) 1).bind fun r7 => br (decide (r7.1 < 0)) (some (false, ())) (br (!decide (r7.1 = r6.1)) (some (false, ())) ((iParseNetwork.f n a0).bind fun r8 => cut (α := (Bool × Unit)) ((eqNetwork.f n r8.1 r1.1).bind fun r11 => br (!r11.1) (some (.inr (true, ()))) (some (.inr ((!decide (r8.2.1 = r1.2.1)), ())))) fun y10 => br y10.1 (some (false, ())) ((heldNetwork.f n (r6.2.1, r6.2.2.1) 1).bind fun r12 => br (decide (r12.1 < 0)) (some (false, ())) (br (!decide (r12.1 = r6.1)) (some (false, ())) (some (true, ()))))))))
noncomputable def law.mng (n : Nat) : Mng := ⟨[.val .str], [.val .bool], fun x => law.f n x.1⟩
noncomputable def law.cfg (n : Nat) : Cfg := ⟨tys11, [(7, sParseNetwork.mng n), (8, iParseNetwork.mng n), (9, eqNetwork.mng n), (10, markNetwork.mng n), (11, heldNetwork.mng n)], [], []⟩
theorem law.eq : ∀ (n : Nat) (a0 : List UInt8), runF (law.cfg n) n Tryz.f3 (annOf Tryz.f3 law.las) [.val .str] [.val .bool] (a0, ()) = law.f n a0 := by
  intros
  kernel_rfl
theorem law.sound (n : Nat) : Sound Tryz.prog 3 (law.mng n) := runF_sound (fn := Tryz.f3) (m := law.mng n) (c := law.cfg n) (regOK mixed (opOK (.of (c := law.cfg n) ⟨⟨sParseNetwork.sound n, sParseNetwork.gof⟩, ⟨⟨iParseNetwork.sound n, iParseNetwork.gof⟩, ⟨⟨eqNetwork.sound n, eqNetwork.gof⟩, ⟨⟨markNetwork.sound n, markNetwork.gof⟩, ⟨⟨heldNetwork.sound n, heldNetwork.gof⟩, trivial⟩⟩⟩⟩⟩) (.of (c := law.cfg n) trivial)) (tysOK tys11_ok)) (tysOK tys11_ok) Tryz.func3 (fun x => (law.eq n x.1).symm)
end Go.AmT
