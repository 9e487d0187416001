/- Functions that the law FnExactParseNetwork reaches, each as a plain Lean function, and that each does what that says. No condition. -/
import Derived.Test.YtgddbcdkhfdojaaGreatDoorPTxtR
namespace Go.AmT
open Go Go.Am Go.Proofs
set_option linter.unusedVariables false
set_option maxRecDepth 100000
def tys9 : List (Nat × TInfo) := [(9, ⟨false, 1, 16, [.str []], .str, 0, some .str, [], false⟩)]
theorem tys9_ok : (tys9.all fun p => tokB Tryz.prog p.1 p.2) = true := by kernel_rfl

noncomputable def hasSufC.f (n : Nat) (a0 : List UInt8) (a1 : List UInt8) : Option (Bool × Unit) := hasSufF a0 a1
noncomputable def hasSufC.mng (n : Nat) : Mng := ⟨[.val .str, .val .str], [.val .bool], fun x => hasSufC.f n x.1 x.2.1⟩
theorem hasSufC.gof : GoF Tryz.prog 107 := ⟨_, Tryz.func107, by kernel_rfl, by kernel_rfl⟩
theorem hasSufC.sound (n : Nat) : Sound Tryz.prog 107 (hasSufC.mng n) := hasSuf_sound (fun s p w h => Tryz.strings_HasSuffix s p w h)

noncomputable def trimSufC.f (n : Nat) (a0 : List UInt8) (a1 : List UInt8) : Option (List UInt8 × Unit) := trimSufF a0 a1
noncomputable def trimSufC.mng (n : Nat) : Mng := ⟨[.val .str, .val .str], [.val .str], fun x => trimSufC.f n x.1 x.2.1⟩
theorem trimSufC.gof : GoF Tryz.prog 108 := ⟨_, Tryz.func108, by kernel_rfl, by kernel_rfl⟩
theorem trimSufC.sound (n : Nat) : Sound Tryz.prog 108 (trimSufC.mng n) := trimSuf_sound (fun s p w h => Tryz.strings_TrimSuffix s p w h)

def iLines.las : List (Nat × LA) := []
noncomputable def iLines.f (n : Nat) (a0 : List UInt8) : Option ((List (List UInt8)) × (Bool × Unit)) := br (decide (a0 = ([] : List UInt8))) (some ([], (true, ()))) ((hasSufC.f n a0 ([10] : List UInt8)).bind fun r1 => br (!r1.1) (some ([], (false, ()))) ((trimSufC.f n a0 ([10] : List UInt8)).bind fun r2 => (splitC.f n r2.1 ([10] : List UInt8)).bind fun r3 => some (r3.1, (true, ()))))
noncomputable def iLines.mng (n : Nat) : Mng := ⟨[.val .str], [.sh (.sl .str), .val .bool], fun x => iLines.f n x.1⟩
noncomputable def iLines.cfg (n : Nat) : Cfg := ⟨tys9, [(107, hasSufC.mng n), (108, trimSufC.mng n), (61, splitC.mng n)], [], []⟩
theorem iLines.eq : ∀ (n : Nat) (a0 : List UInt8), runF (iLines.cfg n) n Tryz.f44 (annOf Tryz.f44 iLines.las) [.val .str] [.sh (.sl .str), .val .bool] (a0, ()) = iLines.f n a0 := by
  intros
  kernel_rfl
theorem iLines.gof : GoF Tryz.prog 44 := ⟨_, Tryz.func44, by kernel_rfl, by kernel_rfl⟩
theorem iLines.sound (n : Nat) : Sound Tryz.prog 44 (iLines.mng n) := runF_sound (fn := Tryz.f44) (m := iLines.mng n) (c := iLines.cfg n) (regOK mixed (opOK (.of (c := iLines.cfg n) ⟨⟨hasSufC.sound n, hasSufC.gof⟩, ⟨⟨trimSufC.sound n, trimSufC.gof⟩, ⟨⟨splitC.sound n, splitC.gof⟩, trivial⟩⟩⟩) (.of (c := iLines.cfg n) trivial)) (tysOK tys9_ok)) (tysOK tys9_ok) Tryz.func44 (fun x => (iLines.eq n x.1).symm)
end Go.AmT
