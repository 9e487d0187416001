/- Functions that the law FnAcyclic reaches, each as a plain Lean function, and that each does what that says. No condition. -/
import Derived.Test.YtfcehikkpoeebaaGreatPNet2
namespace Go.AmT
open Go Go.Am Go.Proofs
set_option linter.unusedVariables false
set_option maxRecDepth 100000
def tys1 : List (Nat × TInfo) := [(3, ⟨false, 1, 8, [.int .i64 0], .int .i64, 0, some I, [], false⟩),
  (24, ⟨false, 1, 24, [.nil], .slice, 59, some (.sl tLink), [], false⟩),
  (26, ⟨true, 2, 48, [.nil, .nil], .struct, 0, some tNetwork, [(0, 23), (1, 24)], false⟩),
  (40, ⟨false, 1, 24, [.nil], .slice, 3, some IS, [], false⟩),
  (59, ⟨true, 5, 56, [.int .i64 0, .int .i64 0, .int .i64 0, .int .i64 0, .nil], .struct, 0, some tLink, [(0, 3), (1, 3), (2, 3), (3, 3), (4, 40)], false⟩)]
theorem tys1_ok : (tys1.all fun p => tokB Tryz.prog p.1 p.2) = true := by kernel_rfl

def iAre.las : List (Nat × LA) := [(1, ⟨[(17, .bool)], [], [1, 2], []⟩), (6, ⟨[(20, .int .i64)], [], [2, 18, 19], []⟩)]
noncomputable def iAre.f (n : Nat) (a0 : Network) (a1 : List Int) : Option (Bool × Unit) := cut (α := (Bool × Unit)) ((iIsNetwork.f n a0).bind fun r3 => br (!r3.1) (some (.inr (true, ()))) (some (.inr ((!decide ((a1.length : Int) = (a0.2.length : Int))), ())))) fun y2 => br y2.1 (some (false, ())) (iter (α := (Int × Unit)) n (fun ih10 x9 => br (decide (x9.1 < (a1.length : Int))) (chk (0 ≤ x9.1 ∧ x9.1 < (a1.length : Int)) (chk (0 ≤ x9.1 ∧ x9.1 < (a0.2.length : Int)) (let v11 := (a0.2.getD x9.1.toNat zLink); br (decide ((a1.getD x9.1.toNat 0) < (v11.2.2.2.2.length : Int))) (some (false, ())) (br (decide (400 < (a1.getD x9.1.toNat 0))) (some (false, ())) (ih10 ((w64 (x9.1 + 1)), ())))))) (some (true, ()))) (0, ()))
noncomputable def iAre.mng (n : Nat) : Mng := ⟨[.val tNetwork, .val IS], [.val .bool], fun x => iAre.f n x.1 x.2.1⟩
noncomputable def iAre.cfg (n : Nat) : Cfg := ⟨tys1, [(21, iIsNetwork.mng n)], [], []⟩
theorem iAre.eq : ∀ (n : Nat) (a0 : Network) (a1 : List Int), runF (iAre.cfg n) n Tryz.f63 (annOf Tryz.f63 iAre.las) [.val tNetwork, .val IS] [.val .bool] (a0, (a1, ())) = iAre.f n a0 a1 := by
  intros
  kernel_rfl
theorem iAre.gof : GoF Tryz.prog 63 := ⟨_, Tryz.func63, by kernel_rfl, by kernel_rfl⟩
theorem iAre.sound (n : Nat) : Sound Tryz.prog 63 (iAre.mng n) := runF_sound (fn := Tryz.f63) (m := iAre.mng n) (c := iAre.cfg n) (regOK mixed (opOK (.of (c := iAre.cfg n) ⟨⟨iIsNetwork.sound n, iIsNetwork.gof⟩, trivial⟩) (.of (c := iAre.cfg n) trivial)) (tysOK tys1_ok)) (tysOK tys1_ok) Tryz.func63 (fun x => (iAre.eq n x.1 x.2.1).symm)
end Go.AmT
