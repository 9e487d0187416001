/- Functions that the law FnExactPeaksOf reaches, each as a plain Lean function, and that each does what that says. No condition. -/
import Derived.Test.YtcipidfgblbeiaaPPeaks0
import Derived.Test.YtcipidfgblbeiaaPMark
namespace Go.AmT
open Go Go.Am Go.Proofs
set_option linter.unusedVariables false
set_option maxRecDepth 100000
def tys12 : List (Nat × TInfo) := [(3, ⟨false, 1, 8, [.int .i64 0], .int .i64, 0, some I, [], false⟩),
  (4, ⟨false, 1, 1, [.bool false], .bool, 0, some .bool, [], false⟩),
  (25, ⟨true, 2, 48, [.nil, .nil], .struct, 0, some tNetwork, [(0, 22), (1, 23)], false⟩),
  (33, ⟨true, 2, 48, [.nil, .nil], .struct, 0, some tNetwork, [(0, 30), (1, 31)], false⟩)]
theorem tys12_ok : (tys12.all fun p => tokB Try.prog p.1 p.2) = true := by kernel_rfl

def law.las : List (Nat × LA) := [(9, ⟨[(44, .bool)], [], [1, 2, 6, 7, 8, 9, 10], []⟩), (17, ⟨[(65, .bool)], [], [1, 2, 6, 7, 9], []⟩), (31, ⟨[(92, .bool)], [], [9, 12], []⟩)]
noncomputable def law.f (n : Nat) (a0 : Network) (a1 : Int) : Option (Bool × Unit) := (szNetwork.f n a0 1048576).bind fun r1 => br (decide (r1.1 < 0)) (some (true, ())) ((toNetwork.f n a0).bind fun r2 => (sPeaksOf.f n r2.1 a1).bind fun r3 => (toNetwork.f n a0).bind fun r4 => (iPeaks.f n r4.1 a1).bind fun r5 => cut (α := (Bool × Unit)) ((eqIntS.f n r5.1 r3.1).bind fun r8 => br (!r8.1) (some (.inr (true, ()))) (some (.inr ((!decide (r5.2.1 = r3.2.1)), ())))) fun y7 => br y7.1 (some (false, ())) ((toNetwork.f n a0).bind fun r9 => (eqNetwork.f n r4.1 r9.1).bind fun r10 => br (!r10.1) (some (false, ())) ((markNetwork.f n r4.1 1).bind fun r11 => cut (α := (Bool × Unit)) (br (decide (r11.1 < 0)) (some (.inr (true, ()))) ((eqIntS.f n r5.1 r3.1).bind fun r14 => br (!r14.1) (some (.inr (true, ()))) (some (.inr ((!decide (r5.2.1 = r3.2.1)), ()))))) fun y13 => br y13.1 (some (false, ())) ((markIntS.f n r5.1 1).bind fun r15 => (heldIntS.f n r15.2.1 1).bind fun r16 => br (decide (r16.1 < 0)) (some (false, ())) (br (!decide (r16.1 = r15.1)) (some (false, ())) ((toNetwork.f n a0).bind fun r17 => (iPeaks.f n r17.1 a1).bind fun r18 => cut (α := (Bool × Unit)) ((eqIntS.f n r18.1 r3.1).bind fun r21 => br (!r21.1) (some (.inr (true, ()))) (some (.inr ((!decide (r18.2.1 = r3.2.1)), ())))) fun y20 => br y20.1 (some (false, ())) ((heldIntS.f n r15.2.1 1).bind fun r22 => br (decide (r22.1 < 0)) (some (false, ())) (br (!decide (r22.1 = r15.1)) (some (false, ())) (some (true, ()))))))))))
noncomputable def law.mng (n : Nat) : Mng := ⟨[.val tNetwork, .val I], [.val .bool], fun x => law.f n x.1 x.2.1⟩
noncomputable def law.cfg (n : Nat) : Cfg := ⟨tys12, [(8, szNetwork.mng n), (10, toNetwork.mng n), (9, sPeaksOf.mng n), (11, iPeaks.mng n), (12, eqIntS.mng n), (13, eqNetwork.mng n), (14, markNetwork.mng n), (15, markIntS.mng n), (16, heldIntS.mng n)], [], []⟩
theorem law.eq : ∀ (n : Nat) (a0 : Network) (a1 : Int), runF (law.cfg n) n Try.f3 (annOf Try.f3 law.las) [.val tNetwork, .val I] [.val .bool] (a0, (a1, ())) = law.f n a0 a1 := by
  intros
  kernel_rfl
theorem law.gof : GoF Try.prog 3 := ⟨_, Try.func3, by kernel_rfl, by kernel_rfl⟩
theorem law.sound (n : Nat) : Sound Try.prog 3 (law.mng n) := runF_sound (fn := Try.f3) (m := law.mng n) (c := law.cfg n) (regOK mixed (opOK (.of (c := law.cfg n) ⟨⟨szNetwork.sound n, szNetwork.gof⟩, ⟨⟨toNetwork.sound n, toNetwork.gof⟩, ⟨⟨sPeaksOf.sound n, sPeaksOf.gof⟩, ⟨⟨iPeaks.sound n, iPeaks.gof⟩, ⟨⟨eqIntS.sound n, eqIntS.gof⟩, ⟨⟨eqNetwork.sound n, eqNetwork.gof⟩, ⟨⟨markNetwork.sound n, markNetwork.gof⟩, ⟨⟨markIntS.sound n, markIntS.gof⟩, ⟨⟨heldIntS.sound n, heldIntS.gof⟩, trivial⟩⟩⟩⟩⟩⟩⟩⟩⟩) (.of (c := law.cfg n) trivial)) (tysOK tys12_ok)) (tysOK tys12_ok) Try.func3 (fun x => (law.eq n x.1 x.2.1).symm)
end Go.AmT
