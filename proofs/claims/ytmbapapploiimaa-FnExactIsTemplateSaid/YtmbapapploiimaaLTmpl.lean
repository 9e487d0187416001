/- Functions that the law FnExactIsTemplate reaches, each as a plain Lean function, and that each does what that says. No condition. -/
import Derived.Test.YtmbapapploiimaaPOut
namespace Go.AmT
open Go Go.Am Go.Proofs
set_option linter.unusedVariables false
set_option maxRecDepth 100000
def tys2 : List (Nat × TInfo) := [(3, ⟨false, 1, 8, [.int .i64 0], .int .i64, 0, some I, [], false⟩),
  (4, ⟨false, 1, 1, [.bool false], .bool, 0, some .bool, [], false⟩),
  (25, ⟨true, 2, 48, [.nil, .nil], .struct, 0, some tNetwork, [(0, 22), (1, 23)], false⟩),
  (32, ⟨true, 2, 48, [.nil, .nil], .struct, 0, some tNetwork, [(0, 29), (1, 30)], false⟩)]
theorem tys2_ok : (tys2.all fun p => tokB Try.prog p.1 p.2) = true := by kernel_rfl

def law.las : List (Nat × LA) := []
noncomputable def law.f (n : Nat) (a0 : Network) (a1 : Int) (a2 : Network) : Option (Bool × Unit) := (szNetwork.f n a0 1048576).bind fun r1 => br (decide (r1.1 < 0)) (some (true, ())) ((szNetwork.f n a2 r1.1).bind fun r2 => br (decide (r2.1 < 0)) (some (true, ())) ((toNetwork.f n a0).bind fun r3 => (toNetwork.f n a2).bind fun r4 => (sIsTemplate.f n r3.1 a1 r4.1).bind fun r5 => (toNetwork.f n a0).bind fun r6 => (toNetwork.f n a2).bind fun r7 => (iIsTemplate.f n r6.1 a1 r7.1).bind fun r8 => br (!decide (r8.1 = r5.1)) (some (false, ())) ((toNetwork.f n a0).bind fun r9 => (eqNetwork.f n r6.1 r9.1).bind fun r10 => br (!r10.1) (some (false, ())) ((toNetwork.f n a2).bind fun r11 => (eqNetwork.f n r7.1 r11.1).bind fun r12 => br (!r12.1) (some (false, ())) (some (true, ()))))))
noncomputable def law.mng (n : Nat) : Mng := ⟨[.val tNetwork, .val I, .val tNetwork], [.val .bool], fun x => law.f n x.1 x.2.1 x.2.2.1⟩
noncomputable def law.cfg (n : Nat) : Cfg := ⟨tys2, [(14, szNetwork.mng n), (16, toNetwork.mng n), (26, sIsTemplate.mng n), (27, iIsTemplate.mng n), (19, eqNetwork.mng n)], [], []⟩
theorem law.eq : ∀ (n : Nat) (a0 : Network) (a1 : Int) (a2 : Network), runF (law.cfg n) n Try.f5 (annOf Try.f5 law.las) [.val tNetwork, .val I, .val tNetwork] [.val .bool] (a0, (a1, (a2, ()))) = law.f n a0 a1 a2 := by
  intros
  kernel_rfl
theorem law.gof : GoF Try.prog 5 := ⟨_, Try.func5, by kernel_rfl, by kernel_rfl⟩
theorem law.sound (n : Nat) : Sound Try.prog 5 (law.mng n) := runF_sound (fn := Try.f5) (m := law.mng n) (c := law.cfg n) (regOK mixed (opOK (.of (c := law.cfg n) ⟨⟨szNetwork.sound n, szNetwork.gof⟩, ⟨⟨toNetwork.sound n, toNetwork.gof⟩, ⟨⟨sIsTemplate.sound n, sIsTemplate.gof⟩, ⟨⟨iIsTemplate.sound n, iIsTemplate.gof⟩, ⟨⟨eqNetwork.sound n, eqNetwork.gof⟩, trivial⟩⟩⟩⟩⟩) (.of (c := law.cfg n) trivial)) (tysOK tys2_ok)) (tysOK tys2_ok) Try.func5 (fun x => (law.eq n x.1 x.2.1 x.2.2.1).symm)
end Go.AmT
