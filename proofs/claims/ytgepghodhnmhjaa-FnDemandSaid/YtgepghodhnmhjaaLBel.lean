/- Functions that the law FnDemand reaches, each as a plain Lean function, and that each does what that says. No condition. -/
import Derived.Test.YtgepghodhnmhjaaPLeast
namespace Go.AmT
open Go Go.Am Go.Proofs
set_option linter.unusedVariables false
set_option maxRecDepth 100000
def tys16 : List (Nat × TInfo) := [(3, ⟨false, 1, 8, [.int .i64 0], .int .i64, 0, some I, [], false⟩),
  (31, ⟨false, 1, 24, [.nil], .slice, 37, some (.sl IS), [], false⟩),
  (37, ⟨false, 1, 24, [.nil], .slice, 3, some IS, [], false⟩)]
theorem tys16_ok : (tys16.all fun p => tokB Try.prog p.1 p.2) = true := by kernel_rfl

def sIsPrefix.las : List (Nat × LA) := []
noncomputable def sIsPrefix.f (n : Nat) (a0 : List Int) (a1 : List Int) : Option (Bool × Unit) := (sIsStream.f n a0).bind fun r1 => br r1.1 ((sIsStream.f n a1).bind fun r2 => br r2.1 ((sL1Begins.f n a0 a1).bind fun r3 => some (r3.1, ())) (some (false, ()))) (some (false, ()))
noncomputable def sIsPrefix.mng (n : Nat) : Mng := ⟨[.val IS, .val IS], [.val .bool], fun x => sIsPrefix.f n x.1 x.2.1⟩
noncomputable def sIsPrefix.cfg (n : Nat) : Cfg := ⟨tys16, [(85, sIsStream.mng n), (86, sL1Begins.mng n)], [], []⟩
theorem sIsPrefix.eq : ∀ (n : Nat) (a0 : List Int) (a1 : List Int), runF (sIsPrefix.cfg n) n Try.f89 (annOf Try.f89 sIsPrefix.las) [.val IS, .val IS] [.val .bool] (a0, (a1, ())) = sIsPrefix.f n a0 a1 := by
  intros
  kernel_rfl
theorem sIsPrefix.gof : GoF Try.prog 89 := ⟨_, Try.func89, by kernel_rfl, by kernel_rfl⟩
theorem sIsPrefix.sound (n : Nat) : Sound Try.prog 89 (sIsPrefix.mng n) := runF_sound (fn := Try.f89) (m := sIsPrefix.mng n) (c := sIsPrefix.cfg n) (regOK mixed (opOK (.of (c := sIsPrefix.cfg n) ⟨⟨sIsStream.sound n, sIsStream.gof⟩, ⟨⟨sL1Begins.sound n, sL1Begins.gof⟩, trivial⟩⟩) (.of (c := sIsPrefix.cfg n) trivial)) (tysOK tys16_ok)) (tysOK tys16_ok) Try.func89 (fun x => (sIsPrefix.eq n x.1 x.2.1).symm)

def below.las : List (Nat × LA) := [(6, ⟨[(13, .int .i64)], [], [0, 1, 12], []⟩)]
noncomputable def below.f (n : Nat) (a0 : List (List Int)) (a1 : List (List Int)) : Option (Bool × Unit) := br (!decide ((a0.length : Int) = (a1.length : Int))) (some (false, ())) (iter (α := (Int × Unit)) n (fun ih7 x6 => br (decide (x6.1 < (a0.length : Int))) (chk (0 ≤ x6.1 ∧ x6.1 < (a0.length : Int)) (chk (0 ≤ x6.1 ∧ x6.1 < (a1.length : Int)) ((sIsPrefix.f n (a0.getD x6.1.toNat []) (a1.getD x6.1.toNat [])).bind fun r8 => br (!r8.1) (some (false, ())) (ih7 ((w64 (x6.1 + 1)), ()))))) (some (true, ()))) (0, ()))
noncomputable def below.mng (n : Nat) : Mng := ⟨[.val (.sl IS), .val (.sl IS)], [.val .bool], fun x => below.f n x.1 x.2.1⟩
noncomputable def below.cfg (n : Nat) : Cfg := ⟨tys16, [(89, sIsPrefix.mng n)], [], []⟩
theorem below.eq : ∀ (n : Nat) (a0 : List (List Int)) (a1 : List (List Int)), runF (below.cfg n) n Try.f34 (annOf Try.f34 below.las) [.val (.sl IS), .val (.sl IS)] [.val .bool] (a0, (a1, ())) = below.f n a0 a1 := by
  intros
  kernel_rfl
theorem below.gof : GoF Try.prog 34 := ⟨_, Try.func34, by kernel_rfl, by kernel_rfl⟩
theorem below.sound (n : Nat) : Sound Try.prog 34 (below.mng n) := runF_sound (fn := Try.f34) (m := below.mng n) (c := below.cfg n) (regOK mixed (opOK (.of (c := below.cfg n) ⟨⟨sIsPrefix.sound n, sIsPrefix.gof⟩, trivial⟩) (.of (c := below.cfg n) trivial)) (tysOK tys16_ok)) (tysOK tys16_ok) Try.func34 (fun x => (below.eq n x.1 x.2.1).symm)

end Go.AmT
