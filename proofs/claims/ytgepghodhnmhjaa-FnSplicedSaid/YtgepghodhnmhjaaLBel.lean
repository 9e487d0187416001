/- Functions that the law FnSpliced reaches, each as a plain Lean function, and that each does what that says. No condition. -/
import Derived.Test.YtgepghodhnmhjaaPLeast
namespace Go.AmT
open Go Go.Am Go.Proofs
set_option linter.unusedVariables false
set_option maxRecDepth 100000
def tys14 : List (Nat × TInfo) := [(3, ⟨false, 1, 8, [.int .i64 0], .int .i64, 0, some I, [], false⟩),
  (31, ⟨false, 1, 24, [.nil], .slice, 37, some (.sl IS), [], false⟩),
  (37, ⟨false, 1, 24, [.nil], .slice, 3, some IS, [], false⟩)]
theorem tys14_ok : (tys14.all fun p => tokB Try.prog p.1 p.2) = true := by kernel_rfl

def makeEqual.las : List (Nat × LA) := []
noncomputable def makeEqual.f (n : Nat) (a0 : List (List Int)) (a1 : List (List Int)) : Option (Bool × Unit) := (sL4Same.f n a0 a1).bind fun r1 => some (r1.1, ())
noncomputable def makeEqual.mng (n : Nat) : Mng := ⟨[.val (.sl IS), .val (.sl IS)], [.val .bool], fun x => makeEqual.f n x.1 x.2.1⟩
noncomputable def makeEqual.cfg (n : Nat) : Cfg := ⟨tys14, [(83, sL4Same.mng n)], [], []⟩
theorem makeEqual.eq : ∀ (n : Nat) (a0 : List (List Int)) (a1 : List (List Int)), runF (makeEqual.cfg n) n Try.f35 (annOf Try.f35 makeEqual.las) [.val (.sl IS), .val (.sl IS)] [.val .bool] (a0, (a1, ())) = makeEqual.f n a0 a1 := by
  intros
  kernel_rfl
theorem makeEqual.gof : GoF Try.prog 35 := ⟨_, Try.func35, by kernel_rfl, by kernel_rfl⟩
theorem makeEqual.sound (n : Nat) : Sound Try.prog 35 (makeEqual.mng n) := runF_sound (fn := Try.f35) (m := makeEqual.mng n) (c := makeEqual.cfg n) (regOK mixed (opOK (.of (c := makeEqual.cfg n) ⟨⟨sL4Same.sound n, sL4Same.gof⟩, trivial⟩) (.of (c := makeEqual.cfg n) trivial)) (tysOK tys14_ok)) (tysOK tys14_ok) Try.func35 (fun x => (makeEqual.eq n x.1 x.2.1).symm)
end Go.AmT
