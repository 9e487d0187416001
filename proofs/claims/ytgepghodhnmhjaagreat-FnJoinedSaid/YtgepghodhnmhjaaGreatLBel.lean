/- Functions that the law FnJoined reaches, each as a plain Lean function, and that each does what that says. No condition. -/
import Derived.Test.YtgepghodhnmhjaaGreatPLeast
namespace Go.AmT
open Go Go.Am Go.Proofs
set_option linter.unusedVariables false
set_option maxRecDepth 100000
def tys8 : List (Nat × TInfo) := []
theorem tys8_ok : (tys8.all fun p => tokB Tryz.prog p.1 p.2) = true := by kernel_rfl

def makeEqual.las : List (Nat × LA) := []
noncomputable def makeEqual.f (n : Nat) (a0 : List (List Int)) (a1 : List (List Int)) : Option (Bool × Unit) := (sL4Same.f n a0 a1).bind fun r1 => some (r1.1, ())
noncomputable def makeEqual.mng (n : Nat) : Mng := ⟨[.val (.sl IS), .val (.sl IS)], [.val .bool], fun x => makeEqual.f n x.1 x.2.1⟩
noncomputable def makeEqual.cfg (n : Nat) : Cfg := ⟨tys8, [(27, sL4Same.mng n)], [], []⟩
theorem makeEqual.eq : ∀ (n : Nat) (a0 : List (List Int)) (a1 : List (List Int)), runF (makeEqual.cfg n) n Tryz.f10 (annOf Tryz.f10 makeEqual.las) [.val (.sl IS), .val (.sl IS)] [.val .bool] (a0, (a1, ())) = makeEqual.f n a0 a1 := by
  intros
  kernel_rfl
theorem makeEqual.gof : GoF Tryz.prog 10 := ⟨_, Tryz.func10, by kernel_rfl, by kernel_rfl⟩
theorem makeEqual.sound (n : Nat) : Sound Tryz.prog 10 (makeEqual.mng n) := runF_sound (fn := Tryz.f10) (m := makeEqual.mng n) (c := makeEqual.cfg n) (regOK mixed (opOK (.of (c := makeEqual.cfg n) ⟨⟨sL4Same.sound n, sL4Same.gof⟩, trivial⟩) (.of (c := makeEqual.cfg n) trivial)) (tysOK tys8_ok)) (tysOK tys8_ok) Tryz.func10 (fun x => (makeEqual.eq n x.1 x.2.1).symm)
end Go.AmT
