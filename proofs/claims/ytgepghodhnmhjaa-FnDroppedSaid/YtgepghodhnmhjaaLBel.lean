/- Functions that the law FnDropped reaches, each as a plain Lean function, and that each does what that says. No condition. -/
import Derived.Test.YtgepghodhnmhjaaPLeast
namespace Go.AmT
open Go Go.Am Go.Proofs
set_option linter.unusedVariables false
set_option maxRecDepth 100000
def tys14 : List (Nat × TInfo) := [(3, ⟨false, 1, 8, [.int .i64 0], .int .i64, 0, some I, [], false⟩),
  (26, ⟨true, 2, 48, [.nil, .nil], .struct, 0, some tNetwork, [(0, 23), (1, 24)], false⟩),
  (31, ⟨false, 1, 24, [.nil], .slice, 37, some (.sl IS), [], false⟩),
  (37, ⟨false, 1, 24, [.nil], .slice, 3, some IS, [], false⟩)]
theorem tys14_ok : (tys14.all fun p => tokB Try.prog p.1 p.2) = true := by kernel_rfl

def sLeastR.las : List (Nat × LA) := [(7, ⟨[(5, .own 1000 IS), (6, .int .i64)], [(1000, .row true IS)], [1], []⟩)]
noncomputable def sLeastR.f (n : Nat) (a0 : Network) : Option ((List (List Int)) × (Int × (Bool × Unit))) := (sIsNetwork.f n a0).bind fun r1 => br (!r1.1) (some ([], (0, (false, ())))) ((sL4Tokens.f n a0).bind fun r2 => iter (α := (Int × (List (List Int)) × Unit)) n (fun ih10 x9 => br (decide (x9.1 ≤ 300)) ((sL4Round.f n a0 x9.2.1).bind fun r11 => br (!r11.2.1) (some ([], (0, (false, ())))) ((sL4Same.f n r11.1 x9.2.1).bind fun r12 => br r12.1 (some (x9.2.1, (x9.1, (true, ())))) (ih10 ((w64 (x9.1 + 1)), (r11.1, ()))))) (some ([], (0, (false, ()))))) (1, (r2.1, ())))
noncomputable def sLeastR.mng (n : Nat) : Mng := ⟨[.val tNetwork], [.sh (.sl IS), .val I, .val .bool], fun x => sLeastR.f n x.1⟩
noncomputable def sLeastR.cfg (n : Nat) : Cfg := ⟨tys14, [(45, sIsNetwork.mng n), (66, sL4Tokens.mng n), (82, sL4Round.mng n), (83, sL4Same.mng n)], [], []⟩
theorem sLeastR.eq : ∀ (n : Nat) (a0 : Network), runF (sLeastR.cfg n) n Try.f30 (annOf Try.f30 sLeastR.las) [.val tNetwork] [.sh (.sl IS), .val I, .val .bool] (a0, ()) = sLeastR.f n a0 := by
  intros
  kernel_rfl
theorem sLeastR.gof : GoF Try.prog 30 := ⟨_, Try.func30, by kernel_rfl, by kernel_rfl⟩
theorem sLeastR.sound (n : Nat) : Sound Try.prog 30 (sLeastR.mng n) := runF_sound (fn := Try.f30) (m := sLeastR.mng n) (c := sLeastR.cfg n) (regOK mixed (opOK (.of (c := sLeastR.cfg n) ⟨⟨sIsNetwork.sound n, sIsNetwork.gof⟩, ⟨⟨sL4Tokens.sound n, sL4Tokens.gof⟩, ⟨⟨sL4Round.sound n, sL4Round.gof⟩, ⟨⟨sL4Same.sound n, sL4Same.gof⟩, trivial⟩⟩⟩⟩) (.of (c := sLeastR.cfg n) trivial)) (tysOK tys14_ok)) (tysOK tys14_ok) Try.func30 (fun x => (sLeastR.eq n x.1).symm)

def makeEqual.las : List (Nat × LA) := []
noncomputable def makeEqual.f (n : Nat) (a0 : List (List Int)) (a1 : List (List Int)) : Option (Bool × Unit) := (sL4Same.f n a0 a1).bind fun r1 => some (r1.1, ())
noncomputable def makeEqual.mng (n : Nat) : Mng := ⟨[.val (.sl IS), .val (.sl IS)], [.val .bool], fun x => makeEqual.f n x.1 x.2.1⟩
noncomputable def makeEqual.cfg (n : Nat) : Cfg := ⟨tys14, [(83, sL4Same.mng n)], [], []⟩
theorem makeEqual.eq : ∀ (n : Nat) (a0 : List (List Int)) (a1 : List (List Int)), runF (makeEqual.cfg n) n Try.f35 (annOf Try.f35 makeEqual.las) [.val (.sl IS), .val (.sl IS)] [.val .bool] (a0, (a1, ())) = makeEqual.f n a0 a1 := by
  intros
  kernel_rfl
theorem makeEqual.gof : GoF Try.prog 35 := ⟨_, Try.func35, by kernel_rfl, by kernel_rfl⟩
theorem makeEqual.sound (n : Nat) : Sound Try.prog 35 (makeEqual.mng n) := runF_sound (fn := Try.f35) (m := makeEqual.mng n) (c := makeEqual.cfg n) (regOK mixed (opOK (.of (c := makeEqual.cfg n) ⟨⟨sL4Same.sound n, sL4Same.gof⟩, trivial⟩) (.of (c := makeEqual.cfg n) trivial)) (tysOK tys14_ok)) (tysOK tys14_ok) Try.func35 (fun x => (makeEqual.eq n x.1 x.2.1).symm)
end Go.AmT
