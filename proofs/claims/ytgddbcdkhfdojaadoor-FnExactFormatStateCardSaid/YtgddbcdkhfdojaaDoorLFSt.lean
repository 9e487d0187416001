/- Functions that the law FnExactFormatState reaches, each as a plain Lean function, and that each does what that says. No condition. -/
import Derived.Test.YtgddbcdkhfdojaaDoorPTxtS
namespace Go.AmT
open Go Go.Am Go.Proofs
set_option linter.unusedVariables false
set_option maxRecDepth 100000
def tys5 : List (Nat × TInfo) := [(3, ⟨false, 1, 8, [.int .i64 0], .int .i64, 0, some I, [], false⟩),
  (9, ⟨false, 1, 16, [.str []], .str, 0, some .str, [], false⟩),
  (42, ⟨true, 2, 48, [.nil, .nil], .struct, 0, some tNetwork, [(0, 39), (1, 40)], false⟩),
  (48, ⟨true, 2, 48, [.nil, .nil], .struct, 0, some tNetwork, [(0, 45), (1, 46)], false⟩),
  (59, ⟨true, 4, 80, [.nil, .nil, .nil, .int .i64 0], .struct, 0, some tState, [(0, 56), (1, 57), (2, 57), (3, 3)], false⟩),
  (64, ⟨true, 4, 80, [.nil, .nil, .nil, .int .i64 0], .struct, 0, some tState, [(0, 62), (1, 57), (2, 57), (3, 3)], false⟩)]
theorem tys5_ok : (tys5.all fun p => tokB Tryd.prog p.1 p.2) = true := by kernel_rfl

def law.las : List (Nat × LA) := []
noncomputable def law.f (n : Nat) (a0 : Network) (a1 : State) : Option (Bool × Unit) := (szNetwork.f n a0 1048576).bind fun r1 => br (decide (r1.1 < 0)) (some (true, ())) ((szState.f n a1 r1.1).bind fun r2 => br (decide (r2.1 < 0)) (some (true, ())) ((toNetwork.f n a0).bind fun r3 => (toState.f n a1).bind fun r4 => (fmtState.f n r3.1 r4.1).bind fun r5 => (toNetwork.f n a0).bind fun r6 => (toState.f n a1).bind fun r7 => (iFmtState.f n r6.1 r7.1).bind fun r8 => br (!decide (r8.1 = r5.1)) (some (false, ())) ((toNetwork.f n a0).bind fun r9 => (eqNetwork.f n r6.1 r9.1).bind fun r10 => br (!r10.1) (some (false, ())) ((toState.f n a1).bind fun r11 => (eqState.f n r7.1 r11.1).bind fun r12 => br (!r12.1) (some (false, ())) (some (true, ()))))))
noncomputable def law.mng (n : Nat) : Mng := ⟨[.val tNetwork, .val tState], [.val .bool], fun x => law.f n x.1 x.2.1⟩
noncomputable def law.cfg (n : Nat) : Cfg := ⟨tys5, [(17, szNetwork.mng n), (25, szState.mng n), (19, toNetwork.mng n), (27, toState.mng n), (26, fmtState.mng n), (28, iFmtState.mng n), (21, eqNetwork.mng n), (29, eqState.mng n)], [], []⟩
theorem law.eq : ∀ (n : Nat) (a0 : Network) (a1 : State), runF (law.cfg n) n Tryd.f7 (annOf Tryd.f7 law.las) [.val tNetwork, .val tState] [.val .bool] (a0, (a1, ())) = law.f n a0 a1 := by
  intros
  kernel_rfl
theorem law.sound (n : Nat) : Sound Tryd.prog 7 (law.mng n) := runF_sound (fn := Tryd.f7) (m := law.mng n) (c := law.cfg n) (regOK mixed (opOK (.of (c := law.cfg n) ⟨⟨szNetwork.sound n, szNetwork.gof⟩, ⟨⟨szState.sound n, szState.gof⟩, ⟨⟨toNetwork.sound n, toNetwork.gof⟩, ⟨⟨toState.sound n, toState.gof⟩, ⟨⟨fmtState.sound n, fmtState.gof⟩, ⟨⟨iFmtState.sound n, iFmtState.gof⟩, ⟨⟨eqNetwork.sound n, eqNetwork.gof⟩, ⟨⟨eqState.sound n, eqState.gof⟩, trivial⟩⟩⟩⟩⟩⟩⟩⟩) (.of (c := law.cfg n) trivial)) (tysOK tys5_ok)) (tysOK tys5_ok) Tryd.func7 (fun x => (law.eq n x.1 x.2.1).symm)
end Go.AmT
