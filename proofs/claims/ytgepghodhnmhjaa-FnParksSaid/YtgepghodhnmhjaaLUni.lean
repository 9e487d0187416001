/- Functions that the law FnParks reaches, each as a plain Lean function, and that each does what that says. No condition. -/
import Derived.Test.YtgepghodhnmhjaaPMark
namespace Go.AmT
open Go Go.Am Go.Proofs
set_option linter.unusedVariables false
set_option maxRecDepth 100000
def tys15 : List (Nat × TInfo) := [(3, ⟨false, 1, 8, [.int .i64 0], .int .i64, 0, some I, [], false⟩),
  (24, ⟨false, 1, 24, [.nil], .slice, 53, some (.sl tLink), [], false⟩),
  (26, ⟨true, 2, 48, [.nil, .nil], .struct, 0, some tNetwork, [(0, 23), (1, 24)], false⟩),
  (37, ⟨false, 1, 24, [.nil], .slice, 3, some IS, [], false⟩),
  (53, ⟨true, 5, 56, [.int .i64 0, .int .i64 0, .int .i64 0, .int .i64 0, .nil], .struct, 0, some tLink, [(0, 3), (1, 3), (2, 3), (3, 3), (4, 37)], false⟩)]
theorem tys15_ok : (tys15.all fun p => tokB Try.prog p.1 p.2) = true := by kernel_rfl

def iUni.las : List (Nat × LA) := [(1, ⟨[(18, .bool)], [], [1, 2], []⟩), (7, ⟨[(5, .own 1000 I), (23, .int .i64)], [(1000, .row true I)], [1, 21, 22], []⟩)]
noncomputable def iUni.f (n : Nat) (a0 : Network) (a1 : Int) : Option ((List Int) × Unit) := cut (α := (Bool × Unit)) ((iIsNetwork.f n a0).bind fun r3 => br (!r3.1) (some (.inr (true, ()))) (br (decide (a1 < 0)) (some (.inr (true, ()))) (some (.inr ((decide (400 < a1)), ()))))) fun y2 => br y2.1 (some ([], ())) (iter (α := (Int × (List Int) × Unit)) n (fun ih10 x9 => br (decide (x9.1 < (a0.2.length : Int))) (chk (0 ≤ x9.1 ∧ x9.1 < (a0.2.length : Int)) (let v11 := (a0.2.getD x9.1.toNat zLink); chk ((x9.2.1.length + ([(max a1 (v11.2.2.2.2.length : Int))] : List Int).length) * 8 ≤ maxB) (ih10 ((w64 (x9.1 + 1)), ((x9.2.1 ++ [(max a1 (v11.2.2.2.2.length : Int))]), ()))))) (some (x9.2.1, ()))) (0, ([], ())))
noncomputable def iUni.mng (n : Nat) : Mng := ⟨[.val tNetwork, .val I], [.val IS], fun x => iUni.f n x.1 x.2.1⟩
noncomputable def iUni.cfg (n : Nat) : Cfg := ⟨tys15, [(57, iIsNetwork.mng n)], [], []⟩
theorem iUni.eq : ∀ (n : Nat) (a0 : Network) (a1 : Int), runF (iUni.cfg n) n Try.f19 (annOf Try.f19 iUni.las) [.val tNetwork, .val I] [.val IS] (a0, (a1, ())) = iUni.f n a0 a1 := by
  intros
  kernel_rfl
theorem iUni.gof : GoF Try.prog 19 := ⟨_, Try.func19, by kernel_rfl, by kernel_rfl⟩
theorem iUni.sound (n : Nat) : Sound Try.prog 19 (iUni.mng n) := runF_sound (fn := Try.f19) (m := iUni.mng n) (c := iUni.cfg n) (regOK mixed (opOK (.of (c := iUni.cfg n) ⟨⟨iIsNetwork.sound n, iIsNetwork.gof⟩, trivial⟩) (.of (c := iUni.cfg n) trivial)) (tysOK tys15_ok)) (tysOK tys15_ok) Try.func19 (fun x => (iUni.eq n x.1 x.2.1).symm)
end Go.AmT
