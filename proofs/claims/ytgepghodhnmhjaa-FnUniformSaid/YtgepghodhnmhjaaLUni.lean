/- Functions that the law FnUniform reaches, each as a plain Lean function, and that each does what that says. No condition. -/
import Derived.Test.YtgepghodhnmhjaaPMark
namespace Go.AmT
open Go Go.Am Go.Proofs
set_option linter.unusedVariables false
set_option maxRecDepth 100000
def tys13 : List (Nat × TInfo) := [(3, ⟨false, 1, 8, [.int .i64 0], .int .i64, 0, some I, [], false⟩),
  (24, ⟨false, 1, 24, [.nil], .slice, 53, some (.sl tLink), [], false⟩),
  (26, ⟨true, 2, 48, [.nil, .nil], .struct, 0, some tNetwork, [(0, 23), (1, 24)], false⟩),
  (37, ⟨false, 1, 24, [.nil], .slice, 3, some IS, [], false⟩),
  (53, ⟨true, 5, 56, [.int .i64 0, .int .i64 0, .int .i64 0, .int .i64 0, .nil], .struct, 0, some tLink, [(0, 3), (1, 3), (2, 3), (3, 3), (4, 37)], false⟩)]
theorem tys13_ok : (tys13.all fun p => tokB Try.prog p.1 p.2) = true := by kernel_rfl

def sUni.las : List (Nat × LA) := [(1, ⟨[(15, .bool)], [], [1, 2], []⟩), (7, ⟨[(5, .own 1000 I), (20, .int .i64)], [(1000, .row true I)], [1, 18, 19], []⟩)]
noncomputable def sUni.f (n : Nat) (a0 : Network) (a1 : Int) : Option ((List Int) × Unit) := cut (α := (Bool × Unit)) ((sIsNetwork.f n a0).bind fun r4 => br (!r4.1) (some (.inr (true, ()))) ((sL1In.f n a1 0 400).bind fun r5 => some (.inr ((!r5.1), ())))) fun y3 => br y3.1 (some ([], ())) (iter (α := (Int × (List Int) × Unit)) n (fun ih13 x12 => br (decide (x12.1 < (a0.2.length : Int))) (chk (0 ≤ x12.1 ∧ x12.1 < (a0.2.length : Int)) (let v14 := (a0.2.getD x12.1.toNat zLink); chk ((x12.2.1.length + ([(max a1 (v14.2.2.2.2.length : Int))] : List Int).length) * 8 ≤ maxB) (ih13 ((w64 (x12.1 + 1)), ((x12.2.1 ++ [(max a1 (v14.2.2.2.2.length : Int))]), ()))))) (some (x12.2.1, ()))) (0, ([], ())))
noncomputable def sUni.mng (n : Nat) : Mng := ⟨[.val tNetwork, .val I], [.val IS], fun x => sUni.f n x.1 x.2.1⟩
noncomputable def sUni.cfg (n : Nat) : Cfg := ⟨tys13, [(45, sIsNetwork.mng n), (58, sL1In.mng n)], [], []⟩
theorem sUni.eq : ∀ (n : Nat) (a0 : Network) (a1 : Int), runF (sUni.cfg n) n Try.f60 (annOf Try.f60 sUni.las) [.val tNetwork, .val I] [.val IS] (a0, (a1, ())) = sUni.f n a0 a1 := by
  intros
  kernel_rfl
theorem sUni.gof : GoF Try.prog 60 := ⟨_, Try.func60, by kernel_rfl, by kernel_rfl⟩
theorem sUni.sound (n : Nat) : Sound Try.prog 60 (sUni.mng n) := runF_sound (fn := Try.f60) (m := sUni.mng n) (c := sUni.cfg n) (regOK mixed (opOK (.of (c := sUni.cfg n) ⟨⟨sIsNetwork.sound n, sIsNetwork.gof⟩, ⟨⟨sL1In.sound n, sL1In.gof⟩, trivial⟩⟩) (.of (c := sUni.cfg n) trivial)) (tysOK tys13_ok)) (tysOK tys13_ok) Try.func60 (fun x => (sUni.eq n x.1 x.2.1).symm)

def iUni.las : List (Nat × LA) := [(1, ⟨[(18, .bool)], [], [1, 2], []⟩), (7, ⟨[(5, .own 1000 I), (23, .int .i64)], [(1000, .row true I)], [1, 21, 22], []⟩)]
noncomputable def iUni.f (n : Nat) (a0 : Network) (a1 : Int) : Option ((List Int) × Unit) := cut (α := (Bool × Unit)) ((iIsNetwork.f n a0).bind fun r3 => br (!r3.1) (some (.inr (true, ()))) (br (decide (a1 < 0)) (some (.inr (true, ()))) (some (.inr ((decide (400 < a1)), ()))))) fun y2 => br y2.1 (some ([], ())) (iter (α := (Int × (List Int) × Unit)) n (fun ih10 x9 => br (decide (x9.1 < (a0.2.length : Int))) (chk (0 ≤ x9.1 ∧ x9.1 < (a0.2.length : Int)) (let v11 := (a0.2.getD x9.1.toNat zLink); chk ((x9.2.1.length + ([(max a1 (v11.2.2.2.2.length : Int))] : List Int).length) * 8 ≤ maxB) (ih10 ((w64 (x9.1 + 1)), ((x9.2.1 ++ [(max a1 (v11.2.2.2.2.length : Int))]), ()))))) (some (x9.2.1, ()))) (0, ([], ())))
noncomputable def iUni.mng (n : Nat) : Mng := ⟨[.val tNetwork, .val I], [.val IS], fun x => iUni.f n x.1 x.2.1⟩
noncomputable def iUni.cfg (n : Nat) : Cfg := ⟨tys13, [(57, iIsNetwork.mng n)], [], []⟩
theorem iUni.eq : ∀ (n : Nat) (a0 : Network) (a1 : Int), runF (iUni.cfg n) n Try.f19 (annOf Try.f19 iUni.las) [.val tNetwork, .val I] [.val IS] (a0, (a1, ())) = iUni.f n a0 a1 := by
  intros
  kernel_rfl
theorem iUni.gof : GoF Try.prog 19 := ⟨_, Try.func19, by kernel_rfl, by kernel_rfl⟩
theorem iUni.sound (n : Nat) : Sound Try.prog 19 (iUni.mng n) := runF_sound (fn := Try.f19) (m := iUni.mng n) (c := iUni.cfg n) (regOK mixed (opOK (.of (c := iUni.cfg n) ⟨⟨iIsNetwork.sound n, iIsNetwork.gof⟩, trivial⟩) (.of (c := iUni.cfg n) trivial)) (tysOK tys13_ok)) (tysOK tys13_ok) Try.func19 (fun x => (iUni.eq n x.1 x.2.1).symm)
end Go.AmT
