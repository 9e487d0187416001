/- Functions that the law FnRates reaches, each as a plain Lean function, and that each does what that says. No condition. -/
import Derived.Test.YtfcehikkpoeebaaPRepS2
namespace Go.AmT
open Go Go.Am Go.Proofs
set_option linter.unusedVariables false
set_option maxRecDepth 100000
def tys14 : List (Nat × TInfo) := [(3, ⟨false, 1, 8, [.int .i64 0], .int .i64, 0, some I, [], false⟩),
  (23, ⟨false, 1, 24, [.nil], .slice, 38, some (.sl tEdge), [], false⟩),
  (25, ⟨true, 2, 32, [.int .i64 0, .nil], .struct, 0, some tGraph, [(0, 3), (1, 23)], false⟩),
  (33, ⟨false, 1, 24, [.nil], .slice, 3, some IS, [], false⟩),
  (38, ⟨true, 5, 40, [.int .i64 0, .int .i64 0, .int .i64 0, .int .i64 0, .int .i64 0], .struct, 0, some tEdge, [(0, 3), (1, 3), (2, 3), (3, 3), (4, 3)], false⟩)]
theorem tys14_ok : (tys14.all fun p => tokB Try.prog p.1 p.2) = true := by kernel_rfl

def l7Tokens.las : List (Nat × LA) := [(4, ⟨[(3, .own 1000 I), (10, .int .i64)], [(1000, .row true I)], [8, 9], []⟩)]
noncomputable def l7Tokens.f (n : Nat) (a0 : Graph) : Option ((List Int) × Unit) := iter (α := (Int × (List Int) × Unit)) n (fun ih6 x5 => br (decide (x5.1 < (a0.2.length : Int))) (chk (0 ≤ x5.1 ∧ x5.1 < (a0.2.length : Int)) (let v7 := (a0.2.getD x5.1.toNat zEdge); chk ((x5.2.1.length + ([v7.2.2.2.2] : List Int).length) * 8 ≤ maxB) (ih6 ((w64 (x5.1 + 1)), ((x5.2.1 ++ [v7.2.2.2.2]), ()))))) (some (x5.2.1, ()))) (0, ([], ()))
noncomputable def l7Tokens.mng (n : Nat) : Mng := ⟨[.val tGraph], [.val IS], fun x => l7Tokens.f n x.1⟩
noncomputable def l7Tokens.cfg (n : Nat) : Cfg := ⟨tys14, [], [], []⟩
theorem l7Tokens.eq : ∀ (n : Nat) (a0 : Graph), runF (l7Tokens.cfg n) n Try.f25 (annOf Try.f25 l7Tokens.las) [.val tGraph] [.val IS] (a0, ()) = l7Tokens.f n a0 := by
  intros
  kernel_rfl
theorem l7Tokens.gof : GoF Try.prog 25 := ⟨_, Try.func25, by kernel_rfl, by kernel_rfl⟩
theorem l7Tokens.sound (n : Nat) : Sound Try.prog 25 (l7Tokens.mng n) := runF_sound (fn := Try.f25) (m := l7Tokens.mng n) (c := l7Tokens.cfg n) (regOK mixed (opOK (.of (c := l7Tokens.cfg n) trivial) (.of (c := l7Tokens.cfg n) trivial)) (tysOK tys14_ok)) (tysOK tys14_ok) Try.func25 (fun x => (l7Tokens.eq n x.1).symm)

def first.las : List (Nat × LA) := [(4, ⟨[(3, .own 1000 I), (10, .int .i64)], [(1000, .row true I)], [8, 9], []⟩)]
noncomputable def first.f (n : Nat) (a0 : Graph) : Option ((List Int) × Unit) := iter (α := (Int × (List Int) × Unit)) n (fun ih6 x5 => br (decide (x5.1 < (a0.2.length : Int))) (chk (0 ≤ x5.1 ∧ x5.1 < (a0.2.length : Int)) (let v7 := (a0.2.getD x5.1.toNat zEdge); chk ((x5.2.1.length + ([v7.2.2.2.2] : List Int).length) * 8 ≤ maxB) (ih6 ((w64 (x5.1 + 1)), ((x5.2.1 ++ [v7.2.2.2.2]), ()))))) (some (x5.2.1, ()))) (0, ([], ()))
noncomputable def first.mng (n : Nat) : Mng := ⟨[.val tGraph], [.val IS], fun x => first.f n x.1⟩
noncomputable def first.cfg (n : Nat) : Cfg := ⟨tys14, [], [], []⟩
theorem first.eq : ∀ (n : Nat) (a0 : Graph), runF (first.cfg n) n Try.f35 (annOf Try.f35 first.las) [.val tGraph] [.val IS] (a0, ()) = first.f n a0 := by
  intros
  kernel_rfl
theorem first.gof : GoF Try.prog 35 := ⟨_, Try.func35, by kernel_rfl, by kernel_rfl⟩
theorem first.sound (n : Nat) : Sound Try.prog 35 (first.mng n) := runF_sound (fn := Try.f35) (m := first.mng n) (c := first.cfg n) (regOK mixed (opOK (.of (c := first.cfg n) trivial) (.of (c := first.cfg n) trivial)) (tysOK tys14_ok)) (tysOK tys14_ok) Try.func35 (fun x => (first.eq n x.1).symm)

def iRunFirings.las : List (Nat × LA) := [(1, ⟨[(20, .bool)], [], [1, 2], []⟩), (8, ⟨[(7, .own 1000 I), (8, .own 1001 I), (27, .int .i64)], [(1000, .row true I), (1001, .row true I)], [2, 25, 26], []⟩), (18, ⟨[(8, .own 1000 I), (38, .int .i64)], [(1000, .row true I)], [2, 7, 25, 26, 27, 36, 37], []⟩)]
noncomputable def iRunFirings.f (n : Nat) (a0 : Graph) (a1 : List Int) : Option ((List Int) × (List Int) × (Bool × Unit)) := cut (α := (Bool × Unit)) ((iIsGraph.f n a0).bind fun r3 => br (!r3.1) (some (.inr (true, ()))) (some (.inr ((decide (1600 < (a1.length : Int))), ())))) fun y2 => br y2.1 (some ([], ([], (false, ())))) ((first.f n a0).bind fun r4 => (cloneI.f n r4.1).bind fun r5 => iter (α := (Int × (List Int) × (List Int) × Unit)) n (fun ih44 x43 => br (decide (x43.1 < (a1.length : Int))) (chk (0 ≤ x43.1 ∧ x43.1 < (a1.length : Int)) ((fire.f n a0 x43.2.1 (a1.getD x43.1.toNat 0)).bind fun r45 => br (!r45.1) (some ([], ([], (false, ())))) (iter (α := (Int × (List Int) × Unit)) n (fun ih47 x46 => br (decide (x46.1 < (r45.2.1.length : Int))) (chk (0 ≤ x46.1 ∧ x46.1 < (r45.2.1.length : Int)) (chk (0 ≤ x46.1 ∧ x46.1 < (x46.2.1.length : Int)) (chk (0 ≤ x46.1 ∧ x46.1 < (x46.2.1.length : Int)) (let v48 := (x46.2.1.set x46.1.toNat (max (x46.2.1.getD x46.1.toNat 0) (r45.2.1.getD x46.1.toNat 0))); ih47 ((w64 (x46.1 + 1)), (v48, ())))))) (ih44 ((w64 (x43.1 + 1)), (r45.2.1, (x46.2.1, ()))))) (0, (x43.2.2.1, ()))))) (some (x43.2.1, (x43.2.2.1, (true, ()))))) (0, (r4.1, (r5.1, ()))))
noncomputable def iRunFirings.mng (n : Nat) : Mng := ⟨[.val tGraph, .val IS], [.val IS, .val IS, .val .bool], fun x => iRunFirings.f n x.1 x.2.1⟩
noncomputable def iRunFirings.cfg (n : Nat) : Cfg := ⟨tys14, [(18, iIsGraph.mng n), (35, first.mng n), (34, cloneI.mng n), (36, fire.mng n)], [], []⟩
theorem iRunFirings.eq : ∀ (n : Nat) (a0 : Graph) (a1 : List Int), runF (iRunFirings.cfg n) n Try.f11 (annOf Try.f11 iRunFirings.las) [.val tGraph, .val IS] [.val IS, .val IS, .val .bool] (a0, (a1, ())) = iRunFirings.f n a0 a1 := by
  intros
  kernel_rfl
theorem iRunFirings.gof : GoF Try.prog 11 := ⟨_, Try.func11, by kernel_rfl, by kernel_rfl⟩
theorem iRunFirings.sound (n : Nat) : Sound Try.prog 11 (iRunFirings.mng n) := runF_sound (fn := Try.f11) (m := iRunFirings.mng n) (c := iRunFirings.cfg n) (regOK mixed (opOK (.of (c := iRunFirings.cfg n) ⟨⟨iIsGraph.sound n, iIsGraph.gof⟩, ⟨⟨first.sound n, first.gof⟩, ⟨⟨cloneI.sound n, cloneI.gof⟩, ⟨⟨fire.sound n, fire.gof⟩, trivial⟩⟩⟩⟩) (.of (c := iRunFirings.cfg n) trivial)) (tysOK tys14_ok)) (tysOK tys14_ok) Try.func11 (fun x => (iRunFirings.eq n x.1 x.2.1).symm)
end Go.AmT
