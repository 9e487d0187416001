/- Functions that the law FnRates reaches, each as a plain Lean function, and that each does what that says. No condition. -/
import Derived.Test.YtfcehikkpoeebaaPRepS2
import Derived.Test.YtfcehikkpoeebaaPFirR
namespace Go.AmT
open Go Go.Am Go.Proofs
set_option linter.unusedVariables false
set_option maxRecDepth 100000
def tys15 : List (Nat × TInfo) := [(3, ⟨false, 1, 8, [.int .i64 0], .int .i64, 0, some I, [], false⟩),
  (25, ⟨true, 2, 32, [.int .i64 0, .nil], .struct, 0, some tGraph, [(0, 3), (1, 23)], false⟩),
  (33, ⟨false, 1, 24, [.nil], .slice, 3, some IS, [], false⟩)]
theorem tys15_ok : (tys15.all fun p => tokB Try.prog p.1 p.2) = true := by kernel_rfl

def sSchedule.las : List (Nat × LA) := [(8, ⟨[(6, .int .i64), (24, .int .i64)], [], [1, 4, 22, 23], []⟩), (18, ⟨[(4, .own 1000 I), (6, .int .i64), (9, .own 1001 I), (10, .own 1002 I)], [(1000, .row true I), (1001, .row true I), (1002, .row true I)], [1], []⟩), (25, ⟨[(4, .own 1000 I), (9, .own 1001 I), (10, .own 1002 I), (11, .bool), (12, .int .i64)], [(1000, .row true I), (1001, .row true I), (1002, .row true I)], [1, 6], []⟩), (26, ⟨[(46, .bool)], [], [1, 4, 6, 9, 10, 11, 12], []⟩), (30, ⟨[(63, .bool)], [], [1, 4, 6, 9, 10, 11, 12, 13], []⟩)]
noncomputable def sSchedule.f (n : Nat) (a0 : Graph) : Option ((List Int) × (Bool × Unit)) := (sRep.f n a0).bind fun r1 => br (!r1.2.1) (some ([], (false, ()))) (iter (α := (Int × (Int × Unit))) n (fun ih11 x10 => br (decide (x10.2.1 < (r1.1.length : Int))) (chk (0 ≤ x10.2.1 ∧ x10.2.1 < (r1.1.length : Int)) (ih11 ((w64 (x10.1 + (r1.1.getD x10.2.1.toNat 0))), ((w64 (x10.2.1 + 1)), ())))) ((l7Tokens.f n a0).bind fun r12 => iter (α := (Int × (List Int) × (List Int) × (List Int) × Unit)) n (fun ih44 x43 => br (decide (0 < x43.1)) (iter (α := (Bool × (Int × (List Int) × (List Int) × (List Int) × Unit))) n (fun ih64 x63 => cut (α := (Bool × Unit)) (br (decide (x63.2.1 < a0.1)) (some (.inr ((!x63.1), ()))) (some (.inr (false, ())))) fun y65 => br y65.1 ((l7Fire.f n a0 x63.2.2.2.1 x63.2.1).bind fun r66 => cut (α := (Bool × Unit)) (br r66.2.1 (chk (0 ≤ x63.2.1 ∧ x63.2.1 < (x63.2.2.1.length : Int)) (some (.inr ((decide (0 < (x63.2.2.1.getD x63.2.1.toNat 0))), ())))) (some (.inr (false, ())))) fun y67 => br y67.1 (chk (0 ≤ x63.2.1 ∧ x63.2.1 < (x63.2.2.1.length : Int)) (chk (0 ≤ x63.2.1 ∧ x63.2.1 < (x63.2.2.1.length : Int)) (let v68 := (x63.2.2.1.set x63.2.1.toNat (w64 ((x63.2.2.1.getD x63.2.1.toNat 0) - 1))); chk ((x63.2.2.2.2.1.length + ([x63.2.1] : List Int).length) * 8 ≤ maxB) (ih64 (true, ((w64 (x63.2.1 + 1)), (v68, (r66.1, ((x63.2.2.2.2.1 ++ [x63.2.1]), ()))))))))) (ih64 (x63.1, ((w64 (x63.2.1 + 1)), (x63.2.2.1, (x63.2.2.2.1, (x63.2.2.2.2.1, ()))))))) (br (!x63.1) (some ([], (false, ()))) (ih44 ((w64 (x43.1 - 1)), (x63.2.2.1, (x63.2.2.2.1, (x63.2.2.2.2.1, ()))))))) (false, (0, (x43.2.1, (x43.2.2.1, (x43.2.2.2.1, ())))))) (some (x43.2.2.2.1, (true, ())))) (x10.1, (r1.1, (r12.1, ([], ())))))) (0, (0, ())))
noncomputable def sSchedule.mng (n : Nat) : Mng := ⟨[.val tGraph], [.val IS, .val .bool], fun x => sSchedule.f n x.1⟩
noncomputable def sSchedule.cfg (n : Nat) : Cfg := ⟨tys15, [(24, sRep.mng n), (25, l7Tokens.mng n), (26, l7Fire.mng n)], [], []⟩
theorem sSchedule.eq : ∀ (n : Nat) (a0 : Graph), runF (sSchedule.cfg n) n Try.f7 (annOf Try.f7 sSchedule.las) [.val tGraph] [.val IS, .val .bool] (a0, ()) = sSchedule.f n a0 := by
  intros
  kernel_rfl
theorem sSchedule.gof : GoF Try.prog 7 := ⟨_, Try.func7, by kernel_rfl, by kernel_rfl⟩
theorem sSchedule.sound (n : Nat) : Sound Try.prog 7 (sSchedule.mng n) := runF_sound (fn := Try.f7) (m := sSchedule.mng n) (c := sSchedule.cfg n) (regOK mixed (opOK (.of (c := sSchedule.cfg n) ⟨⟨sRep.sound n, sRep.gof⟩, ⟨⟨l7Tokens.sound n, l7Tokens.gof⟩, ⟨⟨l7Fire.sound n, l7Fire.gof⟩, trivial⟩⟩⟩) (.of (c := sSchedule.cfg n) trivial)) (tysOK tys15_ok)) (tysOK tys15_ok) Try.func7 (fun x => (sSchedule.eq n x.1).symm)
end Go.AmT
