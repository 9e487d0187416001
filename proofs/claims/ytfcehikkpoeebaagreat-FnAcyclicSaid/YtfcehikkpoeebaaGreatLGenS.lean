/- Functions that the law FnAcyclic reaches, each as a plain Lean function, and that each does what that says. No condition. -/
import Derived.Test.YtfcehikkpoeebaaGreatPGen
namespace Go.AmT
open Go Go.Am Go.Proofs
set_option linter.unusedVariables false
set_option maxRecDepth 100000
def tys14 : List (Nat × TInfo) := [(3, ⟨false, 1, 8, [.int .i64 0], .int .i64, 0, some I, [], false⟩),
  (5, ⟨false, 1, 1, [.int .u8 0], .int .u8, 0, some U8, [], false⟩),
  (22, ⟨false, 1, 24, [.nil], .slice, 5, some (.sl U8), [], false⟩)]
theorem tys14_ok : (tys14.all fun p => tokB Tryz.prog p.1 p.2) = true := by kernel_rfl

def fresh.las : List (Nat × LA) := [(4, ⟨[(5, .own 1000 U8), (6, .int .i64)], [(1000, .row true U8)], [0, 1], []⟩), (5, ⟨[(17, .bool)], [], [0, 1, 5, 6], []⟩)]
noncomputable def fresh.f (n : Nat) (a0 : List Int) (a1 : Int) : Option ((List Int) × Unit) := iter (α := (Int × (List Int) × Unit)) n (fun ih7 x6 => cut (α := (Bool × Unit)) (br (decide (x6.1 < (a0.length : Int))) (some (.inr ((decide (x6.1 < 600)), ()))) (some (.inr (false, ())))) fun y8 => br y8.1 (chk (0 ≤ x6.1 ∧ x6.1 < (a0.length : Int)) (chk ((x6.2.1.length + ([(IntKind.wrap .u8 ((w64 ((w64 ((w64 ((a0.getD x6.1.toNat 0))) * 3)) + (w64 (a1 * (w64 ((x6.1.tmod 7) + 1))))))))] : List Int).length) * 1 ≤ maxB) (ih7 ((w64 (x6.1 + 1)), ((x6.2.1 ++ [(IntKind.wrap .u8 ((w64 ((w64 ((w64 ((a0.getD x6.1.toNat 0))) * 3)) + (w64 (a1 * (w64 ((x6.1.tmod 7) + 1))))))))]), ()))))) (some (x6.2.1, ()))) (0, ([(IntKind.wrap .u8 (a1))], ()))
noncomputable def fresh.mng (n : Nat) : Mng := ⟨[.val (.sl U8), .val I], [.sh (.sl U8)], fun x => fresh.f n x.1 x.2.1⟩
noncomputable def fresh.cfg (n : Nat) : Cfg := ⟨tys14, [], [], []⟩
theorem fresh.eq : ∀ (n : Nat) (a0 : List Int) (a1 : Int), runF (fresh.cfg n) n Tryz.f12 (annOf Tryz.f12 fresh.las) [.val (.sl U8), .val I] [.sh (.sl U8)] (a0, (a1, ())) = fresh.f n a0 a1 := by
  intros
  kernel_rfl
theorem fresh.gof : GoF Tryz.prog 12 := ⟨_, Tryz.func12, by kernel_rfl, by kernel_rfl⟩
theorem fresh.sound (n : Nat) : Sound Tryz.prog 12 (fresh.mng n) := runF_sound (fn := Tryz.f12) (m := fresh.mng n) (c := fresh.cfg n) (regOK mixed (opOK (.of (c := fresh.cfg n) trivial) (.of (c := fresh.cfg n) trivial)) (tysOK tys14_ok)) (tysOK tys14_ok) Tryz.func12 (fun x => (fresh.eq n x.1 x.2.1).symm)

def lawAt.las : List (Nat × LA) := []
noncomputable def lawAt.f (n : Nat) (a0 : List Int) (a1 : Int) : Option (Int × Unit) := br (decide (a1 < (a0.length : Int))) (chk (0 ≤ a1 ∧ a1 < (a0.length : Int)) (some ((w64 ((a0.getD a1.toNat 0))), ()))) (some (((w64 ((w64 (a1 * 37)) + (w64 ((a0.length : Int) * 11)))).tmod 256), ()))
noncomputable def lawAt.mng (n : Nat) : Mng := ⟨[.val (.sl U8), .val I], [.val I], fun x => lawAt.f n x.1 x.2.1⟩
noncomputable def lawAt.cfg (n : Nat) : Cfg := ⟨tys14, [], [], []⟩
theorem lawAt.eq : ∀ (n : Nat) (a0 : List Int) (a1 : Int), runF (lawAt.cfg n) n Tryz.f8 (annOf Tryz.f8 lawAt.las) [.val (.sl U8), .val I] [.val I] (a0, (a1, ())) = lawAt.f n a0 a1 := by
  intros
  kernel_rfl
theorem lawAt.gof : GoF Tryz.prog 8 := ⟨_, Tryz.func8, by kernel_rfl, by kernel_rfl⟩
theorem lawAt.sound (n : Nat) : Sound Tryz.prog 8 (lawAt.mng n) := runF_sound (fn := Tryz.f8) (m := lawAt.mng n) (c := lawAt.cfg n) (regOK mixed (opOK (.of (c := lawAt.cfg n) trivial) (.of (c := lawAt.cfg n) trivial)) (tysOK tys14_ok)) (tysOK tys14_ok) Tryz.func8 (fun x => (lawAt.eq n x.1 x.2.1).symm)
end Go.AmT
