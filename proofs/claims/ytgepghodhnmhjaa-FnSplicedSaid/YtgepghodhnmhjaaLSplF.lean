/- Functions that the law FnSpliced reaches, each as a plain Lean function, and that each does what that says. No condition. -/
import Derived.Test.YtgepghodhnmhjaaPSplice
namespace Go.AmT
open Go Go.Am Go.Proofs
set_option linter.unusedVariables false
set_option maxRecDepth 100000
def tys17 : List (Nat × TInfo) := [(3, ⟨false, 1, 8, [.int .i64 0], .int .i64, 0, some I, [], false⟩),
  (4, ⟨false, 1, 1, [.bool false], .bool, 0, some .bool, [], false⟩),
  (22, ⟨false, 1, 24, [.nil], .slice, 5, some (.sl U8), [], false⟩),
  (24, ⟨false, 1, 24, [.nil], .slice, 53, some (.sl tLink), [], false⟩),
  (26, ⟨true, 2, 48, [.nil, .nil], .struct, 0, some tNetwork, [(0, 23), (1, 24)], false⟩),
  (31, ⟨false, 1, 24, [.nil], .slice, 37, some (.sl IS), [], false⟩),
  (37, ⟨false, 1, 24, [.nil], .slice, 3, some IS, [], false⟩)]
theorem tys17_ok : (tys17.all fun p => tokB Try.prog p.1 p.2) = true := by kernel_rfl

def intsF.las : List (Nat × LA) := [(6, ⟨[(13, .int .i64)], [], [0, 1, 12], []⟩)]
noncomputable def intsF.f (n : Nat) (a0 : List Int) (a1 : List Int) : Option (Bool × Unit) := br (!decide ((a0.length : Int) = (a1.length : Int))) (some (false, ())) (iter (α := (Int × Unit)) n (fun ih6 x5 => br (decide (x5.1 < (a0.length : Int))) (chk (0 ≤ x5.1 ∧ x5.1 < (a0.length : Int)) (chk (0 ≤ x5.1 ∧ x5.1 < (a1.length : Int)) (br (!decide ((a0.getD x5.1.toNat 0) = (a1.getD x5.1.toNat 0))) (some (false, ())) (ih6 ((w64 (x5.1 + 1)), ()))))) (some (true, ()))) (0, ()))
noncomputable def intsF.mng (n : Nat) : Mng := ⟨[.val IS, .val IS], [.val .bool], fun x => intsF.f n x.1 x.2.1⟩
noncomputable def intsF.cfg (n : Nat) : Cfg := ⟨tys17, [], [], []⟩
theorem intsF.eq : ∀ (n : Nat) (a0 : List Int) (a1 : List Int), runF (intsF.cfg n) n Try.f43 (annOf Try.f43 intsF.las) [.val IS, .val IS] [.val .bool] (a0, (a1, ())) = intsF.f n a0 a1 := by
  intros
  kernel_rfl
theorem intsF.gof : GoF Try.prog 43 := ⟨_, Try.func43, by kernel_rfl, by kernel_rfl⟩
theorem intsF.sound (n : Nat) : Sound Try.prog 43 (intsF.mng n) := runF_sound (fn := Try.f43) (m := intsF.mng n) (c := intsF.cfg n) (regOK mixed (opOK (.of (c := intsF.cfg n) trivial) (.of (c := intsF.cfg n) trivial)) (tysOK tys17_ok)) (tysOK tys17_ok) Try.func43 (fun x => (intsF.eq n x.1 x.2.1).symm)

def law.las : List (Nat × LA) := [(12, ⟨[(54, .bool)], [], [4, 5, 6, 7, 10, 12], []⟩), (16, ⟨[(75, .bool)], [], [4, 7, 10, 12], []⟩)]
noncomputable def law.f (n : Nat) (a0 : List Int) : Option (Bool × Unit) := br (decide (1048576 < (a0.length : Int))) (some (true, ())) ((makeNetwork.f n a0 5).bind fun r1 => br (decide ((r1.1.2.length : Int) = 0)) (some (true, ())) ((lawAt.f n a0 1).bind fun r2 => if (r1.1.2.length : Int) = 0 then none else (iSpliceThrough.f n r1.1 (r2.1.tmod (r1.1.2.length : Int))).bind fun r3 => (sLeast.f n r1.1).bind fun r4 => (iLeast.f n r3.1).bind fun r5 => cut (α := (Bool × Unit)) (br (!r3.2.1) (some (.inr (true, ()))) (some (.inr ((!r4.2.2.1), ())))) fun y6 => br y6.1 (some (r3.2.1, ())) ((sLeast.f n r3.1).bind fun r7 => cut (α := (Bool × Unit)) (br (!decide (r5.2.2.1 = r7.2.2.1)) (some (.inr (true, ()))) (br r5.2.2.1 (some (.inr ((!decide ((r5.1.length : Int) = (w64 ((r4.1.length : Int) + 1)))), ()))) (some (.inr (false, ()))))) fun y8 => br y8.1 (some (false, ())) (br (!r5.2.2.1) (some (true, ())) (chk ((0 : Int) ≤ 0 ∧ (0 : Int) ≤ (r4.1.length : Int) ∧ (r4.1.length : Int) ≤ (r5.1.length : Int)) ((makeEqual.f n ((r5.1.drop 0).take ((r4.1.length : Int).toNat - 0)) r4.1).bind fun r9 => br r9.1 (chk (0 ≤ (r4.1.length : Int) ∧ (r4.1.length : Int) < (r5.1.length : Int)) (chk (0 ≤ (r2.1.tmod (r1.1.2.length : Int)) ∧ (r2.1.tmod (r1.1.2.length : Int)) < (r4.1.length : Int)) ((intsF.f n (r5.1.getD (r4.1.length : Int).toNat []) (r4.1.getD (r2.1.tmod (r1.1.2.length : Int)).toNat [])).bind fun r10 => some (r10.1, ())))) (some (false, ()))))))))
noncomputable def law.mng (n : Nat) : Mng := ⟨[.val (.sl U8)], [.val .bool], fun x => law.f n x.1⟩
noncomputable def law.cfg (n : Nat) : Cfg := ⟨tys17, [(14, makeNetwork.mng n), (36, lawAt.mng n), (41, iSpliceThrough.mng n), (30, sLeast.mng n), (42, iLeast.mng n), (35, makeEqual.mng n), (43, intsF.mng n)], [], []⟩
theorem law.eq : ∀ (n : Nat) (a0 : List Int), runF (law.cfg n) n Try.f9 (annOf Try.f9 law.las) [.val (.sl U8)] [.val .bool] (a0, ()) = law.f n a0 := by
  intros
  kernel_rfl
theorem law.sound (n : Nat) : Sound Try.prog 9 (law.mng n) := runF_sound (fn := Try.f9) (m := law.mng n) (c := law.cfg n) (regOK mixed (opOK (.of (c := law.cfg n) ⟨⟨makeNetwork.sound n, makeNetwork.gof⟩, ⟨⟨lawAt.sound n, lawAt.gof⟩, ⟨⟨iSpliceThrough.sound n, iSpliceThrough.gof⟩, ⟨⟨sLeast.sound n, sLeast.gof⟩, ⟨⟨iLeast.sound n, iLeast.gof⟩, ⟨⟨makeEqual.sound n, makeEqual.gof⟩, ⟨⟨intsF.sound n, intsF.gof⟩, trivial⟩⟩⟩⟩⟩⟩⟩) (.of (c := law.cfg n) trivial)) (tysOK tys17_ok)) (tysOK tys17_ok) Try.func9 (fun x => (law.eq n x.1).symm)
end Go.AmT
