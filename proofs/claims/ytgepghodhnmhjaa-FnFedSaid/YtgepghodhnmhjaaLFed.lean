/- Functions that the law FnFed reaches, each as a plain Lean function, and that each does what that says. No condition. -/
import Derived.Test.YtgepghodhnmhjaaPFeed
namespace Go.AmT
open Go Go.Am Go.Proofs
set_option linter.unusedVariables false
set_option maxRecDepth 100000
def tys16 : List (Nat × TInfo) := [(3, ⟨false, 1, 8, [.int .i64 0], .int .i64, 0, some I, [], false⟩),
  (9, ⟨false, 1, 16, [.str []], .str, 0, some .str, [], false⟩),
  (22, ⟨false, 1, 24, [.nil], .slice, 5, some (.sl U8), [], false⟩),
  (24, ⟨false, 1, 24, [.nil], .slice, 53, some (.sl tLink), [], false⟩),
  (26, ⟨true, 2, 48, [.nil, .nil], .struct, 0, some tNetwork, [(0, 23), (1, 24)], false⟩),
  (37, ⟨false, 1, 24, [.nil], .slice, 3, some IS, [], false⟩),
  (53, ⟨true, 5, 56, [.int .i64 0, .int .i64 0, .int .i64 0, .int .i64 0, .nil], .struct, 0, some tLink, [(0, 3), (1, 3), (2, 3), (3, 3), (4, 37)], false⟩)]
theorem tys16_ok : (tys16.all fun p => tokB Try.prog p.1 p.2) = true := by kernel_rfl

def makeStream.las : List (Nat × LA) := []
noncomputable def makeStream.f (n : Nat) (a0 : List Int) (a1 : Int) : Option ((List Int) × Unit) := (curNew.f n a0).bind fun r1 => (l3Tokens.f n (max 0 (min a1 100)) r1.1 r1.2.1 r1.2.2.1).bind fun r2 => some (r2.1, ())
noncomputable def makeStream.mng (n : Nat) : Mng := ⟨[.val (.sl U8), .val I], [.val IS], fun x => makeStream.f n x.1 x.2.1⟩
noncomputable def makeStream.cfg (n : Nat) : Cfg := ⟨tys16, [], [(54, curNew.mng n), (105, l3Tokens.mng n)], []⟩
theorem makeStream.eq : ∀ (n : Nat) (a0 : List Int) (a1 : Int), runF (makeStream.cfg n) n Try.f47 (annOf Try.f47 makeStream.las) [.val (.sl U8), .val I] [.val IS] (a0, (a1, ())) = makeStream.f n a0 a1 := by
  intros
  kernel_rfl
theorem makeStream.gof : GoF Try.prog 47 := ⟨_, Try.func47, by kernel_rfl, by kernel_rfl⟩
theorem makeStream.sound (n : Nat) : Sound Try.prog 47 (makeStream.mng n) := runF_sound (fn := Try.f47) (m := makeStream.mng n) (c := makeStream.cfg n) (regOK mixed (opOK (.of (c := makeStream.cfg n) trivial) (.of (c := makeStream.cfg n) ⟨⟨curNew.sound n, curNew.gof⟩, ⟨⟨l3Tokens.sound n, l3Tokens.gof⟩, trivial⟩⟩)) (tysOK tys16_ok)) (tysOK tys16_ok) Try.func47 (fun x => (makeStream.eq n x.1 x.2.1).symm)

def law.las : List (Nat × LA) := [(14, ⟨[(87, .bool)], [], [3, 4, 5, 6, 11], []⟩), (19, ⟨[(91, .int .i64)], [], [4, 5, 6, 11, 89, 90], []⟩), (26, ⟨[(15, .int .i64)], [], [4, 5, 6, 11, 13, 14, 89, 90, 91], []⟩)]
noncomputable def law.f (n : Nat) (a0 : List Int) : Option (Bool × Unit) := br (decide (1048576 < (a0.length : Int))) (some (true, ())) ((makeNetwork.f n a0 6).bind fun r1 => br (decide ((r1.1.2.length : Int) = 0)) (some (true, ())) ((lawAt.f n a0 1).bind fun r2 => if (r1.1.2.length : Int) = 0 then none else (fresh.f n a0 3).bind fun r3 => (makeStream.f n r3.1 6).bind fun r4 => (fresh.f n a0 5).bind fun r5 => (makeStream.f n r5.1 6).bind fun r6 => (iFeed.f n r1.1 (r2.1.tmod (r1.1.2.length : Int)) r4.1).bind fun r7 => (iFeed.f n r7.1 (r2.1.tmod (r1.1.2.length : Int)) r6.1).bind fun r8 => chk ((([] : List Int).length + r4.1.length) * 8 ≤ maxB) (chk (((([] : List Int) ++ r4.1).length + r6.1.length) * 8 ≤ maxB) ((iFeed.f n r1.1 (r2.1.tmod (r1.1.2.length : Int)) ((([] : List Int) ++ r4.1) ++ r6.1)).bind fun r9 => cut (α := (Bool × Unit)) (br (!r7.2.1) (some (.inr (true, ()))) (br (!r8.2.1) (some (.inr (true, ()))) (br (!r9.2.1) (some (.inr (true, ()))) ((fmtNetwork.f n r8.1).bind fun r13 => (fmtNetwork.f n r9.1).bind fun r14 => br (!decide (r13.1 = r14.1)) (some (.inr (true, ()))) (some (.inr ((!decide ((r9.1.2.length : Int) = (r1.1.2.length : Int))), ()))))))) fun y12 => br y12.1 (some (false, ())) (iter (α := (Int × Unit)) n (fun ih26 x25 => br (decide (x25.1 < (r1.1.2.length : Int))) (chk (0 ≤ x25.1 ∧ x25.1 < (r1.1.2.length : Int)) (let v27 := (r1.1.2.getD x25.1.toNat zLink); cut (α := (Int × Unit)) (br (decide (x25.1 = (r2.1.tmod (r1.1.2.length : Int)))) (some (.inr ((w64 ((r4.1.length : Int) + (r6.1.length : Int))), ()))) (some (.inr (0, ())))) fun y28 => chk (0 ≤ x25.1 ∧ x25.1 < (r9.1.2.length : Int)) (br (!decide (((r9.1.2.getD x25.1.toNat zLink).2.2.2.2.length : Int) = (w64 ((v27.2.2.2.2.length : Int) + y28.1)))) (some (false, ())) (ih26 ((w64 (x25.1 + 1)), ()))))) (some (true, ()))) (0, ()))))))
noncomputable def law.mng (n : Nat) : Mng := ⟨[.val (.sl U8)], [.val .bool], fun x => law.f n x.1⟩
noncomputable def law.cfg (n : Nat) : Cfg := ⟨tys16, [(14, makeNetwork.mng n), (36, lawAt.mng n), (23, fresh.mng n), (47, makeStream.mng n), (46, iFeed.mng n), (48, fmtNetwork.mng n)], [], []⟩
theorem law.eq : ∀ (n : Nat) (a0 : List Int), runF (law.cfg n) n Try.f11 (annOf Try.f11 law.las) [.val (.sl U8)] [.val .bool] (a0, ()) = law.f n a0 := by
  intros
  kernel_rfl
theorem law.sound (n : Nat) : Sound Try.prog 11 (law.mng n) := runF_sound (fn := Try.f11) (m := law.mng n) (c := law.cfg n) (regOK mixed (opOK (.of (c := law.cfg n) ⟨⟨makeNetwork.sound n, makeNetwork.gof⟩, ⟨⟨lawAt.sound n, lawAt.gof⟩, ⟨⟨fresh.sound n, fresh.gof⟩, ⟨⟨makeStream.sound n, makeStream.gof⟩, ⟨⟨iFeed.sound n, iFeed.gof⟩, ⟨⟨fmtNetwork.sound n, fmtNetwork.gof⟩, trivial⟩⟩⟩⟩⟩⟩) (.of (c := law.cfg n) trivial)) (tysOK tys16_ok)) (tysOK tys16_ok) Try.func11 (fun x => (law.eq n x.1).symm)
end Go.AmT
