/- Functions that the law FnAcyclic reaches, each as a plain Lean function, and that each does what that says. No condition. -/
import Derived.Test.YtfcehikkpoeebaaGreatPChain
namespace Go.AmT
open Go Go.Am Go.Proofs
set_option linter.unusedVariables false
set_option maxRecDepth 100000
def tys19 : List (Nat × TInfo) := [(3, ⟨false, 1, 8, [.int .i64 0], .int .i64, 0, some I, [], false⟩),
  (4, ⟨false, 1, 1, [.bool false], .bool, 0, some .bool, [], false⟩),
  (9, ⟨false, 1, 16, [.str []], .str, 0, some .str, [], false⟩),
  (22, ⟨false, 1, 24, [.nil], .slice, 5, some (.sl U8), [], false⟩),
  (23, ⟨false, 1, 24, [.nil], .slice, 35, some (.sl tProgram), [], false⟩),
  (26, ⟨true, 2, 48, [.nil, .nil], .struct, 0, some tNetwork, [(0, 23), (1, 24)], false⟩),
  (35, ⟨true, 3, 40, [.int .i64 0, .int .i64 0, .nil], .struct, 0, some tProgram, [(0, 3), (1, 3), (2, 33)], false⟩),
  (37, ⟨false, 1, 24, [.nil], .slice, 9, some (.sl .str), [], false⟩),
  (45, ⟨true, 4, 80, [.nil, .nil, .nil, .int .i64 0], .struct, 0, some tState, [(0, 43), (1, 29), (2, 29), (3, 3)], false⟩)]
theorem tys19_ok : (tys19.all fun p => tokB Tryz.prog p.1 p.2) = true := by kernel_rfl

def law.las : List (Nat × LA) := [(6, ⟨[], [], [0], []⟩), (15, ⟨[(10, .own 1000 tProgram), (11, .int .i64)], [(1000, .row true tProgram)], [0], []⟩)]
noncomputable def law.f (n : Nat) (a0 : List Int) : Option (Bool × Unit) := br (decide (1048576 < (a0.length : Int))) (some (true, ())) ((makeNetwork.f n a0 6).bind fun r1 => (iHasCycle.f n r1.1).bind fun r2 => cut (α := (Unit)) (br (!r2.1) ((iLeast.f n r1.1).bind fun r6 => (sLeast.f n r1.1).bind fun r7 => br (!decide (r6.2.2.1 = r7.2.2.1)) (some (.inl (false, ()))) (br r6.2.2.1 (br (decide ((w64 ((r1.1.1.length : Int) + 1)) < r6.2.1)) (some (.inl (false, ()))) (some (.inr ()))) (some (.inr ())))) (some (.inr ()))) fun y5 => iter (α := (Int × (List Program) × Unit)) n (fun ih26 x25 => (lawAt.f n a0 1).bind fun r27 => br (decide (x25.1 < (w64 (1 + (r27.1.tmod 4))))) ((lawAt.f n a0 (w64 (x25.1 + 2))).bind fun r28 => br (decide ((r28.1.tmod 4) = 3)) ((sSampleProgram.f n ([116, 119, 105, 99, 101] : List UInt8)).bind fun r29 => chk ((x25.2.1.length + ([r29.1] : List Program).length) * 40 ≤ maxB) (ih26 ((w64 (x25.1 + 1)), ((x25.2.1 ++ [r29.1]), ())))) (br (decide ((r28.1.tmod 4) = 2)) ((sSampleProgram.f n ([115, 116, 101, 112, 115] : List UInt8)).bind fun r30 => chk ((x25.2.1.length + ([r30.1] : List Program).length) * 40 ≤ maxB) (ih26 ((w64 (x25.1 + 1)), ((x25.2.1 ++ [r30.1]), ())))) (br (decide ((r28.1.tmod 4) = 1)) ((sSampleProgram.f n ([115, 117, 109, 115] : List UInt8)).bind fun r31 => chk ((x25.2.1.length + ([r31.1] : List Program).length) * 40 ≤ maxB) (ih26 ((w64 (x25.1 + 1)), ((x25.2.1 ++ [r31.1]), ())))) (br (decide ((r28.1.tmod 4) = 0)) ((sSampleProgram.f n ([116, 104, 114, 111, 117, 103, 104] : List UInt8)).bind fun r32 => chk ((x25.2.1.length + ([r32.1] : List Program).length) * 40 ≤ maxB) (ih26 ((w64 (x25.1 + 1)), ((x25.2.1 ++ [r32.1]), ())))) (none))))) ((fresh.f n a0 3).bind fun r33 => (makeStream.f n r33.1 6).bind fun r34 => (iChain.f n x25.2.1 r34.1).bind fun r35 => br (!r35.2.1) (some (false, ())) ((sStartState.f n r35.1).bind fun r36 => (iUni.f n r35.1 1).bind fun r37 => (iRunBounded.f n r35.1 r36.1 r37.1 5000).bind fun r38 => some ((decide (r38.2.1 = 1)), ())))) (0, ([], ())))
noncomputable def law.mng (n : Nat) : Mng := ⟨[.val (.sl U8)], [.val .bool], fun x => law.f n x.1⟩
noncomputable def law.cfg (n : Nat) : Cfg := ⟨tys19, [(4, makeNetwork.mng n), (5, iHasCycle.mng n), (6, iLeast.mng n), (7, sLeast.mng n), (8, lawAt.mng n), (9, sSampleProgram.mng n), (12, fresh.mng n), (11, makeStream.mng n), (10, iChain.mng n), (14, sStartState.mng n), (15, iUni.mng n), (13, iRunBounded.mng n)], [], [2000047, 2000048]⟩
theorem law.eq : ∀ (n : Nat) (a0 : List Int), runF (law.cfg n) n Tryz.f3 (annOf Tryz.f3 law.las) [.val (.sl U8)] [.val .bool] (a0, ()) = law.f n a0 := by
  intros
  kernel_rfl
theorem law.sound (n : Nat) : Sound Tryz.prog 3 (law.mng n) := runF_sound (fn := Tryz.f3) (m := law.mng n) (c := law.cfg n) (regOK mixed (opOK (.of (c := law.cfg n) ⟨⟨makeNetwork.sound n, makeNetwork.gof⟩, ⟨⟨iHasCycle.sound n, iHasCycle.gof⟩, ⟨⟨iLeast.sound n, iLeast.gof⟩, ⟨⟨sLeast.sound n, sLeast.gof⟩, ⟨⟨lawAt.sound n, lawAt.gof⟩, ⟨⟨sSampleProgram.sound n, sSampleProgram.gof⟩, ⟨⟨fresh.sound n, fresh.gof⟩, ⟨⟨makeStream.sound n, makeStream.gof⟩, ⟨⟨iChain.sound n, iChain.gof⟩, ⟨⟨sStartState.sound n, sStartState.gof⟩, ⟨⟨iUni.sound n, iUni.gof⟩, ⟨⟨iRunBounded.sound n, iRunBounded.gof⟩, trivial⟩⟩⟩⟩⟩⟩⟩⟩⟩⟩⟩⟩) (.of (c := law.cfg n) trivial)) (tysOK tys19_ok)) (tysOK tys19_ok) Tryz.func3 (fun x => (law.eq n x.1).symm)
end Go.AmT
