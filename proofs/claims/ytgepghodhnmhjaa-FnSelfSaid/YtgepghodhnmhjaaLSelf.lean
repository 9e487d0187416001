/- Functions that the law FnSelf reaches, each as a plain Lean function, and that each does what that says. No condition. -/
import Derived.Test.YtgepghodhnmhjaaPPerm
namespace Go.AmT
open Go Go.Am Go.Proofs
set_option linter.unusedVariables false
set_option maxRecDepth 100000
def tys18 : List (Nat × TInfo) := [(3, ⟨false, 1, 8, [.int .i64 0], .int .i64, 0, some I, [], false⟩),
  (9, ⟨false, 1, 16, [.str []], .str, 0, some .str, [], false⟩),
  (22, ⟨false, 1, 24, [.nil], .slice, 5, some (.sl U8), [], false⟩),
  (23, ⟨false, 1, 24, [.nil], .slice, 71, some (.sl tProgram), [], false⟩),
  (24, ⟨false, 1, 24, [.nil], .slice, 53, some (.sl tLink), [], false⟩),
  (26, ⟨true, 2, 48, [.nil, .nil], .struct, 0, some tNetwork, [(0, 23), (1, 24)], false⟩),
  (37, ⟨false, 1, 24, [.nil], .slice, 3, some IS, [], false⟩),
  (53, ⟨true, 5, 56, [.int .i64 0, .int .i64 0, .int .i64 0, .int .i64 0, .nil], .struct, 0, some tLink, [(0, 3), (1, 3), (2, 3), (3, 3), (4, 37)], false⟩),
  (71, ⟨true, 3, 40, [.int .i64 0, .int .i64 0, .nil], .struct, 0, some tProgram, [(0, 3), (1, 3), (2, 69)], false⟩)]
theorem tys18_ok : (tys18.all fun p => tokB Try.prog p.1 p.2) = true := by kernel_rfl

def law.las : List (Nat × LA) := [(13, ⟨[(6, .vptr 1000 0), (7, .int .i64)], [(1000, .cells [] [.own 1001 tProgram, .own 1002 tLink]), (1001, .row false tProgram), (1002, .row true tLink)], [3, 4, 5], []⟩), (21, ⟨[(6, .vptr 1000 0), (8, .int .i64)], [(1000, .cells [] [.own 1001 tProgram, .own 1002 tLink]), (1001, .row false tProgram), (1002, .row true tLink)], [3, 4, 5], []⟩), (30, ⟨[(9, .own 1000 I), (68, .int .i64)], [(1000, .row true I)], [3, 4, 6, 67], []⟩)]
noncomputable def law.f (n : Nat) (a0 : List Int) : Option (Bool × Unit) := br (decide (1048576 < (a0.length : Int))) (some (true, ())) ((makeNetwork.f n a0 5).bind fun r1 => br (decide ((r1.1.1.length : Int) = 0)) (some (true, ())) ((lawAt.f n a0 1).bind fun r2 => if (r1.1.1.length : Int) = 0 then none else chk (0 ≤ (r2.1.tmod (r1.1.1.length : Int)) ∧ (r2.1.tmod (r1.1.1.length : Int)) < (r1.1.1.length : Int)) (let v3 := (r1.1.1.getD (r2.1.tmod (r1.1.1.length : Int)).toNat zProgram); iter (α := (Int × (List Program) × (List Link) × Unit)) n (fun ih24 x23 => br (decide (x23.1 < v3.1)) (chk ((x23.2.2.1.length + ([((-1), (0, (0, (x23.1, []))))] : List Link).length) * 56 ≤ maxB) (ih24 ((w64 (x23.1 + 1)), (x23.2.1, ((x23.2.2.1 ++ [((-1), (0, (0, (x23.1, []))))]), ()))))) (iter (α := (Int × (List Program) × (List Link) × Unit)) n (fun ih37 x36 => br (decide (x36.1 < v3.2.1)) (chk ((x36.2.2.1.length + ([(0, (x36.1, ((-1), (0, []))))] : List Link).length) * 56 ≤ maxB) (ih37 ((w64 (x36.1 + 1)), (x36.2.1, ((x36.2.2.1 ++ [(0, (x36.1, ((-1), (0, []))))]), ()))))) (iter (α := (Int × (List Int) × Unit)) n (fun ih49 x48 => br (decide (x48.1 < (r1.1.1.length : Int))) (br (!decide (x48.1 = (r2.1.tmod (r1.1.1.length : Int)))) (chk ((x48.2.1.length + ([x48.1] : List Int).length) * 8 ≤ maxB) (ih49 ((w64 (x48.1 + 1)), ((x48.2.1 ++ [x48.1]), ())))) (ih49 ((w64 (x48.1 + 1)), (x48.2.1, ())))) (chk ((x48.2.1.length + ([(r2.1.tmod (r1.1.1.length : Int))] : List Int).length) * 8 ≤ maxB) ((iExp.f n r1.1 (r2.1.tmod (r1.1.1.length : Int)) (x36.2.1, x36.2.2.1)).bind fun r50 => (iPermute.f n r1.1 (x48.2.1 ++ [(r2.1.tmod (r1.1.1.length : Int))])).bind fun r51 => (iIsTemplate.f n r1.1 (r2.1.tmod (r1.1.1.length : Int)) (x36.2.1, x36.2.2.1)).bind fun r52 => br r52.1 (br r50.2.1 (br r51.2.1 ((fmtNetwork.f n r50.1).bind fun r53 => (fmtNetwork.f n r51.1).bind fun r54 => some ((decide (r53.1 = r54.1)), ())) (some (false, ()))) (some (false, ()))) (some (false, ()))))) (0, ([], ())))) (0, (x23.2.1, (x23.2.2.1, ()))))) (0, ([v3], ([], ()))))))
noncomputable def law.mng (n : Nat) : Mng := ⟨[.val (.sl U8)], [.val .bool], fun x => law.f n x.1⟩
noncomputable def law.cfg (n : Nat) : Cfg := ⟨tys18, [(14, makeNetwork.mng n), (36, lawAt.mng n), (49, iExp.mng n), (50, iPermute.mng n), (51, iIsTemplate.mng n), (48, fmtNetwork.mng n)], [], []⟩
theorem law.eq : ∀ (n : Nat) (a0 : List Int), runF (law.cfg n) n Try.f12 (annOf Try.f12 law.las) [.val (.sl U8)] [.val .bool] (a0, ()) = law.f n a0 := by
  intros
  kernel_rfl
theorem law.sound (n : Nat) : Sound Try.prog 12 (law.mng n) := runF_sound (fn := Try.f12) (m := law.mng n) (c := law.cfg n) (regOK mixed (opOK (.of (c := law.cfg n) ⟨⟨makeNetwork.sound n, makeNetwork.gof⟩, ⟨⟨lawAt.sound n, lawAt.gof⟩, ⟨⟨iExp.sound n, iExp.gof⟩, ⟨⟨iPermute.sound n, iPermute.gof⟩, ⟨⟨iIsTemplate.sound n, iIsTemplate.gof⟩, ⟨⟨fmtNetwork.sound n, fmtNetwork.gof⟩, trivial⟩⟩⟩⟩⟩⟩) (.of (c := law.cfg n) trivial)) (tysOK tys18_ok)) (tysOK tys18_ok) Try.func12 (fun x => (law.eq n x.1).symm)
end Go.AmT
