/- Functions that the law FnAcyclic reaches, each as a plain Lean function, and that each does what that says. No condition. -/
import Derived.Test.YtfcehikkpoeebaaGreatLReach
namespace Go.AmT
open Go Go.Am Go.Proofs
set_option linter.unusedVariables false
set_option maxRecDepth 100000
def tys18 : List (Nat × TInfo) := [(3, ⟨false, 1, 8, [.int .i64 0], .int .i64, 0, some I, [], false⟩),
  (23, ⟨false, 1, 24, [.nil], .slice, 35, some (.sl tProgram), [], false⟩),
  (24, ⟨false, 1, 24, [.nil], .slice, 59, some (.sl tLink), [], false⟩),
  (26, ⟨true, 2, 48, [.nil, .nil], .struct, 0, some tNetwork, [(0, 23), (1, 24)], false⟩),
  (35, ⟨true, 3, 40, [.int .i64 0, .int .i64 0, .nil], .struct, 0, some tProgram, [(0, 3), (1, 3), (2, 33)], false⟩),
  (40, ⟨false, 1, 24, [.nil], .slice, 3, some IS, [], false⟩),
  (59, ⟨true, 5, 56, [.int .i64 0, .int .i64 0, .int .i64 0, .int .i64 0, .nil], .struct, 0, some tLink, [(0, 3), (1, 3), (2, 3), (3, 3), (4, 40)], false⟩)]
theorem tys18_ok : (tys18.all fun p => tokB Tryz.prog p.1 p.2) = true := by kernel_rfl

def makeStream.las : List (Nat × LA) := []
noncomputable def makeStream.f (n : Nat) (a0 : List Int) (a1 : Int) : Option ((List Int) × Unit) := (curNew.f n a0).bind fun r1 => (l3Tokens.f n (max 0 (min a1 100)) r1.1 r1.2.1 r1.2.2.1).bind fun r2 => some (r2.1, ())
noncomputable def makeStream.mng (n : Nat) : Mng := ⟨[.val (.sl U8), .val I], [.val IS], fun x => makeStream.f n x.1 x.2.1⟩
noncomputable def makeStream.cfg (n : Nat) : Cfg := ⟨tys18, [], [(16, curNew.mng n), (31, l3Tokens.mng n)], []⟩
theorem makeStream.eq : ∀ (n : Nat) (a0 : List Int) (a1 : Int), runF (makeStream.cfg n) n Tryz.f11 (annOf Tryz.f11 makeStream.las) [.val (.sl U8), .val I] [.val IS] (a0, (a1, ())) = makeStream.f n a0 a1 := by
  intros
  kernel_rfl
theorem makeStream.gof : GoF Tryz.prog 11 := ⟨_, Tryz.func11, by kernel_rfl, by kernel_rfl⟩
theorem makeStream.sound (n : Nat) : Sound Tryz.prog 11 (makeStream.mng n) := runF_sound (fn := Tryz.f11) (m := makeStream.mng n) (c := makeStream.cfg n) (regOK mixed (opOK (.of (c := makeStream.cfg n) trivial) (.of (c := makeStream.cfg n) ⟨⟨curNew.sound n, curNew.gof⟩, ⟨⟨l3Tokens.sound n, l3Tokens.gof⟩, trivial⟩⟩)) (tysOK tys18_ok)) (tysOK tys18_ok) Tryz.func11 (fun x => (makeStream.eq n x.1 x.2.1).symm)

def iUni.las : List (Nat × LA) := [(1, ⟨[(18, .bool)], [], [1, 2], []⟩), (7, ⟨[(5, .own 1000 I), (23, .int .i64)], [(1000, .row true I)], [1, 21, 22], []⟩)]
noncomputable def iUni.f (n : Nat) (a0 : Network) (a1 : Int) : Option ((List Int) × Unit) := cut (α := (Bool × Unit)) ((iIsNetwork.f n a0).bind fun r3 => br (!r3.1) (some (.inr (true, ()))) (br (decide (a1 < 0)) (some (.inr (true, ()))) (some (.inr ((decide (400 < a1)), ()))))) fun y2 => br y2.1 (some ([], ())) (iter (α := (Int × (List Int) × Unit)) n (fun ih10 x9 => br (decide (x9.1 < (a0.2.length : Int))) (chk (0 ≤ x9.1 ∧ x9.1 < (a0.2.length : Int)) (let v11 := (a0.2.getD x9.1.toNat zLink); chk ((x9.2.1.length + ([(max a1 (v11.2.2.2.2.length : Int))] : List Int).length) * 8 ≤ maxB) (ih10 ((w64 (x9.1 + 1)), ((x9.2.1 ++ [(max a1 (v11.2.2.2.2.length : Int))]), ()))))) (some (x9.2.1, ()))) (0, ([], ())))
noncomputable def iUni.mng (n : Nat) : Mng := ⟨[.val tNetwork, .val I], [.val IS], fun x => iUni.f n x.1 x.2.1⟩
noncomputable def iUni.cfg (n : Nat) : Cfg := ⟨tys18, [(21, iIsNetwork.mng n)], [], []⟩
theorem iUni.eq : ∀ (n : Nat) (a0 : Network) (a1 : Int), runF (iUni.cfg n) n Tryz.f15 (annOf Tryz.f15 iUni.las) [.val tNetwork, .val I] [.val IS] (a0, (a1, ())) = iUni.f n a0 a1 := by
  intros
  kernel_rfl
theorem iUni.gof : GoF Tryz.prog 15 := ⟨_, Tryz.func15, by kernel_rfl, by kernel_rfl⟩
theorem iUni.sound (n : Nat) : Sound Tryz.prog 15 (iUni.mng n) := runF_sound (fn := Tryz.f15) (m := iUni.mng n) (c := iUni.cfg n) (regOK mixed (opOK (.of (c := iUni.cfg n) ⟨⟨iIsNetwork.sound n, iIsNetwork.gof⟩, trivial⟩) (.of (c := iUni.cfg n) trivial)) (tysOK tys18_ok)) (tysOK tys18_ok) Tryz.func15 (fun x => (iUni.eq n x.1 x.2.1).symm)

def iChain.las : List (Nat × LA) := [(1, ⟨[(17, .bool)], [], [0, 1, 4], []⟩), (7, ⟨[(6, .vptr 1000 0), (26, .int .i64)], [(1000, .cells [] [.sh tProgram, .own 1001 tLink]), (1001, .row false tLink)], [0, 4, 24, 25], []⟩), (12, ⟨[(38, .bool)], [], [0, 4, 6, 7, 24, 25, 26], []⟩), (17, ⟨[(9, .int .i64)], [], [0, 4, 6, 7, 24, 25, 26], []⟩)]
noncomputable def iChain.f (n : Nat) (a0 : List Program) (a1 : List Int) : Option (Network × (Bool × Unit)) := cut (α := (Bool × Unit)) (br (decide ((a0.length : Int) = 0)) (some (.inr (true, ()))) (some (.inr ((decide (12 < (a0.length : Int))), ())))) fun y1 => br y1.1 (some (([], []), (false, ()))) (iter (α := (Int × (List Program) × (List Link) × Unit)) n (fun ih17 x16 => br (decide (x16.1 < (a0.length : Int))) (chk (0 ≤ x16.1 ∧ x16.1 < (a0.length : Int)) (let v18 := (a0.getD x16.1.toNat zProgram); cut (α := (Bool × Unit)) (br (!decide (v18.1 = 1)) (some (.inr (true, ()))) (some (.inr ((!decide (v18.2.1 = 1)), ())))) fun y19 => br y19.1 (some (([], []), (false, ()))) (cut (α := (Int × Unit)) (br (decide ((w64 (x16.1 + 1)) = (a0.length : Int))) (some (.inr ((-1), ()))) (some (.inr ((w64 (x16.1 + 1)), ())))) fun y20 => chk ((x16.2.2.1.length + ([(x16.1, (0, (y20.1, (0, []))))] : List Link).length) * 56 ≤ maxB) (ih17 ((w64 (x16.1 + 1)), (x16.2.1, ((x16.2.2.1 ++ [(x16.1, (0, (y20.1, (0, []))))]), ()))))))) ((iChecked.f n (x16.2.1, x16.2.2.1)).bind fun r21 => some (r21.1, (r21.2.1, ())))) (0, (a0, ([((-1), (0, (0, (0, a1))))], ()))))
noncomputable def iChain.mng (n : Nat) : Mng := ⟨[.val (.sl tProgram), .val IS], [.val tNetwork, .val .bool], fun x => iChain.f n x.1 x.2.1⟩
noncomputable def iChain.cfg (n : Nat) : Cfg := ⟨tys18, [(30, iChecked.mng n)], [], []⟩
theorem iChain.eq : ∀ (n : Nat) (a0 : List Program) (a1 : List Int), runF (iChain.cfg n) n Tryz.f10 (annOf Tryz.f10 iChain.las) [.val (.sl tProgram), .val IS] [.val tNetwork, .val .bool] (a0, (a1, ())) = iChain.f n a0 a1 := by
  intros
  kernel_rfl
theorem iChain.gof : GoF Tryz.prog 10 := ⟨_, Tryz.func10, by kernel_rfl, by kernel_rfl⟩
theorem iChain.sound (n : Nat) : Sound Tryz.prog 10 (iChain.mng n) := runF_sound (fn := Tryz.f10) (m := iChain.mng n) (c := iChain.cfg n) (regOK mixed (opOK (.of (c := iChain.cfg n) ⟨⟨iChecked.sound n, iChecked.gof⟩, trivial⟩) (.of (c := iChain.cfg n) trivial)) (tysOK tys18_ok)) (tysOK tys18_ok) Tryz.func10 (fun x => (iChain.eq n x.1 x.2.1).symm)
end Go.AmT
