/- Functions that the law FnExactUniformCapacities reaches, each as a plain Lean function, and that each does what that says. No condition. -/
import Derived.Test.YtmbapapploiimaaPMark
namespace Go.AmT
open Go Go.Am Go.Proofs
set_option linter.unusedVariables false
set_option maxRecDepth 100000
def tys2 : List (Nat × TInfo) := [(3, ⟨false, 1, 8, [.int .i64 0], .int .i64, 0, some I, [], false⟩),
  (25, ⟨true, 2, 48, [.nil, .nil], .struct, 0, some tNetwork, [(0, 22), (1, 23)], false⟩),
  (26, ⟨false, 1, 24, [.nil], .slice, 3, some IS, [], false⟩),
  (30, ⟨false, 1, 24, [.nil], .slice, 89, some (.sl tLink), [], false⟩),
  (32, ⟨true, 2, 48, [.nil, .nil], .struct, 0, some tNetwork, [(0, 29), (1, 30)], false⟩),
  (89, ⟨true, 5, 56, [.int .i64 0, .int .i64 0, .int .i64 0, .int .i64 0, .nil], .struct, 0, some tLink, [(0, 3), (1, 3), (2, 3), (3, 3), (4, 26)], false⟩)]
theorem tys2_ok : (tys2.all fun p => tokB Try.prog p.1 p.2) = true := by kernel_rfl

def sUni.las : List (Nat × LA) := [(1, ⟨[(15, .bool)], [], [1, 2], []⟩), (7, ⟨[(5, .own 1000 I), (20, .int .i64)], [(1000, .row true I)], [1, 18, 19], []⟩)]
noncomputable def sUni.f (n : Nat) (a0 : Network) (a1 : Int) : Option ((List Int) × Unit) := cut (α := (Bool × Unit)) ((sIsNetwork.f n a0).bind fun r4 => br (!r4.1) (some (.inr (true, ()))) ((sL1In.f n a1 0 400).bind fun r5 => some (.inr ((!r5.1), ())))) fun y3 => br y3.1 (some ([], ())) (iter (α := (Int × (List Int) × Unit)) n (fun ih13 x12 => br (decide (x12.1 < (a0.2.length : Int))) (chk (0 ≤ x12.1 ∧ x12.1 < (a0.2.length : Int)) (let v14 := (a0.2.getD x12.1.toNat zLink); chk ((x12.2.1.length + ([(max a1 (v14.2.2.2.2.length : Int))] : List Int).length) * 8 ≤ maxB) (ih13 ((w64 (x12.1 + 1)), ((x12.2.1 ++ [(max a1 (v14.2.2.2.2.length : Int))]), ()))))) (some (x12.2.1, ()))) (0, ([], ())))
noncomputable def sUni.mng (n : Nat) : Mng := ⟨[.val tNetwork, .val I], [.val IS], fun x => sUni.f n x.1 x.2.1⟩
noncomputable def sUni.cfg (n : Nat) : Cfg := ⟨tys2, [(57, sIsNetwork.mng n), (58, sL1In.mng n)], []⟩
theorem sUni.eq : ∀ (n : Nat) (a0 : Network) (a1 : Int), runF (sUni.cfg n) n Try.f21 (annOf Try.f21 sUni.las) [.val tNetwork, .val I] [.val IS] (a0, (a1, ())) = sUni.f n a0 a1 := by
  intros
  kernel_rfl
theorem sUni.gof : GoF Try.prog 21 := ⟨_, Try.func21, by kernel_rfl, by kernel_rfl⟩
theorem sUni.sound (n : Nat) : Sound Try.prog 21 (sUni.mng n) := runF_sound (fn := Try.f21) (m := sUni.mng n) (c := sUni.cfg n) (regOK mixed (opOK (.of (c := sUni.cfg n) ⟨⟨sIsNetwork.sound n, sIsNetwork.gof⟩, ⟨⟨sL1In.sound n, sL1In.gof⟩, trivial⟩⟩) (.of (c := sUni.cfg n) trivial)) (tysOK tys2_ok)) (tysOK tys2_ok) Try.func21 (fun x => (sUni.eq n x.1 x.2.1).symm)

def iUni.las : List (Nat × LA) := [(1, ⟨[(18, .bool)], [], [1, 2], []⟩), (7, ⟨[(5, .own 1000 I), (23, .int .i64)], [(1000, .row true I)], [1, 21, 22], []⟩)]
noncomputable def iUni.f (n : Nat) (a0 : Network) (a1 : Int) : Option ((List Int) × Unit) := cut (α := (Bool × Unit)) ((iIsNetwork.f n a0).bind fun r3 => br (!r3.1) (some (.inr (true, ()))) (br (decide (a1 < 0)) (some (.inr (true, ()))) (some (.inr ((decide (400 < a1)), ()))))) fun y2 => br y2.1 (some ([], ())) (iter (α := (Int × (List Int) × Unit)) n (fun ih10 x9 => br (decide (x9.1 < (a0.2.length : Int))) (chk (0 ≤ x9.1 ∧ x9.1 < (a0.2.length : Int)) (let v11 := (a0.2.getD x9.1.toNat zLink); chk ((x9.2.1.length + ([(max a1 (v11.2.2.2.2.length : Int))] : List Int).length) * 8 ≤ maxB) (ih10 ((w64 (x9.1 + 1)), ((x9.2.1 ++ [(max a1 (v11.2.2.2.2.length : Int))]), ()))))) (some (x9.2.1, ()))) (0, ([], ())))
noncomputable def iUni.mng (n : Nat) : Mng := ⟨[.val tNetwork, .val I], [.val IS], fun x => iUni.f n x.1 x.2.1⟩
noncomputable def iUni.cfg (n : Nat) : Cfg := ⟨tys2, [(61, iIsNetwork.mng n)], []⟩
theorem iUni.eq : ∀ (n : Nat) (a0 : Network) (a1 : Int), runF (iUni.cfg n) n Try.f22 (annOf Try.f22 iUni.las) [.val tNetwork, .val I] [.val IS] (a0, (a1, ())) = iUni.f n a0 a1 := by
  intros
  kernel_rfl
theorem iUni.gof : GoF Try.prog 22 := ⟨_, Try.func22, by kernel_rfl, by kernel_rfl⟩
theorem iUni.sound (n : Nat) : Sound Try.prog 22 (iUni.mng n) := runF_sound (fn := Try.f22) (m := iUni.mng n) (c := iUni.cfg n) (regOK mixed (opOK (.of (c := iUni.cfg n) ⟨⟨iIsNetwork.sound n, iIsNetwork.gof⟩, trivial⟩) (.of (c := iUni.cfg n) trivial)) (tysOK tys2_ok)) (tysOK tys2_ok) Try.func22 (fun x => (iUni.eq n x.1 x.2.1).symm)

def law.las : List (Nat × LA) := [(17, ⟨[(46, .bool)], [], [1, 2, 6, 8], []⟩)]
noncomputable def law.f (n : Nat) (a0 : Network) (a1 : Int) : Option (Bool × Unit) := (szNetwork.f n a0 1048576).bind fun r1 => br (decide (r1.1 < 0)) (some (true, ())) ((toNetwork.f n a0).bind fun r2 => (sUni.f n r2.1 a1).bind fun r3 => (toNetwork.f n a0).bind fun r4 => (iUni.f n r4.1 a1).bind fun r5 => (eqIntS.f n r5.1 r3.1).bind fun r6 => br (!r6.1) (some (false, ())) ((toNetwork.f n a0).bind fun r7 => (eqNetwork.f n r4.1 r7.1).bind fun r8 => br (!r8.1) (some (false, ())) ((markNetwork.f n r4.1 1).bind fun r9 => cut (α := (Bool × Unit)) (br (decide (r9.1 < 0)) (some (.inr (true, ()))) ((eqIntS.f n r5.1 r3.1).bind fun r12 => some (.inr ((!r12.1), ())))) fun y11 => br y11.1 (some (false, ())) ((markIntS.f n r5.1 1).bind fun r13 => (heldIntS.f n r13.2.1 1).bind fun r14 => br (decide (r14.1 < 0)) (some (false, ())) (br (!decide (r14.1 = r13.1)) (some (false, ())) ((toNetwork.f n a0).bind fun r15 => (iUni.f n r15.1 a1).bind fun r16 => (eqIntS.f n r16.1 r3.1).bind fun r17 => br (!r17.1) (some (false, ())) ((heldIntS.f n r13.2.1 1).bind fun r18 => br (decide (r18.1 < 0)) (some (false, ())) (br (!decide (r18.1 = r13.1)) (some (false, ())) (some (true, ()))))))))))
noncomputable def law.mng (n : Nat) : Mng := ⟨[.val tNetwork, .val I], [.val .bool], fun x => law.f n x.1 x.2.1⟩
noncomputable def law.cfg (n : Nat) : Cfg := ⟨tys2, [(14, szNetwork.mng n), (16, toNetwork.mng n), (21, sUni.mng n), (22, iUni.mng n), (20, eqIntS.mng n), (19, eqNetwork.mng n), (23, markNetwork.mng n), (24, markIntS.mng n), (25, heldIntS.mng n)], []⟩
theorem law.eq : ∀ (n : Nat) (a0 : Network) (a1 : Int), runF (law.cfg n) n Try.f4 (annOf Try.f4 law.las) [.val tNetwork, .val I] [.val .bool] (a0, (a1, ())) = law.f n a0 a1 := by
  intros
  kernel_rfl
theorem law.gof : GoF Try.prog 4 := ⟨_, Try.func4, by kernel_rfl, by kernel_rfl⟩
theorem law.sound (n : Nat) : Sound Try.prog 4 (law.mng n) := runF_sound (fn := Try.f4) (m := law.mng n) (c := law.cfg n) (regOK mixed (opOK (.of (c := law.cfg n) ⟨⟨szNetwork.sound n, szNetwork.gof⟩, ⟨⟨toNetwork.sound n, toNetwork.gof⟩, ⟨⟨sUni.sound n, sUni.gof⟩, ⟨⟨iUni.sound n, iUni.gof⟩, ⟨⟨eqIntS.sound n, eqIntS.gof⟩, ⟨⟨eqNetwork.sound n, eqNetwork.gof⟩, ⟨⟨markNetwork.sound n, markNetwork.gof⟩, ⟨⟨markIntS.sound n, markIntS.gof⟩, ⟨⟨heldIntS.sound n, heldIntS.gof⟩, trivial⟩⟩⟩⟩⟩⟩⟩⟩⟩) (.of (c := law.cfg n) trivial)) (tysOK tys2_ok)) (tysOK tys2_ok) Try.func4 (fun x => (law.eq n x.1 x.2.1).symm)
end Go.AmT
