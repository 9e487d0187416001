/- Functions that the law FnExactParseNetwork reaches, each as a plain Lean function, and that each does what that says. No condition. -/
import Derived.Test.YtgddbcdkhfdojaaGreatDoorPNum
import Derived.Test.YtgddbcdkhfdojaaGreatDoorPNet2
import Derived.WalkKit
namespace Go.AmT
open Go Go.Am Go.Proofs
set_option linter.unusedVariables false
set_option maxRecDepth 100000
def tys2 : List (Nat × TInfo) := [(3, ⟨false, 1, 8, [.int .i64 0], .int .i64, 0, some I, [], false⟩),
  (4, ⟨false, 1, 1, [.bool false], .bool, 0, some .bool, [], false⟩),
  (9, ⟨false, 1, 16, [.str []], .str, 0, some .str, [], false⟩),
  (49, ⟨false, 1, 24, [.nil], .slice, 3, some IS, [], false⟩),
  (60, ⟨false, 1, 24, [.nil], .slice, 72, some (.sl tInstr), [], false⟩),
  (62, ⟨true, 3, 40, [.int .i64 0, .int .i64 0, .nil], .struct, 0, some tProgram, [(0, 3), (1, 3), (2, 60)], false⟩),
  (72, ⟨true, 4, 32, [.int .i64 0, .int .i64 0, .int .i64 0, .int .i64 0], .struct, 0, some tInstr, [(0, 3), (1, 3), (2, 3), (3, 3)], false⟩),
  (77, ⟨false, 1, 24, [.nil], .slice, 9, some (.sl .str), [], false⟩),
  (133, ⟨false, 1, 24, [.nil], .slice, 136, none, [], false⟩),
  (136, ⟨false, 1, 8, [.nilp], .other, 0, none, [], false⟩),
  (188, ⟨false, 1, 24, [.nil], .slice, 4, some (.sl .bool), [], false⟩)]
theorem tys2_ok : (tys2.all fun p => tokB Tryz.prog p.1 p.2) = true := by kernel_rfl

def l9Words.las : List (Nat × LA) := []
noncomputable def l9Words.f (n : Nat)  : Option ((List (List UInt8)) × Unit) := some ([[], [114, 101, 97, 100], [119, 114, 105, 116, 101], [115, 101, 116], [97, 100, 100], [115, 117, 98], [109, 117, 108], [114, 101, 115, 116], [106, 117, 109, 112], [122, 101, 114, 111], [98, 101, 108, 111, 119], [104, 97, 108, 116]], ())
noncomputable def l9Words.mng (n : Nat) : Mng := ⟨[], [.val (.sl .str)], fun x => l9Words.f n ⟩
noncomputable def l9Words.cfg (n : Nat) : Cfg := ⟨tys2, [], [], []⟩
theorem l9Words.eq : ∀ (n : Nat) , runF (l9Words.cfg n) n Tryz.f158 (annOf Tryz.f158 l9Words.las) [] [.val (.sl .str)] () = l9Words.f n  := by
  intros
  kernel_rfl
theorem l9Words.gof : GoF Tryz.prog 158 := ⟨_, Tryz.func158, by kernel_rfl, by kernel_rfl⟩
theorem l9Words.sound (n : Nat) : Sound Tryz.prog 158 (l9Words.mng n) := runF_sound (fn := Tryz.f158) (m := l9Words.mng n) (c := l9Words.cfg n) (regOK mixed (opOK (.of (c := l9Words.cfg n) trivial) (.of (c := l9Words.cfg n) trivial)) (tysOK tys2_ok)) (tysOK tys2_ok) Tryz.func158 (fun x => (l9Words.eq n ).symm)

def l9Uses.las : List (Nat × LA) := [(4, ⟨[(4, .bool)], [], [3], []⟩)]
noncomputable def l9Uses.f (n : Nat) (a0 : Int) : Option ((List Bool) × Unit) := cut (α := (Bool × Unit)) (br (decide (a0 = 4)) (some (.inr ((decide (a0 = 4)), ()))) (br (decide (a0 = 5)) (some (.inr ((decide (a0 = 5)), ()))) (br (decide (a0 = 6)) (some (.inr ((decide (a0 = 6)), ()))) (some (.inr ((decide (a0 = 7)), ())))))) fun y1 => br y1.1 (some ([true, true, true], ())) (br (decide (a0 = 8)) (some ([false, true, false], ())) (br (decide (a0 = 11)) (some ([false, false, false], ())) (some ([true, true, false], ()))))
noncomputable def l9Uses.mng (n : Nat) : Mng := ⟨[.val I], [.val (.sl .bool)], fun x => l9Uses.f n x.1⟩
noncomputable def l9Uses.cfg (n : Nat) : Cfg := ⟨tys2, [], [], []⟩
theorem l9Uses.eq : ∀ (n : Nat) (a0 : Int), runF (l9Uses.cfg n) n Tryz.f159 (annOf Tryz.f159 l9Uses.las) [.val I] [.val (.sl .bool)] (a0, ()) = l9Uses.f n a0 := by
  intros
  kernel_rfl
theorem l9Uses.gof : GoF Tryz.prog 159 := ⟨_, Tryz.func159, by kernel_rfl, by kernel_rfl⟩
theorem l9Uses.sound (n : Nat) : Sound Tryz.prog 159 (l9Uses.mng n) := runF_sound (fn := Tryz.f159) (m := l9Uses.mng n) (c := l9Uses.cfg n) (regOK mixed (opOK (.of (c := l9Uses.cfg n) trivial) (.of (c := l9Uses.cfg n) trivial)) (tysOK tys2_ok)) (tysOK tys2_ok) Tryz.func159 (fun x => (l9Uses.eq n x.1).symm)

def l9Fits.las : List (Nat × LA) := []
noncomputable def l9Fits.f (n : Nat) (a0 : Instr) : Option (Bool × Unit) := chk (24 = 24 ∧ 0 ≤ 24 ∧ 24 * (32 : Int) ≤ (maxB : Int)) ((sL2Operands.f n (3, (3, (List.replicate 24 ((0, (0, (0, 0))) : Instr)))) a0).bind fun r1 => some (r1.1, ()))
noncomputable def l9Fits.mng (n : Nat) : Mng := ⟨[.val tInstr], [.val .bool], fun x => l9Fits.f n x.1⟩
noncomputable def l9Fits.cfg (n : Nat) : Cfg := ⟨tys2, [(156, sL2Operands.mng n)], [], []⟩
theorem l9Fits.eq : ∀ (n : Nat) (a0 : Instr), runF (l9Fits.cfg n) n Tryz.f157 (annOf Tryz.f157 l9Fits.las) [.val tInstr] [.val .bool] (a0, ()) = l9Fits.f n a0 := by
  intros
  kernel_rfl
theorem l9Fits.gof : GoF Tryz.prog 157 := ⟨_, Tryz.func157, by kernel_rfl, by kernel_rfl⟩
theorem l9Fits.sound (n : Nat) : Sound Tryz.prog 157 (l9Fits.mng n) := runF_sound (fn := Tryz.f157) (m := l9Fits.mng n) (c := l9Fits.cfg n) (regOK mixed (opOK (.of (c := l9Fits.cfg n) ⟨⟨sL2Operands.sound n, sL2Operands.gof⟩, trivial⟩) (.of (c := l9Fits.cfg n) trivial)) (tysOK tys2_ok)) (tysOK tys2_ok) Tryz.func157 (fun x => (l9Fits.eq n x.1).symm)

def fmtInstr.las : List (Nat × LA) := [(8, ⟨[(3, .str), (24, .own 1000 I), (26, .int .i64)], [(1000, .row true I)], [4, 25], []⟩)]
noncomputable def fmtInstr.f (n : Nat) (a0 : Instr) : Option ((List UInt8) × Unit) := (l9Fits.f n a0).bind fun r1 => br (!r1.1) (some ([], ())) ((l9Words.f n ).bind fun r2 => chk (0 ≤ a0.1 ∧ a0.1 < (r2.1.length : Int)) ((l9Uses.f n a0.1).bind fun r3 => iter (α := ((List UInt8) × (Int × (List Int) × Unit))) n (fun ih11 x10 => br (decide (x10.2.1 < 3)) (chk (0 ≤ x10.2.1 ∧ x10.2.1 < (x10.2.2.1.length : Int)) (chk (0 ≤ x10.2.1 ∧ x10.2.1 < (r3.1.length : Int)) (br (r3.1.getD x10.2.1.toNat false) (chk (x10.1.length + ([32] : List UInt8).length < maxS) ((l1Number.f n (x10.2.2.1.getD x10.2.1.toNat 0)).bind fun r12 => chk ((x10.1 ++ ([32] : List UInt8)).length + r12.1.length < maxS) (ih11 (((x10.1 ++ ([32] : List UInt8)) ++ r12.1), ((w64 (x10.2.1 + 1)), (x10.2.2.1, ())))))) (ih11 (x10.1, ((w64 (x10.2.1 + 1)), (x10.2.2.1, ()))))))) (some (x10.1, ()))) ((r2.1.getD a0.1.toNat []), (0, ([a0.2.1, a0.2.2.1, a0.2.2.2], ())))))
noncomputable def fmtInstr.mng (n : Nat) : Mng := ⟨[.val tInstr], [.val .str], fun x => fmtInstr.f n x.1⟩
noncomputable def fmtInstr.cfg (n : Nat) : Cfg := ⟨tys2, [(157, l9Fits.mng n), (158, l9Words.mng n), (159, l9Uses.mng n)], [(96, l1Number.mng n)], []⟩
theorem fmtInstr.eq : ∀ (n : Nat) (a0 : Instr), runF (fmtInstr.cfg n) n Tryz.f97 (annOf Tryz.f97 fmtInstr.las) [.val tInstr] [.val .str] (a0, ()) = fmtInstr.f n a0 := by
  intros
  kernel_rfl
theorem fmtInstr.gof : GoF Tryz.prog 97 := ⟨_, Tryz.func97, by kernel_rfl, by kernel_rfl⟩
theorem fmtInstr.sound (n : Nat) : Sound Tryz.prog 97 (fmtInstr.mng n) := runF_sound (fn := Tryz.f97) (m := fmtInstr.mng n) (c := fmtInstr.cfg n) (regOK mixed (opOK (.of (c := fmtInstr.cfg n) ⟨⟨l9Fits.sound n, l9Fits.gof⟩, ⟨⟨l9Words.sound n, l9Words.gof⟩, ⟨⟨l9Uses.sound n, l9Uses.gof⟩, trivial⟩⟩⟩) (.of (c := fmtInstr.cfg n) ⟨⟨l1Number.sound n, l1Number.gof⟩, trivial⟩)) (tysOK tys2_ok)) (tysOK tys2_ok) Tryz.func97 (fun x => (fmtInstr.eq n x.1).symm)

def iOps.las : List (Nat × LA) := []
noncomputable def iOps.f (n : Nat)  : Option ((List (List UInt8)) × Unit) := some ([[], [114, 101, 97, 100], [119, 114, 105, 116, 101], [115, 101, 116], [97, 100, 100], [115, 117, 98], [109, 117, 108], [114, 101, 115, 116], [106, 117, 109, 112], [122, 101, 114, 111], [98, 101, 108, 111, 119], [104, 97, 108, 116]], ())
noncomputable def iOps.mng (n : Nat) : Mng := ⟨[], [.val (.sl .str)], fun x => iOps.f n ⟩
noncomputable def iOps.cfg (n : Nat) : Cfg := ⟨tys2, [], [], []⟩
theorem iOps.eq : ∀ (n : Nat) , runF (iOps.cfg n) n Tryz.f92 (annOf Tryz.f92 iOps.las) [] [.val (.sl .str)] () = iOps.f n  := by
  intros
  kernel_rfl
theorem iOps.gof : GoF Tryz.prog 92 := ⟨_, Tryz.func92, by kernel_rfl, by kernel_rfl⟩
theorem iOps.sound (n : Nat) : Sound Tryz.prog 92 (iOps.mng n) := runF_sound (fn := Tryz.f92) (m := iOps.mng n) (c := iOps.cfg n) (regOK mixed (opOK (.of (c := iOps.cfg n) trivial) (.of (c := iOps.cfg n) trivial)) (tysOK tys2_ok)) (tysOK tys2_ok) Tryz.func92 (fun x => (iOps.eq n ).symm)

theorem iPts.gof : GoF Tryz.prog 93 := ⟨_, Tryz.func93, by kernel_rfl, by kernel_rfl⟩
theorem iPts.pts : PtsOK Tryz.prog 93 := {
  a := fun w b o op hc h => by
    simp only [ptsA, decide_eq_true_eq] at h
    rcases h with rfl | rfl | rfl | rfl | rfl <;>
    · go_enter Tryz.func93, Tryz.ntmps93
      go_wp2
      go_region
      go_wp2
      go_ret
      exact ⟨rfl, 136, rfl, rfl, rfl, rfl⟩
  b := fun w b o op hc h => by
    simp only [ptsB, decide_eq_true_eq] at h
    rcases h with rfl | rfl | rfl | rfl <;>
    · go_enter Tryz.func93, Tryz.ntmps93
      go_wp2
      go_region
      go_wp2
      go_ret
      exact ⟨rfl, 136, rfl, rfl, rfl, rfl⟩
  c := fun w b o op hc h => by
    simp only [ptsC, decide_eq_true_eq] at h
    subst h
    · go_enter Tryz.func93, Tryz.ntmps93
      go_wp2
      go_ret
      exact ⟨rfl, 136, rfl, rfl, rfl, rfl⟩
  n := fun w b o op hc h h' h'' => by
    simp only [ptsA, ptsB, ptsC, decide_eq_false_iff_not, not_or] at h h' h''
    obtain ⟨h1, h2, h3, h9, h10⟩ := h
    obtain ⟨h4, h5, h6, h7⟩ := h'
    go_enter Tryz.func93, Tryz.ntmps93
    go_wp2
    go_ret
    exact ⟨rfl, rfl⟩ }

def iFmtInstr.las : List (Nat × LA) := [(500007, ⟨[], [], [], []⟩)]
noncomputable def iFmtInstr.f (n : Nat) (a0 : Instr) : Option ((List UInt8) × Unit) := (isInstr.f n a0 3 3 24).bind fun r1 => br (!r1.1) (some ([], ())) ((iOps.f n ).bind fun r2 => chk (0 ≤ a0.1 ∧ a0.1 < (r2.1.length : Int)) (br (ptsA a0.1) ((itoaC.f n a0.2.1).bind fun r3 => chk (([32] : List UInt8).length + r3.1.length < maxS) (chk ((r2.1.getD a0.1.toNat []).length + (([32] : List UInt8) ++ r3.1).length < maxS) ((itoaC.f n a0.2.2.1).bind fun r4 => chk (([32] : List UInt8).length + r4.1.length < maxS) (chk (((r2.1.getD a0.1.toNat []) ++ (([32] : List UInt8) ++ r3.1)).length + (([32] : List UInt8) ++ r4.1).length < maxS) (some ((((r2.1.getD a0.1.toNat []) ++ (([32] : List UInt8) ++ r3.1)) ++ (([32] : List UInt8) ++ r4.1)), ())))))) (br (ptsB a0.1) ((itoaC.f n a0.2.1).bind fun r5 => chk (([32] : List UInt8).length + r5.1.length < maxS) (chk ((r2.1.getD a0.1.toNat []).length + (([32] : List UInt8) ++ r5.1).length < maxS) ((itoaC.f n a0.2.2.1).bind fun r6 => chk (([32] : List UInt8).length + r6.1.length < maxS) (chk (((r2.1.getD a0.1.toNat []) ++ (([32] : List UInt8) ++ r5.1)).length + (([32] : List UInt8) ++ r6.1).length < maxS) ((itoaC.f n a0.2.2.2).bind fun r7 => chk (([32] : List UInt8).length + r7.1.length < maxS) (chk ((((r2.1.getD a0.1.toNat []) ++ (([32] : List UInt8) ++ r5.1)) ++ (([32] : List UInt8) ++ r6.1)).length + (([32] : List UInt8) ++ r7.1).length < maxS) (some (((((r2.1.getD a0.1.toNat []) ++ (([32] : List UInt8) ++ r5.1)) ++ (([32] : List UInt8) ++ r6.1)) ++ (([32] : List UInt8) ++ r7.1)), ())))))))) (br (ptsC a0.1) ((itoaC.f n a0.2.2.1).bind fun r8 => chk (([32] : List UInt8).length + r8.1.length < maxS) (chk ((r2.1.getD a0.1.toNat []).length + (([32] : List UInt8) ++ r8.1).length < maxS) (some (((r2.1.getD a0.1.toNat []) ++ (([32] : List UInt8) ++ r8.1)), ())))) (some ((r2.1.getD a0.1.toNat []), ()))))))
noncomputable def iFmtInstr.mng (n : Nat) : Mng := ⟨[.val tInstr], [.val .str], fun x => iFmtInstr.f n x.1⟩
noncomputable def iFmtInstr.cfg (n : Nat) : Cfg := ⟨tys2, [(94, isInstr.mng n), (92, iOps.mng n), (81, itoaC.mng n)], [], [3000093]⟩
theorem iFmtInstr.eq : ∀ (n : Nat) (a0 : Instr), runF (iFmtInstr.cfg n) n Tryz.f36 (annOf Tryz.f36 iFmtInstr.las) [.val tInstr] [.val .str] (a0, ()) = iFmtInstr.f n a0 := by
  intros
  kernel_rfl
theorem iFmtInstr.gof : GoF Tryz.prog 36 := ⟨_, Tryz.func36, by kernel_rfl, by kernel_rfl⟩
theorem iFmtInstr.sound (n : Nat) : Sound Tryz.prog 36 (iFmtInstr.mng n) := runF_sound (fn := Tryz.f36) (m := iFmtInstr.mng n) (c := iFmtInstr.cfg n) (regOK mixed (opOK (.of (c := iFmtInstr.cfg n) ⟨⟨isInstr.sound n, isInstr.gof⟩, ⟨⟨iOps.sound n, iOps.gof⟩, ⟨⟨itoaC.sound n, itoaC.gof⟩, trivial⟩⟩⟩ (ptsAll_one (f := 93) rfl iPts.pts iPts.gof)) (.of (c := iFmtInstr.cfg n) trivial)) (tysOK tys2_ok)) (tysOK tys2_ok) Tryz.func36 (fun x => (iFmtInstr.eq n x.1).symm)
end Go.AmT
