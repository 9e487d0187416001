/- Functions that the law FnExactParseNetwork reaches, each as a plain Lean function, and that each does what that says. No condition. -/
import Derived.Test.YtgddbcdkhfdojaaGreatDoorPTxtK
import Derived.Test.YtgddbcdkhfdojaaGreatDoorPTxtNt
import Derived.Test.YtgddbcdkhfdojaaGreatDoorPTxtL
namespace Go.AmT
open Go Go.Am Go.Proofs
set_option linter.unusedVariables false
set_option maxRecDepth 100000
def tys10 : List (Nat × TInfo) := [(3, ⟨false, 1, 8, [.int .i64 0], .int .i64, 0, some I, [], false⟩),
  (9, ⟨false, 1, 16, [.str []], .str, 0, some .str, [], false⟩),
  (22, ⟨false, 1, 24, [.nil], .slice, 62, some (.sl tProgram), [], false⟩),
  (23, ⟨false, 1, 24, [.nil], .slice, 80, some (.sl tLink), [], false⟩),
  (25, ⟨true, 2, 48, [.nil, .nil], .struct, 0, some tNetwork, [(0, 22), (1, 23)], false⟩),
  (49, ⟨false, 1, 24, [.nil], .slice, 3, some IS, [], false⟩),
  (62, ⟨true, 3, 40, [.int .i64 0, .int .i64 0, .nil], .struct, 0, some tProgram, [(0, 3), (1, 3), (2, 60)], false⟩),
  (77, ⟨false, 1, 24, [.nil], .slice, 9, some (.sl .str), [], false⟩),
  (80, ⟨true, 5, 56, [.int .i64 0, .int .i64 0, .int .i64 0, .int .i64 0, .nil], .struct, 0, some tLink, [(0, 3), (1, 3), (2, 3), (3, 3), (4, 49)], false⟩),
  (133, ⟨false, 1, 24, [.nil], .slice, 136, none, [], false⟩),
  (136, ⟨false, 1, 8, [.nilp], .other, 0, none, [], false⟩)]
theorem tys10_ok : (tys10.all fun p => tokB Tryz.prog p.1 p.2) = true := by kernel_rfl

noncomputable def cutC.f (n : Nat) (a0 : List UInt8) (a1 : List UInt8) : Option (List UInt8 × (List UInt8 × (Bool × Unit))) := cutF a0 a1
noncomputable def cutC.mng (n : Nat) : Mng := ⟨[.val .str, .val .str], [.val .str, .val .str, .val .bool], fun x => cutC.f n x.1 x.2.1⟩
theorem cutC.gof : GoF Tryz.prog 45 := ⟨_, Tryz.func45, by kernel_rfl, by kernel_rfl⟩
theorem cutC.sound (n : Nat) : Sound Tryz.prog 45 (cutC.mng n) := cut_sound (b := 0) (by kernel_rfl) (fun s sep m w hs hm => Tryz.strings_Cut s sep m w hs hm)

def iParseLink.las : List (Nat × LA) := [(7, ⟨[(5, .vptr 1000 0), (6, .bool)], [(1000, .cells [] [.int .i64, .int .i64, .int .i64, .int .i64, .con (.nil)])], [2, 4], []⟩), (500008, ⟨[], [], [], []⟩)]
noncomputable def iParseLink.f (n : Nat) (a0 : List UInt8) : Option (Link × (Bool × Unit)) := (splitC.f n a0 ([32] : List UInt8)).bind fun r1 => br (!decide ((r1.1.length : Int) = 5)) (some ((0, (0, (0, (0, [])))), (false, ()))) (cut (α := (Bool × (Int × (Int × (Int × (Int × Unit)))))) (chk ((0 : Int) ≤ 0 ∧ (0 : Int) < (r1.1.length : Int)) ((iNumber.f n (r1.1.getD 0 [])).bind fun r10 => chk ((0 : Int) ≤ 1 ∧ (1 : Int) < (r1.1.length : Int)) ((iNumber.f n (r1.1.getD 1 [])).bind fun r11 => br r10.2.1 (chk ((0 : Int) ≤ 2 ∧ (2 : Int) < (r1.1.length : Int)) ((iNumber.f n (r1.1.getD 2 [])).bind fun r12 => br r11.2.1 (chk ((0 : Int) ≤ 3 ∧ (3 : Int) < (r1.1.length : Int)) ((iNumber.f n (r1.1.getD 3 [])).bind fun r13 => br r12.2.1 (some (.inr (r13.2.1, (r10.1, (r11.1, (r12.1, (r13.1, ()))))))) (some (.inr (false, (r10.1, (r11.1, (r12.1, (r13.1, ()))))))))) (chk ((0 : Int) ≤ 3 ∧ (3 : Int) < (r1.1.length : Int)) ((iNumber.f n (r1.1.getD 3 [])).bind fun r14 => some (.inr (false, (r10.1, (r11.1, (r12.1, (r14.1, ())))))))))) (chk ((0 : Int) ≤ 2 ∧ (2 : Int) < (r1.1.length : Int)) ((iNumber.f n (r1.1.getD 2 [])).bind fun r15 => chk ((0 : Int) ≤ 3 ∧ (3 : Int) < (r1.1.length : Int)) ((iNumber.f n (r1.1.getD 3 [])).bind fun r16 => some (.inr (false, (r10.1, (r11.1, (r15.1, (r16.1, ())))))))))))) fun y9 => chk ((0 : Int) ≤ 4 ∧ (4 : Int) < (r1.1.length : Int)) ((iParseStream.f n (r1.1.getD 4 [])).bind fun r17 => br y9.1 (some ((y9.2.1, (y9.2.2.1, (y9.2.2.2.1, (y9.2.2.2.2.1, r17.1)))), (r17.2.1, ()))) (some ((y9.2.1, (y9.2.2.1, (y9.2.2.2.1, (y9.2.2.2.2.1, r17.1)))), (false, ())))))
noncomputable def iParseLink.mng (n : Nat) : Mng := ⟨[.val .str], [.val tLink, .val .bool], fun x => iParseLink.f n x.1⟩
noncomputable def iParseLink.cfg (n : Nat) : Cfg := ⟨tys10, [(61, splitC.mng n), (62, iNumber.mng n), (31, iParseStream.mng n)], [], []⟩
theorem iParseLink.eq : ∀ (n : Nat) (a0 : List UInt8), runF (iParseLink.cfg n) n Tryz.f46 (annOf Tryz.f46 iParseLink.las) [.val .str] [.val tLink, .val .bool] (a0, ()) = iParseLink.f n a0 := by
  intros
  kernel_rfl
theorem iParseLink.gof : GoF Tryz.prog 46 := ⟨_, Tryz.func46, by kernel_rfl, by kernel_rfl⟩
theorem iParseLink.sound (n : Nat) : Sound Tryz.prog 46 (iParseLink.mng n) := runF_sound (fn := Tryz.f46) (m := iParseLink.mng n) (c := iParseLink.cfg n) (regOK mixed (opOK (.of (c := iParseLink.cfg n) ⟨⟨splitC.sound n, splitC.gof⟩, ⟨⟨iNumber.sound n, iNumber.gof⟩, ⟨⟨iParseStream.sound n, iParseStream.gof⟩, trivial⟩⟩⟩) (.of (c := iParseLink.cfg n) trivial)) (tysOK tys10_ok)) (tysOK tys10_ok) Tryz.func46 (fun x => (iParseLink.eq n x.1).symm)

def iParseNetwork.las : List (Nat × LA) := [(5, ⟨[(5, .bool), (6, .vptr 1000 0), (24, .int .i64)], [(1000, .cells [] [.own 1001 tProgram, .own 1002 tLink]), (1001, .row true tProgram), (1002, .row true tLink)], [0, 2, 22, 23], []⟩), (12, ⟨[(34, .bool)], [], [0, 2, 5, 6, 9, 10, 22, 23, 24], []⟩), (22, ⟨[(89, .bool)], [], [2, 6], []⟩)]
noncomputable def iParseNetwork.f (n : Nat) (a0 : List UInt8) : Option (Network × (Bool × Unit)) := (iLines.f n a0).bind fun r1 => iter (α := (Bool × (Int × (List Program) × (List Link) × Unit))) n (fun ih30 x29 => br (decide (x29.2.1 < (r1.1.length : Int))) (chk (0 ≤ x29.2.1 ∧ x29.2.1 < (r1.1.length : Int)) (let v31 := (r1.1.getD x29.2.1.toNat []); (cutC.f n v31 ([32] : List UInt8)).bind fun r32 => cut (α := (Bool × Unit)) (br (decide (r32.1 = ([112, 114, 111, 99, 101, 115, 115] : List UInt8))) (some (.inr ((decide ((x29.2.2.2.1.length : Int) = 0)), ()))) (some (.inr (false, ())))) fun y33 => br y33.1 ((iParseProgram.f n r32.2.1).bind fun r34 => chk ((x29.2.2.1.length + ([r34.1] : List Program).length) * 40 ≤ maxB) (br x29.1 (ih30 (r34.2.1, ((w64 (x29.2.1 + 1)), ((x29.2.2.1 ++ [r34.1]), (x29.2.2.2.1, ()))))) (ih30 (false, ((w64 (x29.2.1 + 1)), ((x29.2.2.1 ++ [r34.1]), (x29.2.2.2.1, ()))))))) (br (decide (r32.1 = ([108, 105, 110, 107] : List UInt8))) ((iParseLink.f n r32.2.1).bind fun r35 => chk ((x29.2.2.2.1.length + ([r35.1] : List Link).length) * 56 ≤ maxB) (br x29.1 (ih30 (r35.2.1, ((w64 (x29.2.1 + 1)), (x29.2.2.1, ((x29.2.2.2.1 ++ [r35.1]), ()))))) (ih30 (false, ((w64 (x29.2.1 + 1)), (x29.2.2.1, ((x29.2.2.2.1 ++ [r35.1]), ()))))))) (ih30 (false, ((w64 (x29.2.1 + 1)), (x29.2.2.1, (x29.2.2.2.1, ())))))))) (cut (α := (Bool × Unit)) (br (!x29.1) (some (.inr (true, ()))) ((iIsNetwork.f n (x29.2.2.1, x29.2.2.2.1)).bind fun r39 => br (!r39.1) (some (.inr (true, ()))) ((iFmtNetwork.f n (x29.2.2.1, x29.2.2.2.1)).bind fun r40 => some (.inr ((!decide (r40.1 = a0)), ()))))) fun y38 => br y38.1 (some (([], []), (false, ()))) (some ((x29.2.2.1, x29.2.2.2.1), (true, ()))))) (r1.2.1, (0, ([], ([], ()))))
noncomputable def iParseNetwork.mng (n : Nat) : Mng := ⟨[.val .str], [.val tNetwork, .val .bool], fun x => iParseNetwork.f n x.1⟩
noncomputable def iParseNetwork.cfg (n : Nat) : Cfg := ⟨tys10, [(44, iLines.mng n), (45, cutC.mng n), (33, iParseProgram.mng n), (46, iParseLink.mng n), (47, iIsNetwork.mng n), (25, iFmtNetwork.mng n)], [], []⟩
theorem iParseNetwork.eq : ∀ (n : Nat) (a0 : List UInt8), runF (iParseNetwork.cfg n) n Tryz.f8 (annOf Tryz.f8 iParseNetwork.las) [.val .str] [.val tNetwork, .val .bool] (a0, ()) = iParseNetwork.f n a0 := by
  intros
  kernel_rfl
theorem iParseNetwork.gof : GoF Tryz.prog 8 := ⟨_, Tryz.func8, by kernel_rfl, by kernel_rfl⟩
theorem iParseNetwork.sound (n : Nat) : Sound Tryz.prog 8 (iParseNetwork.mng n) := runF_sound (fn := Tryz.f8) (m := iParseNetwork.mng n) (c := iParseNetwork.cfg n) (regOK mixed (opOK (.of (c := iParseNetwork.cfg n) ⟨⟨iLines.sound n, iLines.gof⟩, ⟨⟨cutC.sound n, cutC.gof⟩, ⟨⟨iParseProgram.sound n, iParseProgram.gof⟩, ⟨⟨iParseLink.sound n, iParseLink.gof⟩, ⟨⟨iIsNetwork.sound n, iIsNetwork.gof⟩, ⟨⟨iFmtNetwork.sound n, iFmtNetwork.gof⟩, trivial⟩⟩⟩⟩⟩⟩) (.of (c := iParseNetwork.cfg n) trivial)) (tysOK tys10_ok)) (tysOK tys10_ok) Tryz.func8 (fun x => (iParseNetwork.eq n x.1).symm)

def l9Link.las : List (Nat × LA) := []
noncomputable def l9Link.f (n : Nat) (a0 : List (List UInt8)) : Option (Link × (Bool × Unit)) := br (!decide ((a0.length : Int) = 6)) (some ((0, (0, (0, (0, [])))), (false, ()))) (chk ((0 : Int) ≤ 1 ∧ (1 : Int) < (a0.length : Int)) ((l1Read.f n (a0.getD 1 [])).bind fun r1 => chk ((0 : Int) ≤ 2 ∧ (2 : Int) < (a0.length : Int)) ((l1Read.f n (a0.getD 2 [])).bind fun r2 => chk ((0 : Int) ≤ 3 ∧ (3 : Int) < (a0.length : Int)) ((l1Read.f n (a0.getD 3 [])).bind fun r3 => chk ((0 : Int) ≤ 4 ∧ (4 : Int) < (a0.length : Int)) ((l1Read.f n (a0.getD 4 [])).bind fun r4 => chk ((0 : Int) ≤ 5 ∧ (5 : Int) < (a0.length : Int)) ((sParseStream.f n (a0.getD 5 [])).bind fun r5 => some ((r1.1, (r2.1, (r3.1, (r4.1, r5.1)))), (r5.2.1, ()))))))))
noncomputable def l9Link.mng (n : Nat) : Mng := ⟨[.val (.sl .str)], [.val tLink, .val .bool], fun x => l9Link.f n x.1⟩
noncomputable def l9Link.cfg (n : Nat) : Cfg := ⟨tys10, [(100, sParseStream.mng n)], [(99, l1Read.mng n)], []⟩
theorem l9Link.eq : ∀ (n : Nat) (a0 : List (List UInt8)), runF (l9Link.cfg n) n Tryz.f41 (annOf Tryz.f41 l9Link.las) [.val (.sl .str)] [.val tLink, .val .bool] (a0, ()) = l9Link.f n a0 := by
  intros
  kernel_rfl
theorem l9Link.gof : GoF Tryz.prog 41 := ⟨_, Tryz.func41, by kernel_rfl, by kernel_rfl⟩
theorem l9Link.sound (n : Nat) : Sound Tryz.prog 41 (l9Link.mng n) := runF_sound (fn := Tryz.f41) (m := l9Link.mng n) (c := l9Link.cfg n) (regOK mixed (opOK (.of (c := l9Link.cfg n) ⟨⟨sParseStream.sound n, sParseStream.gof⟩, trivial⟩) (.of (c := l9Link.cfg n) ⟨⟨l1Read.sound n, l1Read.gof⟩, trivial⟩)) (tysOK tys10_ok)) (tysOK tys10_ok) Tryz.func41 (fun x => (l9Link.eq n x.1).symm)

def sParseNetwork.las : List (Nat × LA) := [(8, ⟨[(5, .vptr 1000 0), (26, .int .i64)], [(1000, .cells [] [.own 1001 tProgram, .own 1002 tLink]), (1001, .row true tProgram), (1002, .row true tLink)], [0, 2, 24, 25], []⟩), (27, ⟨[(75, .bool)], [], [2, 5], []⟩)]
noncomputable def sParseNetwork.f (n : Nat) (a0 : List UInt8) : Option (Network × (Bool × Unit)) := (l1Split.f n a0 10).bind fun r1 => br (decide (43 < (r1.1.length : Int))) (some (([], []), (false, ()))) (chk ((0 : Int) ≤ 0 ∧ (0 : Int) ≤ (w64 ((r1.1.length : Int) - 1)) ∧ (w64 ((r1.1.length : Int) - 1)) ≤ (r1.1.length : Int)) (iter (α := (Int × (List Program) × (List Link) × Unit)) n (fun ih31 x30 => br (decide (x30.1 < (((w64 ((r1.1.length : Int) - 1)).toNat - 0) : Int))) (chk (0 ≤ x30.1 ∧ x30.1 < (((w64 ((r1.1.length : Int) - 1)).toNat - 0) : Int)) ((l1Split.f n (r1.1.getD (0 + x30.1.toNat) []) 32).bind fun r32 => chk ((0 : Int) ≤ 0 ∧ (0 : Int) < (r32.1.length : Int)) (br (decide ((r32.1.getD 0 []) = ([108, 105, 110, 107] : List UInt8))) ((l9Link.f n r32.1).bind fun r33 => br (!r33.2.1) (some (([], []), (false, ()))) (chk ((x30.2.2.1.length + ([r33.1] : List Link).length) * 56 ≤ maxB) (ih31 ((w64 (x30.1 + 1)), (x30.2.1, ((x30.2.2.1 ++ [r33.1]), ())))))) (br (decide (((r1.1.getD (0 + x30.1.toNat) []).length : Int) < 8)) (some (([], []), (false, ()))) (chk ((0 : Int) ≤ 8 ∧ (8 : Int) ≤ ((r1.1.getD (0 + x30.1.toNat) []).length : Int) ∧ ((r1.1.getD (0 + x30.1.toNat) []).length : Int) ≤ ((r1.1.getD (0 + x30.1.toNat) []).length : Int)) ((sParseProgram.f n (((r1.1.getD (0 + x30.1.toNat) []).take ((r1.1.getD (0 + x30.1.toNat) []).length : Int).toNat).drop 8)).bind fun r34 => chk ((x30.2.1.length + ([r34.1] : List Program).length) * 40 ≤ maxB) (ih31 ((w64 (x30.1 + 1)), ((x30.2.1 ++ [r34.1]), (x30.2.2.1, ())))))))))) (cut (α := (Bool × Unit)) ((sIsNetwork.f n (x30.2.1, x30.2.2.1)).bind fun r38 => br (!r38.1) (some (.inr (true, ()))) ((fmtNetwork.f n (x30.2.1, x30.2.2.1)).bind fun r39 => some (.inr ((!decide (r39.1 = a0)), ())))) fun y37 => br y37.1 (some (([], []), (false, ()))) (some ((x30.2.1, x30.2.2.1), (true, ()))))) (0, ([], ([], ())))))
noncomputable def sParseNetwork.mng (n : Nat) : Mng := ⟨[.val .str], [.val tNetwork, .val .bool], fun x => sParseNetwork.f n x.1⟩
noncomputable def sParseNetwork.cfg (n : Nat) : Cfg := ⟨tys10, [(40, l1Split.mng n), (41, l9Link.mng n), (42, sParseProgram.mng n), (43, sIsNetwork.mng n), (39, fmtNetwork.mng n)], [], []⟩
theorem sParseNetwork.eq : ∀ (n : Nat) (a0 : List UInt8), runF (sParseNetwork.cfg n) n Tryz.f7 (annOf Tryz.f7 sParseNetwork.las) [.val .str] [.val tNetwork, .val .bool] (a0, ()) = sParseNetwork.f n a0 := by
  intros
  kernel_rfl
theorem sParseNetwork.gof : GoF Tryz.prog 7 := ⟨_, Tryz.func7, by kernel_rfl, by kernel_rfl⟩
theorem sParseNetwork.sound (n : Nat) : Sound Tryz.prog 7 (sParseNetwork.mng n) := runF_sound (fn := Tryz.f7) (m := sParseNetwork.mng n) (c := sParseNetwork.cfg n) (regOK mixed (opOK (.of (c := sParseNetwork.cfg n) ⟨⟨l1Split.sound n, l1Split.gof⟩, ⟨⟨l9Link.sound n, l9Link.gof⟩, ⟨⟨sParseProgram.sound n, sParseProgram.gof⟩, ⟨⟨sIsNetwork.sound n, sIsNetwork.gof⟩, ⟨⟨fmtNetwork.sound n, fmtNetwork.gof⟩, trivial⟩⟩⟩⟩⟩) (.of (c := sParseNetwork.cfg n) trivial)) (tysOK tys10_ok)) (tysOK tys10_ok) Tryz.func7 (fun x => (sParseNetwork.eq n x.1).symm)
end Go.AmT
