/- Functions that the law FnExactParseNetwork reaches, each as a plain Lean function, and that each does what that says. No condition. -/
import Derived.Test.YtgddbcdkhfdojaaGreatDoorPNum
import Derived.Test.YtgddbcdkhfdojaaGreatDoorAmE
namespace Go.AmT
open Go Go.Am Go.Proofs
set_option linter.unusedVariables false
set_option maxRecDepth 100000
def tys3 : List (Nat × TInfo) := [(3, ⟨false, 1, 8, [.int .i64 0], .int .i64, 0, some I, [], false⟩),
  (5, ⟨false, 1, 1, [.int .u8 0], .int .u8, 0, some U8, [], false⟩),
  (9, ⟨false, 1, 16, [.str []], .str, 0, some .str, [], false⟩),
  (49, ⟨false, 1, 24, [.nil], .slice, 3, some IS, [], false⟩),
  (77, ⟨false, 1, 24, [.nil], .slice, 9, some (.sl .str), [], false⟩),
  (158, ⟨false, 1, 16, [.err true], .iface, 0, some .err, [], false⟩)]
theorem tys3_ok : (tys3.all fun p => tokB Tryz.prog p.1 p.2) = true := by kernel_rfl

noncomputable def splitC.f (n : Nat) (a0 : List UInt8) (a1 : List UInt8) : Option (List (List UInt8) × Unit) := splitF a0 a1
noncomputable def splitC.mng (n : Nat) : Mng := ⟨[.val .str, .val .str], [.sh (.sl .str)], fun x => splitC.f n x.1 x.2.1⟩
theorem splitC.gof : GoF Tryz.prog 61 := ⟨_, Tryz.func61, by kernel_rfl, by kernel_rfl⟩
theorem splitC.sound (n : Nat) : Sound Tryz.prog 61 (splitC.mng n) := split_sound (b := 0) (by kernel_rfl) (fun s sep m w hs hm h1 => Tryz.strings_Split s sep m w hs hm h1)

noncomputable def atoiC.f (n : Nat) (a0 : List UInt8) : Option (Int × (Bool × Unit)) := atoiF a0
noncomputable def atoiC.mng (n : Nat) : Mng := ⟨[.val .str], [.val (.int .i64), .val .err], fun x => atoiC.f n x.1⟩
theorem atoiC.gof : GoF Tryz.prog 124 := ⟨_, Tryz.func124, by kernel_rfl, by kernel_rfl⟩
theorem atoiC.sound (n : Nat) : Sound Tryz.prog 124 (atoiC.mng n) := atoi_sound (by kernel_rfl) (by kernel_rfl) (fun s h v hv w => Tryz.strconv_Atoi_ok s h v hv w) (fun s h hv tp p w hvar => (Tryz.strconv_Atoi_syntax_var s h hv tp p w hvar).mono fun e w' ⟨N, he, _, _, hb⟩ => ⟨_, _, he, hb⟩) (fun s h hv tp p w hvar => (Tryz.strconv_Atoi_range_var s h hv tp p w hvar).mono fun e w' ⟨N, he, _, _, hb⟩ => ⟨_, _, he, hb⟩)

def l1Read.las : List (Nat × LA) := [(1, ⟨[(20, .bool)], [], [0], []⟩), (4, ⟨[(2, .int .i64), (3, .bool)], [], [], []⟩), (5, ⟨[(51, .bool)], [], [0], []⟩), (11, ⟨[(6, .int .i64), (7, .int .i64)], [], [0], []⟩), (15, ⟨[(67, .bool)], [], [0, 6, 7], []⟩)]
def l1Read.la : LA := ⟨[(0, .str)], [], [], []⟩
def l1Read.lb : LA := ⟨[(0, .int .i64), (1, .bool)], [], [], []⟩
noncomputable def l1Read.B (n : Nat) (slf : (List UInt8) → Option (Int × (Bool × Unit))) (a0 : List UInt8) : Option (Int × (Bool × Unit)) := cut (α := (Bool × Unit)) (br (decide (1 < (a0.length : Int))) (chk ((0 : Int) ≤ 0 ∧ (0 : Int) < (a0.length : Int)) (br (decide (((a0.getD 0 0).toNat : Int) = 45)) (chk ((0 : Int) ≤ 1 ∧ (1 : Int) < (a0.length : Int)) (some (.inr ((!decide (((a0.getD 1 0).toNat : Int) = 45)), ())))) (some (.inr (false, ()))))) (some (.inr (false, ())))) fun y1 => br y1.1 (chk ((0 : Int) ≤ 1 ∧ (1 : Int) ≤ (a0.length : Int) ∧ (a0.length : Int) ≤ (a0.length : Int)) ((slf ((a0.take (a0.length : Int).toNat).drop 1)).bind fun r3 => cut (α := (Int × (Bool × Unit))) (br r3.2.1 (some (.inr ((w64 (0 - r3.1)), ((!decide (r3.1 = 0)), ())))) (some (.inr ((w64 (0 - r3.1)), (false, ()))))) fun y4 => some (y4.1, (y4.2.1, ())))) (cut (α := (Bool × Unit)) (br (decide ((a0.length : Int) < 1)) (some (.inr (true, ()))) (br (decide (9 < (a0.length : Int))) (some (.inr (true, ()))) (chk ((0 : Int) ≤ 0 ∧ (0 : Int) < (a0.length : Int)) (br (decide (((a0.getD 0 0).toNat : Int) = 48)) (some (.inr ((decide (1 < (a0.length : Int))), ()))) (some (.inr (false, ()))))))) fun y5 => br y5.1 (some (0, (false, ()))) (iter (α := (Int × (Int × Unit))) n (fun ih11 x10 => br (decide (x10.2.1 < (a0.length : Int))) (cut (α := (Bool × Unit)) (chk (0 ≤ x10.2.1 ∧ x10.2.1 < (a0.length : Int)) (br (decide (((a0.getD x10.2.1.toNat 0).toNat : Int) < 48)) (some (.inr (true, ()))) (chk (0 ≤ x10.2.1 ∧ x10.2.1 < (a0.length : Int)) (some (.inr ((decide (57 < ((a0.getD x10.2.1.toNat 0).toNat : Int))), ())))))) fun y12 => br y12.1 (some (0, (false, ()))) (chk (0 ≤ x10.2.1 ∧ x10.2.1 < (a0.length : Int)) (ih11 ((w64 ((w64 (10 * x10.1)) + (w64 ((IntKind.wrap .u8 (((a0.getD x10.2.1.toNat 0).toNat : Int) - 48)))))), ((w64 (x10.2.1 + 1)), ()))))) (some (x10.1, (true, ())))) (0, (0, ()))))
noncomputable def l1Read.F (n : Nat) : Nat → (List UInt8) → Option (Int × (Bool × Unit))
  | 0 => fun _ => none
  | d + 1 => l1Read.B n (l1Read.F n d)
noncomputable def l1Read.f (n : Nat) (a0 : List UInt8) : Option (Int × (Bool × Unit)) := l1Read.F n n a0
noncomputable def l1Read.mngI (n : Nat) (slf : (List UInt8) → Option (Int × (Bool × Unit))) : LMng := ⟨l1Read.la, l1Read.lb, fun x => slf x.1⟩
noncomputable def l1Read.mng (n : Nat) : LMng := ⟨l1Read.la, l1Read.lb, fun x => l1Read.f n x.1⟩
noncomputable def l1Read.cfg (n : Nat) (slf : (List UInt8) → Option (Int × (Bool × Unit))) : Cfg := ⟨tys3, [], [(99, l1Read.mngI n slf)], []⟩
theorem l1Read.eq : ∀ (n : Nat) (slf : (List UInt8) → Option (Int × (Bool × Unit))) (a0 : List UInt8) (mp : Mp), LMng.run (l1Read.cfg n slf) n Tryz.f99 (annOf Tryz.f99 l1Read.las) l1Read.la l1Read.lb (a0, mp) = l1Read.B n slf a0 := by
  intros
  kernel_rfl
theorem l1Read.gof : GoF Tryz.prog 99 := ⟨_, Tryz.func99, by kernel_rfl, by kernel_rfl⟩
theorem l1Read.soundF (n : Nat) : ∀ d, LSound Tryz.prog 99 (l1Read.mngI n (l1Read.F n d))
  | 0 => fun _ _ h => nomatch h
  | d + 1 => runL_sound (fn := Tryz.f99) (M := l1Read.mngI n (l1Read.F n (d + 1))) (c := l1Read.cfg n (l1Read.F n d)) (regOK mixed (opOK (.of (c := l1Read.cfg n (l1Read.F n d)) trivial) (.of (c := l1Read.cfg n (l1Read.F n d)) ⟨⟨l1Read.soundF n d, l1Read.gof⟩, trivial⟩)) (tysOK tys3_ok)) (tysOK tys3_ok) Tryz.func99 (fun x => (l1Read.eq n (l1Read.F n d) x.1 x.2).symm)
theorem l1Read.sound (n : Nat) : LSound Tryz.prog 99 (l1Read.mng n) := l1Read.soundF n n

def l1Split.las : List (Nat × LA) := [(5, ⟨[(5, .own 1000 .str), (6, .int .i64), (7, .int .i64)], [(1000, .row true .str)], [0, 1], []⟩)]
noncomputable def l1Split.f (n : Nat) (a0 : List UInt8) (a1 : Int) : Option ((List (List UInt8)) × Unit) := iter (α := (Int × (Int × (List (List UInt8)) × Unit))) n (fun ih9 x8 => br (decide (x8.2.1 < (a0.length : Int))) (chk (0 ≤ x8.2.1 ∧ x8.2.1 < (a0.length : Int)) (br (decide (((a0.getD x8.2.1.toNat 0).toNat : Int) = a1)) (chk (0 ≤ x8.1 ∧ x8.1 ≤ x8.2.1 ∧ x8.2.1 ≤ (a0.length : Int)) (chk ((x8.2.2.1.length + ([((a0.take x8.2.1.toNat).drop x8.1.toNat)] : List (List UInt8)).length) * 16 ≤ maxB) (ih9 ((w64 (x8.2.1 + 1)), ((w64 (x8.2.1 + 1)), ((x8.2.2.1 ++ [((a0.take x8.2.1.toNat).drop x8.1.toNat)]), ())))))) (ih9 (x8.1, ((w64 (x8.2.1 + 1)), (x8.2.2.1, ())))))) (chk (0 ≤ x8.1 ∧ x8.1 ≤ (a0.length : Int) ∧ (a0.length : Int) ≤ (a0.length : Int)) (chk ((x8.2.2.1.length + ([((a0.take (a0.length : Int).toNat).drop x8.1.toNat)] : List (List UInt8)).length) * 16 ≤ maxB) (some ((x8.2.2.1 ++ [((a0.take (a0.length : Int).toNat).drop x8.1.toNat)]), ()))))) (0, (0, ([], ())))
noncomputable def l1Split.mng (n : Nat) : Mng := ⟨[.val .str, .val U8], [.val (.sl .str)], fun x => l1Split.f n x.1 x.2.1⟩
noncomputable def l1Split.cfg (n : Nat) : Cfg := ⟨tys3, [], [], []⟩
theorem l1Split.eq : ∀ (n : Nat) (a0 : List UInt8) (a1 : Int), runF (l1Split.cfg n) n Tryz.f40 (annOf Tryz.f40 l1Split.las) [.val .str, .val U8] [.val (.sl .str)] (a0, (a1, ())) = l1Split.f n a0 a1 := by
  intros
  kernel_rfl
theorem l1Split.gof : GoF Tryz.prog 40 := ⟨_, Tryz.func40, by kernel_rfl, by kernel_rfl⟩
theorem l1Split.sound (n : Nat) : Sound Tryz.prog 40 (l1Split.mng n) := runF_sound (fn := Tryz.f40) (m := l1Split.mng n) (c := l1Split.cfg n) (regOK mixed (opOK (.of (c := l1Split.cfg n) trivial) (.of (c := l1Split.cfg n) trivial)) (tysOK tys3_ok)) (tysOK tys3_ok) Tryz.func40 (fun x => (l1Split.eq n x.1 x.2.1).symm)

def sParseStream.las : List (Nat × LA) := [(7, ⟨[(4, .own 1000 I), (16, .int .i64)], [(1000, .row true I)], [14, 15], []⟩)]
noncomputable def sParseStream.f (n : Nat) (a0 : List UInt8) : Option ((List Int) × (Bool × Unit)) := br (decide (a0 = ([46] : List UInt8))) (some ([], (true, ()))) ((l1Split.f n a0 44).bind fun r1 => iter (α := (Int × (List Int) × Unit)) n (fun ih11 x10 => br (decide (x10.1 < (r1.1.length : Int))) (chk (0 ≤ x10.1 ∧ x10.1 < (r1.1.length : Int)) ((l1Read.f n (r1.1.getD x10.1.toNat [])).bind fun r12 => br (!r12.2.1) (some ([], (false, ()))) (chk ((x10.2.1.length + ([r12.1] : List Int).length) * 8 ≤ maxB) (ih11 ((w64 (x10.1 + 1)), ((x10.2.1 ++ [r12.1]), ())))))) ((sIsStream.f n x10.2.1).bind fun r13 => br (!r13.1) (some ([], (false, ()))) (some (x10.2.1, (true, ()))))) (0, ([], ())))
noncomputable def sParseStream.mng (n : Nat) : Mng := ⟨[.val .str], [.val IS, .val .bool], fun x => sParseStream.f n x.1⟩
noncomputable def sParseStream.cfg (n : Nat) : Cfg := ⟨tys3, [(40, l1Split.mng n), (104, sIsStream.mng n)], [(99, l1Read.mng n)], []⟩
theorem sParseStream.eq : ∀ (n : Nat) (a0 : List UInt8), runF (sParseStream.cfg n) n Tryz.f100 (annOf Tryz.f100 sParseStream.las) [.val .str] [.val IS, .val .bool] (a0, ()) = sParseStream.f n a0 := by
  intros
  kernel_rfl
theorem sParseStream.gof : GoF Tryz.prog 100 := ⟨_, Tryz.func100, by kernel_rfl, by kernel_rfl⟩
theorem sParseStream.sound (n : Nat) : Sound Tryz.prog 100 (sParseStream.mng n) := runF_sound (fn := Tryz.f100) (m := sParseStream.mng n) (c := sParseStream.cfg n) (regOK mixed (opOK (.of (c := sParseStream.cfg n) ⟨⟨l1Split.sound n, l1Split.gof⟩, ⟨⟨sIsStream.sound n, sIsStream.gof⟩, trivial⟩⟩) (.of (c := sParseStream.cfg n) ⟨⟨l1Read.sound n, l1Read.gof⟩, trivial⟩)) (tysOK tys3_ok)) (tysOK tys3_ok) Tryz.func100 (fun x => (sParseStream.eq n x.1).symm)

def iNumber.las : List (Nat × LA) := []
noncomputable def iNumber.f (n : Nat) (a0 : List UInt8) : Option (Int × (Bool × Unit)) := (atoiC.f n a0).bind fun r1 => br r1.2.1 ((itoaC.f n r1.1).bind fun r2 => some (r1.1, ((decide (r2.1 = a0)), ()))) (some (r1.1, (false, ())))
noncomputable def iNumber.mng (n : Nat) : Mng := ⟨[.val .str], [.val I, .val .bool], fun x => iNumber.f n x.1⟩
noncomputable def iNumber.cfg (n : Nat) : Cfg := ⟨tys3, [(124, atoiC.mng n), (81, itoaC.mng n)], [], []⟩
theorem iNumber.eq : ∀ (n : Nat) (a0 : List UInt8), runF (iNumber.cfg n) n Tryz.f62 (annOf Tryz.f62 iNumber.las) [.val .str] [.val I, .val .bool] (a0, ()) = iNumber.f n a0 := by
  intros
  kernel_rfl
theorem iNumber.gof : GoF Tryz.prog 62 := ⟨_, Tryz.func62, by kernel_rfl, by kernel_rfl⟩
theorem iNumber.sound (n : Nat) : Sound Tryz.prog 62 (iNumber.mng n) := runF_sound (fn := Tryz.f62) (m := iNumber.mng n) (c := iNumber.cfg n) (regOK mixed (opOK (.of (c := iNumber.cfg n) ⟨⟨atoiC.sound n, atoiC.gof⟩, ⟨⟨itoaC.sound n, itoaC.gof⟩, trivial⟩⟩) (.of (c := iNumber.cfg n) trivial)) (tysOK tys3_ok)) (tysOK tys3_ok) Tryz.func62 (fun x => (iNumber.eq n x.1).symm)

def iParseStream.las : List (Nat × LA) := [(7, ⟨[(4, .own 1000 I), (15, .int .i64)], [(1000, .row true I)], [13, 14], []⟩)]
noncomputable def iParseStream.f (n : Nat) (a0 : List UInt8) : Option ((List Int) × (Bool × Unit)) := br (decide (a0 = ([46] : List UInt8))) (some ([], (true, ()))) ((splitC.f n a0 ([44] : List UInt8)).bind fun r1 => iter (α := (Int × (List Int) × Unit)) n (fun ih12 x11 => br (decide (x11.1 < (r1.1.length : Int))) (chk (0 ≤ x11.1 ∧ x11.1 < (r1.1.length : Int)) (let v13 := (r1.1.getD x11.1.toNat []); (iNumber.f n v13).bind fun r14 => br (!r14.2.1) (some ([], (false, ()))) (chk ((x11.2.1.length + ([r14.1] : List Int).length) * 8 ≤ maxB) (ih12 ((w64 (x11.1 + 1)), ((x11.2.1 ++ [r14.1]), ())))))) ((iIsStream.f n x11.2.1).bind fun r15 => br (!r15.1) (some ([], (false, ()))) (some (x11.2.1, (true, ()))))) (0, ([], ())))
noncomputable def iParseStream.mng (n : Nat) : Mng := ⟨[.val .str], [.val IS, .val .bool], fun x => iParseStream.f n x.1⟩
noncomputable def iParseStream.cfg (n : Nat) : Cfg := ⟨tys3, [(61, splitC.mng n), (62, iNumber.mng n), (88, iIsStream.mng n)], [], []⟩
theorem iParseStream.eq : ∀ (n : Nat) (a0 : List UInt8), runF (iParseStream.cfg n) n Tryz.f31 (annOf Tryz.f31 iParseStream.las) [.val .str] [.val IS, .val .bool] (a0, ()) = iParseStream.f n a0 := by
  intros
  kernel_rfl
theorem iParseStream.gof : GoF Tryz.prog 31 := ⟨_, Tryz.func31, by kernel_rfl, by kernel_rfl⟩
theorem iParseStream.sound (n : Nat) : Sound Tryz.prog 31 (iParseStream.mng n) := runF_sound (fn := Tryz.f31) (m := iParseStream.mng n) (c := iParseStream.cfg n) (regOK mixed (opOK (.of (c := iParseStream.cfg n) ⟨⟨splitC.sound n, splitC.gof⟩, ⟨⟨iNumber.sound n, iNumber.gof⟩, ⟨⟨iIsStream.sound n, iIsStream.gof⟩, trivial⟩⟩⟩) (.of (c := iParseStream.cfg n) trivial)) (tysOK tys3_ok)) (tysOK tys3_ok) Tryz.func31 (fun x => (iParseStream.eq n x.1).symm)
end Go.AmT
