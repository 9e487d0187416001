/- Functions that the law FnExactParseNetwork reaches, each as a plain Lean function, and that each does what that says. No condition. -/
import Derived.Test.YtgddbcdkhfdojaaGreatDoorPNet2
import Derived.Test.YtgddbcdkhfdojaaGreatDoorPMark0
import Derived.Test.YtgddbcdkhfdojaaGreatDoorAmE
import Derived.Test.YtgddbcdkhfdojaaGreatDoorTxtShelf
namespace Go.AmT
open Go Go.Am Go.Proofs
set_option linter.unusedVariables false
set_option maxRecDepth 100000
def tys1 : List (Nat × TInfo) := [(3, ⟨false, 1, 8, [.int .i64 0], .int .i64, 0, some I, [], false⟩),
  (5, ⟨false, 1, 1, [.int .u8 0], .int .u8, 0, some U8, [], false⟩),
  (9, ⟨false, 1, 16, [.str []], .str, 0, some .str, [], false⟩),
  (46, ⟨false, 1, 24, [.nil], .slice, 5, some (.sl U8), [], false⟩),
  (49, ⟨false, 1, 24, [.nil], .slice, 3, some IS, [], false⟩),
  (77, ⟨false, 1, 24, [.nil], .slice, 9, some (.sl .str), [], false⟩)]
theorem tys1_ok : (tys1.all fun p => tokB Tryz.prog p.1 p.2) = true := by kernel_rfl

def l1Number.las : List (Nat × LA) := [(7, ⟨[(0, .int .i64), (3, .str)], [], [], []⟩)]
def l1Number.la : LA := ⟨[(0, .int .i64)], [], [], []⟩
def l1Number.lb : LA := ⟨[(0, .str)], [], [], []⟩
noncomputable def l1Number.B (n : Nat) (slf : (Int) → Option ((List UInt8) × Unit)) (a0 : Int) : Option ((List UInt8) × Unit) := br (decide (a0 < 0)) ((slf (w64 (0 - a0))).bind fun r2 => chk (([45] : List UInt8).length + r2.1.length < maxS) (some ((([45] : List UInt8) ++ r2.1), ()))) (iter (α := (Int × (List UInt8) × Unit)) n (fun ih6 x5 => br (decide (0 < x5.1)) (chk ((([(IntKind.wrap .u8 ((w64 (48 + (x5.1.tmod 10)))))] : List Int).map fun n => UInt8.ofNat n.toNat).length + x5.2.1.length < maxS) (ih6 ((w64 (x5.1.tdiv 10)), (((([(IntKind.wrap .u8 ((w64 (48 + (x5.1.tmod 10)))))] : List Int).map fun n => UInt8.ofNat n.toNat) ++ x5.2.1), ())))) (some (x5.2.1, ()))) ((w64 (a0.tdiv 10)), ((([(IntKind.wrap .u8 ((w64 (48 + (a0.tmod 10)))))] : List Int).map fun n => UInt8.ofNat n.toNat), ())))
noncomputable def l1Number.F (n : Nat) : Nat → (Int) → Option ((List UInt8) × Unit)
  | 0 => fun _ => none
  | d + 1 => l1Number.B n (l1Number.F n d)
noncomputable def l1Number.f (n : Nat) (a0 : Int) : Option ((List UInt8) × Unit) := l1Number.F n n a0
noncomputable def l1Number.mngI (n : Nat) (slf : (Int) → Option ((List UInt8) × Unit)) : LMng := ⟨l1Number.la, l1Number.lb, fun x => slf x.1⟩
noncomputable def l1Number.mng (n : Nat) : LMng := ⟨l1Number.la, l1Number.lb, fun x => l1Number.f n x.1⟩
noncomputable def l1Number.cfg (n : Nat) (slf : (Int) → Option ((List UInt8) × Unit)) : Cfg := ⟨tys1, [], [(96, l1Number.mngI n slf)], []⟩
theorem l1Number.eq : ∀ (n : Nat) (slf : (Int) → Option ((List UInt8) × Unit)) (a0 : Int) (mp : Mp), LMng.run (l1Number.cfg n slf) n Tryz.f96 (annOf Tryz.f96 l1Number.las) l1Number.la l1Number.lb (a0, mp) = l1Number.B n slf a0 := by
  intros
  kernel_rfl
theorem l1Number.gof : GoF Tryz.prog 96 := ⟨_, Tryz.func96, by kernel_rfl, by kernel_rfl⟩
theorem l1Number.soundF (n : Nat) : ∀ d, LSound Tryz.prog 96 (l1Number.mngI n (l1Number.F n d))
  | 0 => fun _ _ h => nomatch h
  | d + 1 => runL_sound (fn := Tryz.f96) (M := l1Number.mngI n (l1Number.F n (d + 1))) (c := l1Number.cfg n (l1Number.F n d)) (regOK mixed (opOK (.of (c := l1Number.cfg n (l1Number.F n d)) trivial) (.of (c := l1Number.cfg n (l1Number.F n d)) ⟨⟨l1Number.soundF n d, l1Number.gof⟩, trivial⟩)) (tysOK tys1_ok)) (tysOK tys1_ok) Tryz.func96 (fun x => (l1Number.eq n (l1Number.F n d) x.1 x.2).symm)
theorem l1Number.sound (n : Nat) : LSound Tryz.prog 96 (l1Number.mng n) := l1Number.soundF n n

def fmtStream.las : List (Nat × LA) := [(10, ⟨[(3, .str), (19, .int .i64)], [], [17, 18], []⟩)]
noncomputable def fmtStream.f (n : Nat) (a0 : List Int) : Option ((List UInt8) × Unit) := (sIsStream.f n a0).bind fun r1 => br (!r1.1) (some ([], ())) (br (decide ((a0.length : Int) = 0)) (some ([46], ())) (chk ((0 : Int) ≤ 0 ∧ (0 : Int) < (a0.length : Int)) ((l1Number.f n (a0.getD 0 0)).bind fun r2 => chk ((0 : Int) ≤ 1 ∧ (1 : Int) ≤ (a0.length : Int) ∧ (a0.length : Int) ≤ (a0.length : Int)) (iter (α := ((List UInt8) × (Int × Unit))) n (fun ih9 x8 => br (decide (x8.2.1 < (((a0.take (a0.length : Int).toNat).drop 1).length : Int))) (chk (0 ≤ x8.2.1 ∧ x8.2.1 < (((a0.take (a0.length : Int).toNat).drop 1).length : Int)) (let v10 := (((a0.take (a0.length : Int).toNat).drop 1).getD x8.2.1.toNat 0); chk (x8.1.length + ([44] : List UInt8).length < maxS) ((l1Number.f n v10).bind fun r11 => chk ((x8.1 ++ ([44] : List UInt8)).length + r11.1.length < maxS) (ih9 (((x8.1 ++ ([44] : List UInt8)) ++ r11.1), ((w64 (x8.2.1 + 1)), ())))))) (some (x8.1, ()))) (r2.1, (0, ()))))))
noncomputable def fmtStream.mng (n : Nat) : Mng := ⟨[.val IS], [.val .str], fun x => fmtStream.f n x.1⟩
noncomputable def fmtStream.cfg (n : Nat) : Cfg := ⟨tys1, [(104, sIsStream.mng n)], [(96, l1Number.mng n)], []⟩
theorem fmtStream.eq : ∀ (n : Nat) (a0 : List Int), runF (fmtStream.cfg n) n Tryz.f98 (annOf Tryz.f98 fmtStream.las) [.val IS] [.val .str] (a0, ()) = fmtStream.f n a0 := by
  intros
  kernel_rfl
theorem fmtStream.gof : GoF Tryz.prog 98 := ⟨_, Tryz.func98, by kernel_rfl, by kernel_rfl⟩
theorem fmtStream.sound (n : Nat) : Sound Tryz.prog 98 (fmtStream.mng n) := runF_sound (fn := Tryz.f98) (m := fmtStream.mng n) (c := fmtStream.cfg n) (regOK mixed (opOK (.of (c := fmtStream.cfg n) ⟨⟨sIsStream.sound n, sIsStream.gof⟩, trivial⟩) (.of (c := fmtStream.cfg n) ⟨⟨l1Number.sound n, l1Number.gof⟩, trivial⟩)) (tysOK tys1_ok)) (tysOK tys1_ok) Tryz.func98 (fun x => (fmtStream.eq n x.1).symm)

noncomputable def itoaC.f (n : Nat) (a0 : Int) : Option (List UInt8 × Unit) := itoaR a0
noncomputable def itoaC.mng (n : Nat) : Mng := ⟨[.val (.int .i64)], [.val .str], fun x => itoaC.f n x.1⟩
theorem itoaC.gof : GoF Tryz.prog 81 := ⟨_, Tryz.func81, by kernel_rfl, by kernel_rfl⟩
theorem itoaC.sound (n : Nat) : Sound Tryz.prog 81 (itoaC.mng n) := itoa_sound (by kernel_rfl) (fun m h0 h1 w ht => Tryz.strconv_Itoa m h0 h1 w ht)

noncomputable def joinC.f (n : Nat) (a0 : List (List UInt8)) (a1 : List UInt8) : Option (List UInt8 × Unit) := joinR a0 a1
noncomputable def joinC.mng (n : Nat) : Mng := ⟨[.val (.sl .str), .val .str], [.val .str], fun x => joinC.f n x.1 x.2.1⟩
theorem joinC.gof : GoF Tryz.prog 89 := ⟨_, Tryz.func89, by kernel_rfl, by kernel_rfl⟩
theorem joinC.sound (n : Nat) : Sound Tryz.prog 89 (joinC.mng n) := join_sound Tryz.strings_Join_none Tryz.strings_Join

def iFmtStream.las : List (Nat × LA) := [(10, ⟨[(3, .own 1000 .str), (15, .int .i64)], [(1000, .row true .str)], [13, 14], []⟩)]
noncomputable def iFmtStream.f (n : Nat) (a0 : List Int) : Option ((List UInt8) × Unit) := (iIsStream.f n a0).bind fun r1 => br (!r1.1) (some ([], ())) (br (decide ((a0.length : Int) = 0)) (some ([46], ())) (iter (α := (Int × (List (List UInt8)) × Unit)) n (fun ih8 x7 => br (decide (x7.1 < (a0.length : Int))) (chk (0 ≤ x7.1 ∧ x7.1 < (a0.length : Int)) ((itoaC.f n (a0.getD x7.1.toNat 0)).bind fun r9 => chk ((x7.2.1.length + ([r9.1] : List (List UInt8)).length) * 16 ≤ maxB) (ih8 ((w64 (x7.1 + 1)), ((x7.2.1 ++ [r9.1]), ()))))) ((joinC.f n x7.2.1 ([44] : List UInt8)).bind fun r10 => some (r10.1, ()))) (0, ([], ()))))
noncomputable def iFmtStream.mng (n : Nat) : Mng := ⟨[.val IS], [.val .str], fun x => iFmtStream.f n x.1⟩
noncomputable def iFmtStream.cfg (n : Nat) : Cfg := ⟨tys1, [(88, iIsStream.mng n), (81, itoaC.mng n), (89, joinC.mng n)], [], []⟩
theorem iFmtStream.eq : ∀ (n : Nat) (a0 : List Int), runF (iFmtStream.cfg n) n Tryz.f32 (annOf Tryz.f32 iFmtStream.las) [.val IS] [.val .str] (a0, ()) = iFmtStream.f n a0 := by
  intros
  kernel_rfl
theorem iFmtStream.gof : GoF Tryz.prog 32 := ⟨_, Tryz.func32, by kernel_rfl, by kernel_rfl⟩
theorem iFmtStream.sound (n : Nat) : Sound Tryz.prog 32 (iFmtStream.mng n) := runF_sound (fn := Tryz.f32) (m := iFmtStream.mng n) (c := iFmtStream.cfg n) (regOK mixed (opOK (.of (c := iFmtStream.cfg n) ⟨⟨iIsStream.sound n, iIsStream.gof⟩, ⟨⟨itoaC.sound n, itoaC.gof⟩, ⟨⟨joinC.sound n, joinC.gof⟩, trivial⟩⟩⟩) (.of (c := iFmtStream.cfg n) trivial)) (tysOK tys1_ok)) (tysOK tys1_ok) Tryz.func32 (fun x => (iFmtStream.eq n x.1).symm)

def iListed.las : List (Nat × LA) := [(4, ⟨[(3, .str), (8, .int .i64)], [], [6, 7], []⟩)]
noncomputable def iListed.f (n : Nat) (a0 : List Int) : Option ((List UInt8) × Unit) := iter (α := ((List UInt8) × (Int × Unit))) n (fun ih7 x6 => br (decide (x6.2.1 < (a0.length : Int))) (chk (0 ≤ x6.2.1 ∧ x6.2.1 < (a0.length : Int)) ((itoaC.f n (a0.getD x6.2.1.toNat 0)).bind fun r8 => chk (r8.1.length + ([32] : List UInt8).length < maxS) (chk (x6.1.length + (r8.1 ++ ([32] : List UInt8)).length < maxS) (ih7 ((x6.1 ++ (r8.1 ++ ([32] : List UInt8))), ((w64 (x6.2.1 + 1)), ())))))) (some (x6.1, ()))) ([], (0, ()))
noncomputable def iListed.mng (n : Nat) : Mng := ⟨[.val IS], [.val .str], fun x => iListed.f n x.1⟩
noncomputable def iListed.cfg (n : Nat) : Cfg := ⟨tys1, [(81, itoaC.mng n)], [], []⟩
theorem iListed.eq : ∀ (n : Nat) (a0 : List Int), runF (iListed.cfg n) n Tryz.f80 (annOf Tryz.f80 iListed.las) [.val IS] [.val .str] (a0, ()) = iListed.f n a0 := by
  intros
  kernel_rfl
theorem iListed.gof : GoF Tryz.prog 80 := ⟨_, Tryz.func80, by kernel_rfl, by kernel_rfl⟩
theorem iListed.sound (n : Nat) : Sound Tryz.prog 80 (iListed.mng n) := runF_sound (fn := Tryz.f80) (m := iListed.mng n) (c := iListed.cfg n) (regOK mixed (opOK (.of (c := iListed.cfg n) ⟨⟨itoaC.sound n, itoaC.gof⟩, trivial⟩) (.of (c := iListed.cfg n) trivial)) (tysOK tys1_ok)) (tysOK tys1_ok) Tryz.func80 (fun x => (iListed.eq n x.1).symm)
end Go.AmT
