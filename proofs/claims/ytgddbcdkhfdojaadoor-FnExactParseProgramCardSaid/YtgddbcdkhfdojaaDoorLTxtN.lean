/- Functions that the law FnExactParseProgram reaches, each as a plain Lean function, and that each does what that says. No condition. -/
import Derived.Test.YtgddbcdkhfdojaaDoorPNet2
import Derived.Test.YtgddbcdkhfdojaaDoorPMark0
import Derived.Test.YtgddbcdkhfdojaaDoorAmE
import Derived.Test.YtgddbcdkhfdojaaDoorTxtShelf
namespace Go.AmT
open Go Go.Am Go.Proofs
set_option linter.unusedVariables false
set_option maxRecDepth 100000
def tys1 : List (Nat × TInfo) := [(3, ⟨false, 1, 8, [.int .i64 0], .int .i64, 0, some I, [], false⟩),
  (5, ⟨false, 1, 1, [.int .u8 0], .int .u8, 0, some U8, [], false⟩),
  (9, ⟨false, 1, 16, [.str []], .str, 0, some .str, [], false⟩),
  (72, ⟨false, 1, 24, [.nil], .slice, 9, some (.sl .str), [], false⟩),
  (76, ⟨false, 1, 24, [.nil], .slice, 3, some IS, [], false⟩),
  (116, ⟨false, 1, 24, [.nil], .slice, 5, some (.sl U8), [], false⟩)]
theorem tys1_ok : (tys1.all fun p => tokB Tryd.prog p.1 p.2) = true := by kernel_rfl

def l1Number.las : List (Nat × LA) := [(7, ⟨[(0, .int .i64), (3, .str)], [], [], []⟩)]
def l1Number.la : LA := ⟨[(0, .int .i64)], [], [], []⟩
def l1Number.lb : LA := ⟨[(0, .str)], [], [], []⟩
noncomputable def l1Number.B (n : Nat) (slf : (Int) → Option ((List UInt8) × Unit)) (a0 : Int) : Option ((List UInt8) × Unit) := br (decide (a0 < 0)) ((slf (w64 (0 - a0))).bind fun r2 => chk (([45] : List UInt8).length + r2.1.length < maxS) (some ((([45] : List UInt8) ++ r2.1), ()))) (iter (α := (Int × (List UInt8) × Unit)) n (fun ih6 x5 => br (decide (0 < x5.1)) (chk ((([(IntKind.wrap .u8 ((w64 (48 + (x5.1.tmod 10)))))] : List Int).map fun n => UInt8.ofNat n.toNat).length + x5.2.1.length < maxS) (ih6 ((w64 (x5.1.tdiv 10)), (((([(IntKind.wrap .u8 ((w64 (48 + (x5.1.tmod 10)))))] : List Int).map fun n => UInt8.ofNat n.toNat) ++ x5.2.1), ())))) (some (x5.2.1, ()))) ((w64 (a0.tdiv 10)), ((([(IntKind.wrap .u8 ((w64 (48 + (a0.tmod 10)))))] : List Int).map fun n => UInt8.ofNat n.toNat), ())))
noncomputable def l1Number.F (n : Nat) : Nat → (Int) → Option ((List UInt8) × Unit)
  | 0 => fun _ => none
  | d + 1 => l1Number.B n (l1Number.F n d)
noncomputable def l1Number.f (n : Nat) (a0 : Int) : Option ((List UInt8) × Unit) := l1Number.F n n a0
noncomputable def l1Number.mngI (n : Nat) (slf : (Int) → Option ((List UInt8) × Unit)) : LMng := ⟨l1Number.la, l1Number.lb, fun x => slf x.1⟩
noncomputable def l1Number.mng (n : Nat) : LMng := ⟨l1Number.la, l1Number.lb, fun x => l1Number.f n x.1⟩
noncomputable def l1Number.cfg (n : Nat) (slf : (Int) → Option ((List UInt8) × Unit)) : Cfg := ⟨tys1, [], [(37, l1Number.mngI n slf)], []⟩
theorem l1Number.eq : ∀ (n : Nat) (slf : (Int) → Option ((List UInt8) × Unit)) (a0 : Int) (mp : Mp), LMng.run (l1Number.cfg n slf) n Tryd.f37 (annOf Tryd.f37 l1Number.las) l1Number.la l1Number.lb (a0, mp) = l1Number.B n slf a0 := by
  intros
  kernel_rfl
theorem l1Number.gof : GoF Tryd.prog 37 := ⟨_, Tryd.func37, by kernel_rfl, by kernel_rfl⟩
theorem l1Number.soundF (n : Nat) : ∀ d, LSound Tryd.prog 37 (l1Number.mngI n (l1Number.F n d))
  | 0 => fun _ _ h => nomatch h
  | d + 1 => runL_sound (fn := Tryd.f37) (M := l1Number.mngI n (l1Number.F n (d + 1))) (c := l1Number.cfg n (l1Number.F n d)) (regOK mixed (opOK (.of (c := l1Number.cfg n (l1Number.F n d)) trivial) (.of (c := l1Number.cfg n (l1Number.F n d)) ⟨⟨l1Number.soundF n d, l1Number.gof⟩, trivial⟩)) (tysOK tys1_ok)) (tysOK tys1_ok) Tryd.func37 (fun x => (l1Number.eq n (l1Number.F n d) x.1 x.2).symm)
theorem l1Number.sound (n : Nat) : LSound Tryd.prog 37 (l1Number.mng n) := l1Number.soundF n n

noncomputable def itoaC.f (n : Nat) (a0 : Int) : Option (List UInt8 × Unit) := itoaR a0
noncomputable def itoaC.mng (n : Nat) : Mng := ⟨[.val (.int .i64)], [.val .str], fun x => itoaC.f n x.1⟩
theorem itoaC.gof : GoF Tryd.prog 41 := ⟨_, Tryd.func41, by kernel_rfl, by kernel_rfl⟩
theorem itoaC.sound (n : Nat) : Sound Tryd.prog 41 (itoaC.mng n) := itoa_sound (by kernel_rfl) (fun m h0 h1 w ht => Tryd.strconv_Itoa m h0 h1 w ht)

end Go.AmT
