/- Functions that the law FnExactIsDesk reaches, each as a plain Lean function, and that each does what that says. No condition. -/
import Derived.Test.YtmbapapploiimaaPSt
namespace Go.AmT
open Go Go.Am Go.Proofs
set_option linter.unusedVariables false
set_option maxRecDepth 100000
abbrev tDesk : Ty := (.pair tNetwork (.pair tState IS))
abbrev Desk : Type := Network × (State × List Int)
def zDesk : Desk := (([], []), (([], ([], ([], 0))), []))
def tys3 : List (Nat × TInfo) := [(3, ⟨false, 1, 8, [.int .i64 0], .int .i64, 0, some I, [], false⟩),
  (4, ⟨false, 1, 1, [.bool false], .bool, 0, some .bool, [], false⟩),
  (25, ⟨true, 2, 48, [.nil, .nil], .struct, 0, some tNetwork, [(0, 22), (1, 23)], false⟩),
  (26, ⟨false, 1, 24, [.nil], .slice, 3, some IS, [], false⟩),
  (32, ⟨true, 2, 48, [.nil, .nil], .struct, 0, some tNetwork, [(0, 29), (1, 30)], false⟩),
  (49, ⟨true, 4, 80, [.nil, .nil, .nil, .int .i64 0], .struct, 0, some tState, [(0, 46), (1, 47), (2, 47), (3, 3)], false⟩),
  (51, ⟨true, 7, 152, [.nil, .nil, .nil, .nil, .nil, .int .i64 0, .nil], .struct, 0, some tDesk, [(0, 25), (2, 49), (6, 26)], false⟩),
  (56, ⟨true, 4, 80, [.nil, .nil, .nil, .int .i64 0], .struct, 0, some tState, [(0, 54), (1, 47), (2, 47), (3, 3)], false⟩),
  (58, ⟨true, 7, 152, [.nil, .nil, .nil, .nil, .nil, .int .i64 0, .nil], .struct, 0, some tDesk, [(0, 32), (2, 56), (6, 26)], false⟩)]
theorem tys3_ok : (tys3.all fun p => tokB Try.prog p.1 p.2) = true := by kernel_rfl

def szDesk.las : List (Nat × LA) := []
noncomputable def szDesk.f (n : Nat) (a0 : Desk) (a1 : Int) : Option (Int × Unit) := (szNetwork.f n a0.1 a1).bind fun r1 => br (decide (r1.1 < 0)) (some ((-1), ())) ((szState.f n a0.2.1 r1.1).bind fun r2 => br (decide (r2.1 < 0)) (some ((-1), ())) ((szIntS.f n a0.2.2 r2.1).bind fun r3 => br (decide (r3.1 < 0)) (some ((-1), ())) (some (r3.1, ()))))
noncomputable def szDesk.mng (n : Nat) : Mng := ⟨[.val tDesk, .val I], [.val I], fun x => szDesk.f n x.1 x.2.1⟩
noncomputable def szDesk.cfg (n : Nat) : Cfg := ⟨tys3, [(14, szNetwork.mng n), (46, szState.mng n), (81, szIntS.mng n)], []⟩
theorem szDesk.eq : ∀ (n : Nat) (a0 : Desk) (a1 : Int), runF (szDesk.cfg n) n Try.f31 (annOf Try.f31 szDesk.las) [.val tDesk, .val I] [.val I] (a0, (a1, ())) = szDesk.f n a0 a1 := by
  intros
  kernel_rfl
theorem szDesk.gof : GoF Try.prog 31 := ⟨_, Try.func31, by kernel_rfl, by kernel_rfl⟩
theorem szDesk.sound (n : Nat) : Sound Try.prog 31 (szDesk.mng n) := runF_sound (fn := Try.f31) (m := szDesk.mng n) (c := szDesk.cfg n) (regOK mixed (opOK (.of (c := szDesk.cfg n) ⟨⟨szNetwork.sound n, szNetwork.gof⟩, ⟨⟨szState.sound n, szState.gof⟩, ⟨⟨szIntS.sound n, szIntS.gof⟩, trivial⟩⟩⟩) (.of (c := szDesk.cfg n) trivial)) (tysOK tys3_ok)) (tysOK tys3_ok) Try.func31 (fun x => (szDesk.eq n x.1 x.2.1).symm)

def toDesk.las : List (Nat × LA) := []
noncomputable def toDesk.f (n : Nat) (a0 : Desk) : Option (Desk × Unit) := (toNetwork.f n a0.1).bind fun r1 => (toState.f n a0.2.1).bind fun r2 => (toIntS.f n a0.2.2).bind fun r3 => some ((r1.1, (r2.1, r3.1)), ())
noncomputable def toDesk.mng (n : Nat) : Mng := ⟨[.val tDesk], [.val tDesk], fun x => toDesk.f n x.1⟩
noncomputable def toDesk.cfg (n : Nat) : Cfg := ⟨tys3, [(16, toNetwork.mng n), (48, toState.mng n), (17, toIntS.mng n)], []⟩
theorem toDesk.eq : ∀ (n : Nat) (a0 : Desk), runF (toDesk.cfg n) n Try.f33 (annOf Try.f33 toDesk.las) [.val tDesk] [.val tDesk] (a0, ()) = toDesk.f n a0 := by
  intros
  kernel_rfl
theorem toDesk.gof : GoF Try.prog 33 := ⟨_, Try.func33, by kernel_rfl, by kernel_rfl⟩
theorem toDesk.sound (n : Nat) : Sound Try.prog 33 (toDesk.mng n) := runF_sound (fn := Try.f33) (m := toDesk.mng n) (c := toDesk.cfg n) (regOK mixed (opOK (.of (c := toDesk.cfg n) ⟨⟨toNetwork.sound n, toNetwork.gof⟩, ⟨⟨toState.sound n, toState.gof⟩, ⟨⟨toIntS.sound n, toIntS.gof⟩, trivial⟩⟩⟩) (.of (c := toDesk.cfg n) trivial)) (tysOK tys3_ok)) (tysOK tys3_ok) Try.func33 (fun x => (toDesk.eq n x.1).symm)

def sIsDesk.las : List (Nat × LA) := []
noncomputable def sIsDesk.f (n : Nat) (a0 : Desk) : Option (Bool × Unit) := (sL6Valid.f n a0.1 a0.2.1 a0.2.2).bind fun r1 => some (r1.1, ())
noncomputable def sIsDesk.mng (n : Nat) : Mng := ⟨[.val tDesk], [.val .bool], fun x => sIsDesk.f n x.1⟩
noncomputable def sIsDesk.cfg (n : Nat) : Cfg := ⟨tys3, [(82, sL6Valid.mng n)], []⟩
theorem sIsDesk.eq : ∀ (n : Nat) (a0 : Desk), runF (sIsDesk.cfg n) n Try.f32 (annOf Try.f32 sIsDesk.las) [.val tDesk] [.val .bool] (a0, ()) = sIsDesk.f n a0 := by
  intros
  kernel_rfl
theorem sIsDesk.gof : GoF Try.prog 32 := ⟨_, Try.func32, by kernel_rfl, by kernel_rfl⟩
theorem sIsDesk.sound (n : Nat) : Sound Try.prog 32 (sIsDesk.mng n) := runF_sound (fn := Try.f32) (m := sIsDesk.mng n) (c := sIsDesk.cfg n) (regOK mixed (opOK (.of (c := sIsDesk.cfg n) ⟨⟨sL6Valid.sound n, sL6Valid.gof⟩, trivial⟩) (.of (c := sIsDesk.cfg n) trivial)) (tysOK tys3_ok)) (tysOK tys3_ok) Try.func32 (fun x => (sIsDesk.eq n x.1).symm)

def iIsDesk.las : List (Nat × LA) := []
noncomputable def iIsDesk.f (n : Nat) (a0 : Desk) : Option (Bool × Unit) := (iIsState.f n a0.1 a0.2.1).bind fun r1 => br r1.1 ((iAre.f n a0.1 a0.2.2).bind fun r2 => some (r2.1, ())) (some (false, ()))
noncomputable def iIsDesk.mng (n : Nat) : Mng := ⟨[.val tDesk], [.val .bool], fun x => iIsDesk.f n x.1⟩
noncomputable def iIsDesk.cfg (n : Nat) : Cfg := ⟨tys3, [(83, iIsState.mng n), (18, iAre.mng n)], []⟩
theorem iIsDesk.eq : ∀ (n : Nat) (a0 : Desk), runF (iIsDesk.cfg n) n Try.f34 (annOf Try.f34 iIsDesk.las) [.val tDesk] [.val .bool] (a0, ()) = iIsDesk.f n a0 := by
  intros
  kernel_rfl
theorem iIsDesk.gof : GoF Try.prog 34 := ⟨_, Try.func34, by kernel_rfl, by kernel_rfl⟩
theorem iIsDesk.sound (n : Nat) : Sound Try.prog 34 (iIsDesk.mng n) := runF_sound (fn := Try.f34) (m := iIsDesk.mng n) (c := iIsDesk.cfg n) (regOK mixed (opOK (.of (c := iIsDesk.cfg n) ⟨⟨iIsState.sound n, iIsState.gof⟩, ⟨⟨iAre.sound n, iAre.gof⟩, trivial⟩⟩) (.of (c := iIsDesk.cfg n) trivial)) (tysOK tys3_ok)) (tysOK tys3_ok) Try.func34 (fun x => (iIsDesk.eq n x.1).symm)

def eqDesk.las : List (Nat × LA) := []
noncomputable def eqDesk.f (n : Nat) (a0 : Desk) (a1 : Desk) : Option (Bool × Unit) := (eqNetwork.f n a0.1 a1.1).bind fun r1 => br (!r1.1) (some (false, ())) ((eqState.f n a0.2.1 a1.2.1).bind fun r2 => br (!r2.1) (some (false, ())) ((eqIntS.f n a0.2.2 a1.2.2).bind fun r3 => br (!r3.1) (some (false, ())) (some (true, ()))))
noncomputable def eqDesk.mng (n : Nat) : Mng := ⟨[.val tDesk, .val tDesk], [.val .bool], fun x => eqDesk.f n x.1 x.2.1⟩
noncomputable def eqDesk.cfg (n : Nat) : Cfg := ⟨tys3, [(19, eqNetwork.mng n), (50, eqState.mng n), (20, eqIntS.mng n)], []⟩
theorem eqDesk.eq : ∀ (n : Nat) (a0 : Desk) (a1 : Desk), runF (eqDesk.cfg n) n Try.f35 (annOf Try.f35 eqDesk.las) [.val tDesk, .val tDesk] [.val .bool] (a0, (a1, ())) = eqDesk.f n a0 a1 := by
  intros
  kernel_rfl
theorem eqDesk.gof : GoF Try.prog 35 := ⟨_, Try.func35, by kernel_rfl, by kernel_rfl⟩
theorem eqDesk.sound (n : Nat) : Sound Try.prog 35 (eqDesk.mng n) := runF_sound (fn := Try.f35) (m := eqDesk.mng n) (c := eqDesk.cfg n) (regOK mixed (opOK (.of (c := eqDesk.cfg n) ⟨⟨eqNetwork.sound n, eqNetwork.gof⟩, ⟨⟨eqState.sound n, eqState.gof⟩, ⟨⟨eqIntS.sound n, eqIntS.gof⟩, trivial⟩⟩⟩) (.of (c := eqDesk.cfg n) trivial)) (tysOK tys3_ok)) (tysOK tys3_ok) Try.func35 (fun x => (eqDesk.eq n x.1 x.2.1).symm)

def law.las : List (Nat × LA) := []
noncomputable def law.f (n : Nat) (a0 : Desk) : Option (Bool × Unit) := (szDesk.f n a0 1048576).bind fun r1 => br (decide (r1.1 < 0)) (some (true, ())) ((toDesk.f n a0).bind fun r2 => (sIsDesk.f n r2.1).bind fun r3 => (toDesk.f n a0).bind fun r4 => (iIsDesk.f n r4.1).bind fun r5 => br (!decide (r5.1 = r3.1)) (some (false, ())) ((toDesk.f n a0).bind fun r6 => (eqDesk.f n r4.1 r6.1).bind fun r7 => br (!r7.1) (some (false, ())) (some (true, ()))))
noncomputable def law.mng (n : Nat) : Mng := ⟨[.val tDesk], [.val .bool], fun x => law.f n x.1⟩
noncomputable def law.cfg (n : Nat) : Cfg := ⟨tys3, [(31, szDesk.mng n), (33, toDesk.mng n), (32, sIsDesk.mng n), (34, iIsDesk.mng n), (35, eqDesk.mng n)], []⟩
theorem law.eq : ∀ (n : Nat) (a0 : Desk), runF (law.cfg n) n Try.f7 (annOf Try.f7 law.las) [.val tDesk] [.val .bool] (a0, ()) = law.f n a0 := by
  intros
  kernel_rfl
theorem law.gof : GoF Try.prog 7 := ⟨_, Try.func7, by kernel_rfl, by kernel_rfl⟩
theorem law.sound (n : Nat) : Sound Try.prog 7 (law.mng n) := runF_sound (fn := Try.f7) (m := law.mng n) (c := law.cfg n) (regOK mixed (opOK (.of (c := law.cfg n) ⟨⟨szDesk.sound n, szDesk.gof⟩, ⟨⟨toDesk.sound n, toDesk.gof⟩, ⟨⟨sIsDesk.sound n, sIsDesk.gof⟩, ⟨⟨iIsDesk.sound n, iIsDesk.gof⟩, ⟨⟨eqDesk.sound n, eqDesk.gof⟩, trivial⟩⟩⟩⟩⟩) (.of (c := law.cfg n) trivial)) (tysOK tys3_ok)) (tysOK tys3_ok) Try.func7 (fun x => (law.eq n x.1).symm)
end Go.AmT
