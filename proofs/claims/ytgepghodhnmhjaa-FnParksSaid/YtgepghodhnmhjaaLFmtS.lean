/- Functions that the law FnParks reaches, each as a plain Lean function, and that each does what that says. No condition. -/
import Derived.Test.YtgepghodhnmhjaaPBel
namespace Go.AmT
open Go Go.Am Go.Proofs
set_option linter.unusedVariables false
set_option maxRecDepth 100000
def tys20 : List (Nat × TInfo) := [(3, ⟨false, 1, 8, [.int .i64 0], .int .i64, 0, some I, [], false⟩),
  (5, ⟨false, 1, 1, [.int .u8 0], .int .u8, 0, some U8, [], false⟩),
  (9, ⟨false, 1, 16, [.str []], .str, 0, some .str, [], false⟩),
  (22, ⟨false, 1, 24, [.nil], .slice, 5, some (.sl U8), [], false⟩),
  (26, ⟨true, 2, 48, [.nil, .nil], .struct, 0, some tNetwork, [(0, 23), (1, 24)], false⟩),
  (30, ⟨false, 1, 24, [.nil], .slice, 89, some (.sl tActor), [], false⟩),
  (31, ⟨false, 1, 24, [.nil], .slice, 37, some (.sl IS), [], false⟩),
  (33, ⟨true, 4, 80, [.nil, .nil, .nil, .int .i64 0], .struct, 0, some tState, [(0, 30), (1, 31), (2, 31), (3, 3)], false⟩),
  (37, ⟨false, 1, 24, [.nil], .slice, 3, some IS, [], false⟩),
  (89, ⟨true, 2, 32, [.int .i64 0, .nil], .struct, 0, some tActor, [(0, 3), (1, 37)], false⟩)]
theorem tys20_ok : (tys20.all fun p => tokB Try.prog p.1 p.2) = true := by kernel_rfl

def l1Number.las : List (Nat × LA) := [(7, ⟨[(0, .int .i64), (3, .str)], [], [], []⟩)]
def l1Number.la : LA := ⟨[(0, .int .i64)], [], [], []⟩
def l1Number.lb : LA := ⟨[(0, .str)], [], [], []⟩
noncomputable def l1Number.B (n : Nat) (slf : (Int) → Option ((List UInt8) × Unit)) (a0 : Int) : Option ((List UInt8) × Unit) := br (decide (a0 < 0)) ((slf (w64 (0 - a0))).bind fun r2 => chk (([45] : List UInt8).length + r2.1.length < maxS) (some ((([45] : List UInt8) ++ r2.1), ()))) (iter (α := (Int × (List UInt8) × Unit)) n (fun ih6 x5 => br (decide (0 < x5.1)) (chk ((([(IntKind.wrap .u8 ((w64 (48 + (x5.1.tmod 10)))))] : List Int).map fun n => UInt8.ofNat n.toNat).length + x5.2.1.length < maxS) (ih6 ((w64 (x5.1.tdiv 10)), (((([(IntKind.wrap .u8 ((w64 (48 + (x5.1.tmod 10)))))] : List Int).map fun n => UInt8.ofNat n.toNat) ++ x5.2.1), ())))) (some (x5.2.1, ()))) ((w64 (a0.tdiv 10)), ((([(IntKind.wrap .u8 ((w64 (48 + (a0.tmod 10)))))] : List Int).map fun n => UInt8.ofNat n.toNat), ())))
noncomputable def l1Number.F (n : Nat) : Nat → (Int) → Option ((List UInt8) × Unit)
  | 0 => fun _ => none
  | d + 1 => l1Number.B n (l1Number.F n d)
noncomputable def l1Number.f (n : Nat) (a0 : Int) : Option ((List UInt8) × Unit) := l1Number.F n n a0
noncomputable def l1Number.mngI (n : Nat) (slf : (Int) → Option ((List UInt8) × Unit)) : LMng := ⟨l1Number.la, l1Number.lb, fun x => slf x.1⟩
noncomputable def l1Number.mng (n : Nat) : LMng := ⟨l1Number.la, l1Number.lb, fun x => l1Number.f n x.1⟩
noncomputable def l1Number.cfg (n : Nat) (slf : (Int) → Option ((List UInt8) × Unit)) : Cfg := ⟨tys20, [], [(107, l1Number.mngI n slf)], []⟩
theorem l1Number.eq : ∀ (n : Nat) (slf : (Int) → Option ((List UInt8) × Unit)) (a0 : Int) (mp : Mp), LMng.run (l1Number.cfg n slf) n Try.f107 (annOf Try.f107 l1Number.las) l1Number.la l1Number.lb (a0, mp) = l1Number.B n slf a0 := by
  intros
  kernel_rfl
theorem l1Number.gof : GoF Try.prog 107 := ⟨_, Try.func107, by kernel_rfl, by kernel_rfl⟩
theorem l1Number.soundF (n : Nat) : ∀ d, LSound Try.prog 107 (l1Number.mngI n (l1Number.F n d))
  | 0 => fun _ _ h => nomatch h
  | d + 1 => runL_sound (fn := Try.f107) (M := l1Number.mngI n (l1Number.F n (d + 1))) (c := l1Number.cfg n (l1Number.F n d)) (regOK mixed (opOK (.of (c := l1Number.cfg n (l1Number.F n d)) trivial) (.of (c := l1Number.cfg n (l1Number.F n d)) ⟨⟨l1Number.soundF n d, l1Number.gof⟩, trivial⟩)) (tysOK tys20_ok)) (tysOK tys20_ok) Try.func107 (fun x => (l1Number.eq n (l1Number.F n d) x.1 x.2).symm)
theorem l1Number.sound (n : Nat) : LSound Try.prog 107 (l1Number.mng n) := l1Number.soundF n n

def fmtStream.las : List (Nat × LA) := [(10, ⟨[(3, .str), (19, .int .i64)], [], [17, 18], []⟩)]
noncomputable def fmtStream.f (n : Nat) (a0 : List Int) : Option ((List UInt8) × Unit) := (sIsStream.f n a0).bind fun r1 => br (!r1.1) (some ([], ())) (br (decide ((a0.length : Int) = 0)) (some ([46], ())) (chk ((0 : Int) ≤ 0 ∧ (0 : Int) < (a0.length : Int)) ((l1Number.f n (a0.getD 0 0)).bind fun r2 => chk ((0 : Int) ≤ 1 ∧ (1 : Int) ≤ (a0.length : Int) ∧ (a0.length : Int) ≤ (a0.length : Int)) (iter (α := ((List UInt8) × (Int × Unit))) n (fun ih9 x8 => br (decide (x8.2.1 < (((a0.take (a0.length : Int).toNat).drop 1).length : Int))) (chk (0 ≤ x8.2.1 ∧ x8.2.1 < (((a0.take (a0.length : Int).toNat).drop 1).length : Int)) (let v10 := (((a0.take (a0.length : Int).toNat).drop 1).getD x8.2.1.toNat 0); chk (x8.1.length + ([44] : List UInt8).length < maxS) ((l1Number.f n v10).bind fun r11 => chk ((x8.1 ++ ([44] : List UInt8)).length + r11.1.length < maxS) (ih9 (((x8.1 ++ ([44] : List UInt8)) ++ r11.1), ((w64 (x8.2.1 + 1)), ())))))) (some (x8.1, ()))) (r2.1, (0, ()))))))
noncomputable def fmtStream.mng (n : Nat) : Mng := ⟨[.val IS], [.val .str], fun x => fmtStream.f n x.1⟩
noncomputable def fmtStream.cfg (n : Nat) : Cfg := ⟨tys20, [(85, sIsStream.mng n)], [(107, l1Number.mng n)], []⟩
theorem fmtStream.eq : ∀ (n : Nat) (a0 : List Int), runF (fmtStream.cfg n) n Try.f108 (annOf Try.f108 fmtStream.las) [.val IS] [.val .str] (a0, ()) = fmtStream.f n a0 := by
  intros
  kernel_rfl
theorem fmtStream.gof : GoF Try.prog 108 := ⟨_, Try.func108, by kernel_rfl, by kernel_rfl⟩
theorem fmtStream.sound (n : Nat) : Sound Try.prog 108 (fmtStream.mng n) := runF_sound (fn := Try.f108) (m := fmtStream.mng n) (c := fmtStream.cfg n) (regOK mixed (opOK (.of (c := fmtStream.cfg n) ⟨⟨sIsStream.sound n, sIsStream.gof⟩, trivial⟩) (.of (c := fmtStream.cfg n) ⟨⟨l1Number.sound n, l1Number.gof⟩, trivial⟩)) (tysOK tys20_ok)) (tysOK tys20_ok) Try.func108 (fun x => (fmtStream.eq n x.1).symm)

def fmtState.las : List (Nat × LA) := [(7, ⟨[(5, .str), (22, .int .i64)], [], [3, 20, 21], []⟩), (16, ⟨[(5, .str), (42, .int .i64)], [], [3, 40, 41], []⟩)]
noncomputable def fmtState.f (n : Nat) (a0 : Network) (a1 : State) : Option ((List UInt8) × Unit) := (sIsState.f n a0 a1).bind fun r1 => br (!r1.1) (some ([], ())) ((l1Number.f n a1.2.2.2).bind fun r2 => chk (([115, 116, 101, 112, 115, 32] : List UInt8).length + r2.1.length < maxS) (chk ((([115, 116, 101, 112, 115, 32] : List UInt8) ++ r2.1).length + ([10] : List UInt8).length < maxS) (iter (α := ((List UInt8) × (Int × Unit))) n (fun ih20 x19 => br (decide (x19.2.1 < (a1.1.length : Int))) (chk (0 ≤ x19.2.1 ∧ x19.2.1 < (a1.1.length : Int)) (let v21 := (a1.1.getD x19.2.1.toNat zActor); chk (x19.1.length + ([97, 99, 116, 111, 114, 32] : List UInt8).length < maxS) ((l1Number.f n v21.1).bind fun r22 => chk ((x19.1 ++ ([97, 99, 116, 111, 114, 32] : List UInt8)).length + r22.1.length < maxS) (chk (((x19.1 ++ ([97, 99, 116, 111, 114, 32] : List UInt8)) ++ r22.1).length + ([32] : List UInt8).length < maxS) ((fmtStream.f n v21.2).bind fun r23 => chk ((((x19.1 ++ ([97, 99, 116, 111, 114, 32] : List UInt8)) ++ r22.1) ++ ([32] : List UInt8)).length + r23.1.length < maxS) (chk (((((x19.1 ++ ([97, 99, 116, 111, 114, 32] : List UInt8)) ++ r22.1) ++ ([32] : List UInt8)) ++ r23.1).length + ([10] : List UInt8).length < maxS) (ih20 ((((((x19.1 ++ ([97, 99, 116, 111, 114, 32] : List UInt8)) ++ r22.1) ++ ([32] : List UInt8)) ++ r23.1) ++ ([10] : List UInt8)), ((w64 (x19.2.1 + 1)), ()))))))))) (iter (α := ((List UInt8) × (Int × Unit))) n (fun ih35 x34 => br (decide (x34.2.1 < (a1.2.1.length : Int))) (chk (0 ≤ x34.2.1 ∧ x34.2.1 < (a1.2.1.length : Int)) (let v36 := (a1.2.1.getD x34.2.1.toNat []); chk (x34.1.length + ([113, 117, 101, 117, 101, 32] : List UInt8).length < maxS) ((fmtStream.f n v36).bind fun r37 => chk ((x34.1 ++ ([113, 117, 101, 117, 101, 32] : List UInt8)).length + r37.1.length < maxS) (chk (((x34.1 ++ ([113, 117, 101, 117, 101, 32] : List UInt8)) ++ r37.1).length + ([32] : List UInt8).length < maxS) (chk (0 ≤ x34.2.1 ∧ x34.2.1 < (a1.2.2.1.length : Int)) (let v38 := (a1.2.2.1.getD x34.2.1.toNat []); (fmtStream.f n v38).bind fun r39 => chk ((((x34.1 ++ ([113, 117, 101, 117, 101, 32] : List UInt8)) ++ r37.1) ++ ([32] : List UInt8)).length + r39.1.length < maxS) (chk (((((x34.1 ++ ([113, 117, 101, 117, 101, 32] : List UInt8)) ++ r37.1) ++ ([32] : List UInt8)) ++ r39.1).length + ([10] : List UInt8).length < maxS) (ih35 ((((((x34.1 ++ ([113, 117, 101, 117, 101, 32] : List UInt8)) ++ r37.1) ++ ([32] : List UInt8)) ++ r39.1) ++ ([10] : List UInt8)), ((w64 (x34.2.1 + 1)), ())))))))))) (some (x34.1, ()))) (x19.1, (0, ())))) (((([115, 116, 101, 112, 115, 32] : List UInt8) ++ r2.1) ++ ([10] : List UInt8)), (0, ())))))
noncomputable def fmtState.mng (n : Nat) : Mng := ⟨[.val tNetwork, .val tState], [.val .str], fun x => fmtState.f n x.1 x.2.1⟩
noncomputable def fmtState.cfg (n : Nat) : Cfg := ⟨tys20, [(31, sIsState.mng n), (108, fmtStream.mng n)], [(107, l1Number.mng n)], []⟩
theorem fmtState.eq : ∀ (n : Nat) (a0 : Network) (a1 : State), runF (fmtState.cfg n) n Try.f79 (annOf Try.f79 fmtState.las) [.val tNetwork, .val tState] [.val .str] (a0, (a1, ())) = fmtState.f n a0 a1 := by
  intros
  kernel_rfl
theorem fmtState.gof : GoF Try.prog 79 := ⟨_, Try.func79, by kernel_rfl, by kernel_rfl⟩
theorem fmtState.sound (n : Nat) : Sound Try.prog 79 (fmtState.mng n) := runF_sound (fn := Try.f79) (m := fmtState.mng n) (c := fmtState.cfg n) (regOK mixed (opOK (.of (c := fmtState.cfg n) ⟨⟨sIsState.sound n, sIsState.gof⟩, ⟨⟨fmtStream.sound n, fmtStream.gof⟩, trivial⟩⟩) (.of (c := fmtState.cfg n) ⟨⟨l1Number.sound n, l1Number.gof⟩, trivial⟩)) (tysOK tys20_ok)) (tysOK tys20_ok) Try.func79 (fun x => (fmtState.eq n x.1 x.2.1).symm)

def statesB.las : List (Nat × LA) := []
noncomputable def statesB.f (n : Nat) (a0 : Network) (a1 : State) (a2 : State) : Option (Bool × Unit) := (fmtState.f n a0 a1).bind fun r1 => br (!decide (r1.1 = ([] : List UInt8))) ((fmtState.f n a0 a2).bind fun r2 => some ((decide (r1.1 = r2.1)), ())) (some (false, ()))
noncomputable def statesB.mng (n : Nat) : Mng := ⟨[.val tNetwork, .val tState, .val tState], [.val .bool], fun x => statesB.f n x.1 x.2.1 x.2.2.1⟩
noncomputable def statesB.cfg (n : Nat) : Cfg := ⟨tys20, [(79, fmtState.mng n)], [], []⟩
theorem statesB.eq : ∀ (n : Nat) (a0 : Network) (a1 : State) (a2 : State), runF (statesB.cfg n) n Try.f25 (annOf Try.f25 statesB.las) [.val tNetwork, .val tState, .val tState] [.val .bool] (a0, (a1, (a2, ()))) = statesB.f n a0 a1 a2 := by
  intros
  kernel_rfl
theorem statesB.gof : GoF Try.prog 25 := ⟨_, Try.func25, by kernel_rfl, by kernel_rfl⟩
theorem statesB.sound (n : Nat) : Sound Try.prog 25 (statesB.mng n) := runF_sound (fn := Try.f25) (m := statesB.mng n) (c := statesB.cfg n) (regOK mixed (opOK (.of (c := statesB.cfg n) ⟨⟨fmtState.sound n, fmtState.gof⟩, trivial⟩) (.of (c := statesB.cfg n) trivial)) (tysOK tys20_ok)) (tysOK tys20_ok) Try.func25 (fun x => (statesB.eq n x.1 x.2.1 x.2.2.1).symm)
end Go.AmT
